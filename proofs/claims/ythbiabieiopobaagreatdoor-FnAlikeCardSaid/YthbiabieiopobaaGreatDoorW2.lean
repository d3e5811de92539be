/- Plain functions, and that the evaluator computes them. -/
import Derived.Test.YthbiabieiopobaaGreatDoorW1
namespace Go.Proofs.YthbiabieiopobaaGreatDoor
open Go Go.Rf
set_option linter.unusedVariables false
set_option linter.unusedSimpArgs false
noncomputable section
def m63 (a0:Af) (a1:Int) (a2:List Ai) (a3:Int) (a4:Int):Option (Int):=( bif !(m94 a3) then some (LO.ret 3) else bif !(m95 a4) then some (LO.ret 3) else bif !(m96 a0) then some (LO.ret 8) else (m97 a1 a0.View).bind fun y1=>bif a0.Id != y1 then some (LO.ret 8) else (m98 a0 a2 1 a3).bind fun y2=>bif y2 then some (LO.ret 6) else bif decide (a3 > 1) then (m98 a0 a2 1 (wi .i64 (a3 - 1))).bind fun y3=>bif !y3 then some (LO.ret 4) else some (LO.norm 0) else some (LO.norm 0)).bind (Ak (fun s2=>( bif a0.Start != (-1) then (Av a2 a0.Start).bind fun x1=>(m99 a2 x1.Refs).bind fun y4=>some (LO.norm y4) else some (LO.norm [])).bind (Ak (fun s4=>bif decide (a3≤(s4.length:Int)) then (Av s4 (wi .i64 (a3 - 1))).bind fun x2=>bif a4 != x2 then some 1 else some 0 else ( bif a4 == 0 then some (LO.ret 1) else (KH a0 a2 1 a4).bind fun y5=>bif y5 then some (LO.ret 1) else some (LO.norm s2)).bind (Ak (fun s6=>some 0) (fun i3 s6=>none) (fun s6=>some s6))) (fun i2 s4=>none) (fun s4=>some s2))) (fun i1 s2=>none) (fun s2=>some s2))
theorem w63 {d:Nat} (hd:8≤d) (k0:Bool) (a0:Af) (a1:Int) (k2:Bool) (a2:List Ai) (a3:Int) (a4:Int):Fit (R NN d 63 [.rp k0 (Enc.cs k0 a0),iW a1,.rsl k2 false (a2.map (Enc.cs k2)),iW a3,iW a4] []) (m63 a0 a1 a2 a3 a4) PI:=by
  obtain ⟨d,rfl,g⟩:=up hd
  refine AD (t63 NN d _ _ _ _ _) ?_
  unfold b63 m63
  refine AG (n:=1) rfl rfl (by decide) fun b1=>Bo (A:=fun (s:Int)=>[iW s]) (B:=fun s=>[bx b1 [iW a4]]) ?_ ?_ ?_ ?_
  ·refine AS (aF1 (Ad rfl) fun l0_=>w94 (by omega) a3)<|q_p fr<|q_j ?_ ?_
   ·first | refine BW ?_ | skip
    exact Ar 0 rr
   ·refine Ao 0 rfl rfl<|AS (aF1 (Ad rfl) fun l0_=>w95 (by omega) a4)<|q_p fr<|q_i ?_ ?_
    ·exact Ar 0 rr
    ·refine AS (aF1 (AZ (Aq (l0:=k0) (x:=a0)) (fun _ _ _ h=>Enc.frz k0 a0 _ _ _ h)) fun l0_=>w96 (by omega) l0_ a0)<|q_p fr<|q_j ?_ ?_
     ·first | refine BW ?_ | skip
      exact Ar 0 rr
     ·refine q_q fr<|q_p fr<|q_p fr<|q_q fr<|q_p fr<|q_p fr<|A7 (aF2 (Ad rfl) (Ad rfl) fun l0_ l1_=>w97 (by omega) a1 a0.View) fun y1 hy1=>q_p fr<|q_i ?_ ?_
      ·exact Ar 0 rr
      ·refine A7 (fun S hS=>FM (AZ (Aq (l0:=k0) (x:=a0)) (fun _ _ _ h=>Enc.frz k0 a0 _ _ _ h)) As (Ad rfl) (Ad rfl) hS fun l0_ l1_ l2_ l3_=>w98 (by omega) l0_ a0 l1_ a2 1 a3) fun y2 hy2=>q_i ?_ ?_
       ·exact Ar 0 rr
       ·refine q_p fr<|q_k ?_ ?_
        ·exact q_p fr<|A7 (fun S hS=>FM (AZ (Aq (l0:=k0) (x:=a0)) (fun _ _ _ h=>Enc.frz k0 a0 _ _ _ h)) As (Ad rfl) (Ad rfl) hS fun l0_ l1_ l2_ l3_=>w98 (by omega) l0_ a0 l1_ a2 1 (wi .i64 (a3 - 1))) fun y3 hy3=>q_p fr<|q_i (Ar 0 rr)<|Ae 0 rr
        ·first | refine CZ ?_ | skip
         exact Ae 0 rr
  ·intro s2
   refine DD (I:=(fun (s:(List Int)) l L=>∃ (fl1:Bool),l = [.rsl false fl1 (s.map (Enc.cs false))]∧L = [bx b1 [iW a4]])) ?_ ?_ ?_ ?_
   ·exact q_q fr<|q_p fr<|q_p fr<|q_p fr<|q_i (q_q fr<|q_p fr<|q_p fr<|Bf rfl fun x1 hx1=>q_p fr<|q_p fr<|A7 (aF2 As As fun l0_ l1_=>w99 (by omega) l0_ a2 l1_ x1.Refs) fun y4 hy4=>Ae 0 ⟨false,rfl,rfl⟩)<|Ae 0 ⟨true,rfl,rfl⟩
   ·rintro s4 _ _ ⟨fl1,rfl,rfl⟩
    refine AL<|q_p fr<|q_i ?_ ?_
    ·exact Ao 0 rfl rfl<|q_p fr<|Bf rfl fun x2 hx2=>q_p fr<|q_p fr<|q_i (Am (Ad rfl) rfl)<|Am (Ad rfl) rfl
    ·refine Bo (A:=fun (s:Int)=>[iW s]) (B:=fun s=>[bx b1 [iW a4]]) ?_ ?_ ?_ ?_
     ·refine Ao 0 rfl rfl<|q_p fr<|q_j ?_ ?_
      ·first | refine BW ?_ | skip
       exact Ar 0 rr
      ·exact A7 (fun S hS=>FM (AZ (Aq (l0:=k0) (x:=a0)) (fun _ _ _ h=>Enc.frz k0 a0 _ _ _ h)) As (Ad rfl) (BC (Aa (B9 0 rfl (Aq (l0:=false) (x:=a4))) Ah)) hS fun l0_ l1_ l2_ l3_=>bV (by omega) l0_ a0 l1_ a2 1 l3_ a4) fun y5 hy5=>q_i (Ar 0 rr)<|Ae 0 rr
     ·exact fun s6=>Am (Ad rfl) rfl
     ·exact fun i3 s6=>A4
     ·exact fun s6=>Am (Ad rfl) rfl
   ·rintro i2 s4 _ _ ⟨fl2,rfl,rfl⟩
    exact A4
   ·rintro s4 _ _ ⟨fl3,rfl,rfl⟩
    exact Am (Ad rfl) rfl
  ·exact fun i1 s2=>A4
  ·exact fun s2=>Am (Ad rfl) rfl
def eA (a0:List Ai):Option (List Ai):=Bw 88 [] a0
theorem gQ {d:Nat} (hd:1≤d) (v:AV) (S:St):R NN d 134 [v] S = pk (Ec Tryz.prog 26 v) S fun r1=>ifA r1 (some (AV.rsl false true [],S)) (pq (AN (A3 Tryz.prog 26 0 [] S) S) fun r2=>pe (BJ 7 88 r2 v S) fun r3 S3=>some (r3,S3)):=by
  obtain ⟨d,rfl,g⟩:=up hd
  exact t134 NN d v S
def TC (a0:List Ai) (a1:Ai):Option ((List Ai)×Int):=(m77 a1 (a0.length:Int)).bind fun y1=>bif !y1 then some ([],4) else (m73 a0 a1).bind fun y2=>bif decide (y2 ≥ 0) then some (a0,0) else bif (a0.length:Int) == 240 then some ([],2) else (eA a0).bind fun z1=>(Ov a1).bind fun y3=>(Bw 88 z1 [y3]).bind fun z2=>some (z2,0)
theorem w105 {d:Nat} (hd:6≤d) (L0:List En) (i0_:List Nat) (v0_:AV) (a0:List Ai) (c1_0 c1_1 c1_2 c1_3 c1_4 c1_5 c1_6:AV) (a1:Ai) (hc1:CVs 7 [] false [c1_0,c1_1,c1_2,c1_3,c1_4,c1_5,c1_6] (fun l=>Enc.cs l a1)):Okh (wls i0_ v0_ (a0:List Ai)::L0) (fun S=>R NN d 105 [v0_,.agg [c1_0,c1_1,c1_2,c1_3,c1_4,c1_5,c1_6]] S) (TC a0 a1) (P8 i0_ v0_ a0 L0):=by
  obtain ⟨d,rfl,g⟩:=up hd
  refine Do (t105 NN d _ _) ?_
  unfold nL TC
  exact AG (n:=7) rfl rfl (by decide) fun b1=>A9 0 rfl rfl rfl<|Vt 1 rfl<|A7 (aF2 (A8 (CVs.any hc1)) (Ad rfl) fun l0_ l1_=>w77 (by omega) l0_ a1 (a0.length:Int)) fun y1 hy1=>q_p fr<|q_i (ZP 1 (by decide) rfl rfl)<|A9 0 rfl rfl rfl<|A7 (aF2 (CN (α:=Ai) 1 rfl) (A8 (CVs.any hc1)) fun l0_ l1_=>w73 (by omega) l0_ a0 l1_ a1) fun y2 hy2=>q_p fr<|q_i (Dt 2 [1,0] (by decide) (by decide)<|Dt 2 [1,0] (by decide) (by decide)<|ZO 1 (by decide) rfl rfl)<|Vt 1 rfl<|q_p fr<|q_i (ZP 1 (by decide) rfl rfl)<|A9 0 rfl rfl rfl<|Dt 2 [1,0] (by decide) (by decide)<|QR (mg:=eA a0) (fun S=>gQ (by omega) _ S) iI Vm rfl rfl fun z1 hz1 i1 v1=>A7 (aF1 (A8 (CVs.any hc1)) fun l0_=>gU (by omega) l0_ a1) fun y3 hy3=>q_e (fun _=>eZ rfl)<|QS (y:=y3) (l:=false) (fl':=true) rfl fun z2 hz2 v2 i2=>jH<|Dt 2 [1,0] (by decide) (by decide)<|ZO 1 (by decide) rfl rfl
def m71 (a0:Ab) (a1:Ai):Option (Int×Ab):=(TC a0.Ledger a1).bind fun y1=>bif y1.2 == 0 then some (y1.2,(⟨a0.F,a0.Bad,a0.Replicas,y1.1,a0.Requests⟩:Ab)) else some (y1.2,a0)
theorem w71 {d:Nat} (hd:7≤d) (L0:List En) (b0_:Nat) (i0_1 i0_2 i0_3 i0_4:List Nat) (v0_1 v0_2 v0_3 v0_4:AV) (a0:Ab) (c1_0 c1_1 c1_2 c1_3 c1_4 c1_5 c1_6:AV) (a1:Ai) (hc1:CVs 7 [] false [c1_0,c1_1,c1_2,c1_3,c1_4,c1_5,c1_6] (fun l=>Enc.cs l a1)):Okh (bx b0_ [iW a0.F,v0_1,v0_2,v0_3,v0_4]::tr i0_1 [v0_1] (a0.Bad:List Int)::tr i0_2 [v0_2] (a0.Replicas:List Af)::wls i0_3 v0_3 (a0.Ledger:List Ai)::wla i0_4 v0_4 (a0.Requests:List Ag)::L0) (fun S=>R NN d 71 [.bp b0_ 0 0 5 1,.agg [c1_0,c1_1,c1_2,c1_3,c1_4,c1_5,c1_6]] S) (m71 a0 a1) (P5 (fun (x:List Nat×List Nat×AV×AV) (t:Int×Ab)=>AV.int .i64 t.1) (fun (x:List Nat×List Nat×AV×AV) (t:Int×Ab)=>bx b0_ [iW t.2.F,v0_1,v0_2,x.2.2.1,x.2.2.2]::tr i0_1 [v0_1] (t.2.Bad:List Int)::tr i0_2 [v0_2] (t.2.Replicas:List Af)::wls x.1 x.2.2.1 (t.2.Ledger:List Ai)::wla x.2.1 x.2.2.2 (t.2.Requests:List Ag)::L0)):=by
  obtain ⟨d,rfl,g⟩:=up hd
  refine Do (t71 NN d _ _) ?_
  unfold b71 m71
  exact AG (n:=7) rfl rfl (by decide) fun b1=>q_q fr<|q_p fr<|Ao 1 rfl rfl<|A9 0 rfl rfl rfl<|Dt 6 [4,0,1,2,3,5] (by decide) (by decide)<|q_s8 (mg:=TC a0.Ledger a1) (w105 (by omega) _ i0_3 v0_3 a0.Ledger c1_0 c1_1 c1_2 c1_3 c1_4 c1_5 c1_6 a1 hc1) (fun y1 hy1 hky1 i1 w1=>q_q fr<|q_q fr<|q_p fr<|cQ hky1<|q_q fr<|q_p fr<|F9 2 rfl (fun S hS=>(HP.cells_ hS 0 rfl)) rfl<|Dt 6 [1,2,3,4,0,5] (by decide) (by decide)<|AU (i1,i0_4,w1,v0_4) 1 rfl rfl) fun y1 hy1 hky1=>q_q fr<|q_q fr<|q_p fr<|cR hky1<|Dt 6 [1,2,3,4,0,5] (by decide) (by decide)<|AU (i0_3,i0_4,v0_3,v0_4) 1 rfl rfl
def m64 (a0:Ab) (a1:Int) (a2:Int) (a3:Int) (a4:Int):Option (Int×Ab):=(Av a0.Replicas a1).bind fun x1=>(Av a0.Replicas a1).bind fun x2=>(Av a0.Replicas a1).bind fun x3=>(Av a0.Replicas a1).bind fun x4=>(Av a0.Replicas a1).bind fun x5=>(Av a0.Replicas a1).bind fun x6=>(m71 a0 (⟨a2,x3.View,x6.Id,a3,a4,[],[]⟩:Ai)).bind fun y1=>some (y1.1,y1.2)
theorem w64 {d:Nat} (hd:8≤d) (L0:List En) (b0_:Nat) (i0_1 i0_2 i0_3 i0_4:List Nat) (v0_1 v0_2 v0_3 v0_4:AV) (a0:Ab) (a1:Int) (a2:Int) (a3:Int) (a4:Int):Okh (bx b0_ [iW a0.F,v0_1,v0_2,v0_3,v0_4]::tr i0_1 [v0_1] (a0.Bad:List Int)::tr i0_2 [v0_2] (a0.Replicas:List Af)::wls i0_3 v0_3 (a0.Ledger:List Ai)::wla i0_4 v0_4 (a0.Requests:List Ag)::L0) (fun S=>R NN d 64 [.bp b0_ 0 0 5 1,elP 4 v0_2 (Int.toNat a1),iW a2,iW a3,iW a4] S) (m64 a0 a1 a2 a3 a4) (P5 (fun (x:List Nat×List Nat×AV×AV) (t:Int×Ab)=>AV.int .i64 t.1) (fun (x:List Nat×List Nat×AV×AV) (t:Int×Ab)=>bx b0_ [iW t.2.F,v0_1,v0_2,x.2.2.1,x.2.2.2]::tr i0_1 [v0_1] (t.2.Bad:List Int)::tr i0_2 [v0_2] (t.2.Replicas:List Af)::wls x.1 x.2.2.1 (t.2.Ledger:List Ai)::wla x.2.1 x.2.2.2 (t.2.Requests:List Ag)::L0)):=by
  obtain ⟨d,rfl,g⟩:=up hd
  refine Do (t64 NN d _ _ _ _ _) ?_
  unfold b64 m64
  exact Cc fun x1 hx1=>EF 2 rfl hx1<|Cc fun x2 hx2=>EJ 2 rfl hx2 (by decide)<|Cc fun x3 hx3=>Ja 2 rfl rfl hx3 LM<|Cc fun x4 hx4=>EF 2 rfl hx4<|Cc fun x5 hx5=>EJ 2 rfl hx5 (by decide)<|Cc fun x6 hx6=>Ja 2 rfl rfl hx6 Yd<|q_p (fun _=>G8 rfl)<|D5 (mg:=m71 a0 (⟨a2,x3.View,x6.Id,a3,a4,[],[]⟩:Ai)) (fun S=>rfl) (w71 (by omega) _ b0_ i0_1 i0_2 i0_3 i0_4 v0_1 v0_2 v0_3 v0_4 a0 (AV.int .i64 a2) (AV.int .i64 x3.View) (AV.int .i64 x6.Id) (AV.int .i64 a3) (AV.int .i64 a4) (AV.rsl false true []) (AV.rsl false true []) (⟨a2,x3.View,x6.Id,a3,a4,[],[]⟩:Ai) (Aa (Ad rfl) (Aa (Ad rfl) (Aa (Ad rfl) (Aa (Ad rfl) (Aa (Ad rfl) (Aa (As (α:=AP) (l0:=false) (fl:=true) (xs:=[])) (Aa (As (α:=Int) (l0:=false) (fl:=true) (xs:=[])) Ah)))))))) fun y1 hy1 ⟨i1,i2,v1,v2⟩=>AU (i1,i2,v1,v2) 0 rfl rfl
def m62 (a0:Ab) (a1:Int) (a2:Int) (a3:Int):Option (Int×Ab):=(Av a0.Replicas a1).bind fun x1=>(m63 x1 a0.F a0.Ledger a2 a3).bind fun y1=>bif y1 != 0 then some (y1,a0) else bif !(m52 a0 a3) then some (4,a0) else (m64 a0 a1 1 a2 a3).bind fun y2=>some (y2.1,y2.2)
theorem w62 {d:Nat} (hd:9≤d) (L0:List En) (b0_:Nat) (i0_1 i0_2 i0_3 i0_4:List Nat) (v0_1 v0_2 v0_3 v0_4:AV) (a0:Ab) (a1:Int) (k2:Bool) (a2:Int) (k3:Bool) (a3:Int):Okh (bx b0_ [iW a0.F,v0_1,v0_2,v0_3,v0_4]::tr i0_1 [v0_1] (a0.Bad:List Int)::tr i0_2 [v0_2] (a0.Replicas:List Af)::wls i0_3 v0_3 (a0.Ledger:List Ai)::wla i0_4 v0_4 (a0.Requests:List Ag)::L0) (fun S=>R NN d 62 [.bp b0_ 0 0 5 1,elP 4 v0_2 (Int.toNat a1),.rp k2 (Enc.cs k2 a2),.rp k3 (Enc.cs k3 a3)] S) (m62 a0 a1 a2 a3) (P5 (fun (x:List Nat×List Nat×AV×AV) (t:Int×Ab)=>AV.int .i64 t.1) (fun (x:List Nat×List Nat×AV×AV) (t:Int×Ab)=>bx b0_ [iW t.2.F,v0_1,v0_2,x.2.2.1,x.2.2.2]::tr i0_1 [v0_1] (t.2.Bad:List Int)::tr i0_2 [v0_2] (t.2.Replicas:List Af)::wls x.1 x.2.2.1 (t.2.Ledger:List Ai)::wla x.2.1 x.2.2.2 (t.2.Requests:List Ag)::L0)):=by
  obtain ⟨d,rfl,g⟩:=up hd
  refine Do (t62 NN d _ _ _ _) ?_
  unfold b62 m62
  exact q_q fr<|q_p fr<|Ao 0 rfl rfl<|q_q fr<|q_p fr<|Ao 0 rfl rfl<|q_p fr<|q_p fr<|Cc fun x1 hx1=>A7 (fun S hS=>Si (OG 2 rfl rfl hx1) (Ad rfl) (CN (α:=Ai) 3 rfl) (Ad rfl) (Ad rfl) hS fun l0_ l1_ l2_ l3_ l4_=>w63 (by omega) l0_ x1 a0.F l2_ a0.Ledger a2 a3) fun y1 hy1=>q_p fr<|q_i (AU (i0_3,i0_4,v0_3,v0_4) 0 rfl rfl)<|q_p fr<|AS (aF2 (B9 0 rfl (Aa (Ad rfl) (Aa (Cb 1 rfl) (Aa (Cb 2 rfl) (Aa (CN (α:=Ai) 3 rfl) (Aa (DZ (α:=Ag) 4 rfl) Ah)))))) (Ad rfl) fun l0_ l1_=>w52 (by omega) l0_ a0 a3)<|q_p fr<|q_i (AU (i0_3,i0_4,v0_3,v0_4) 0 rfl rfl)<|q_p fr<|q_p fr<|D5 (mg:=m64 a0 a1 1 a2 a3) (fun S=>rfl) (w64 (by omega) _ b0_ i0_1 i0_2 i0_3 i0_4 v0_1 v0_2 v0_3 v0_4 a0 a1 1 a2 a3) fun y2 hy2 ⟨i1,i2,v1,v2⟩=>AU (i1,i2,v1,v2) 0 rfl rfl
def m61 (a0:Ab) (a1:Int) (a2_0:Int) (a2_1:Int):Option (Int×Ab):=(Gg a0 a1).bind fun y1=>FZ y1 ( some (4,a0)) fun r1=>(Av a0.Replicas r1).bind fun x2=>(m62 a0 r1 a2_0 a2_1).bind fun y2=>some (y2.1,y2.2)
theorem w61 {d:Nat} (hd:10≤d) (L0:List En) (b0_:Nat) (i0_1 i0_2 i0_3 i0_4:List Nat) (v0_1 v0_2 v0_3 v0_4:AV) (a0:Ab) (a1:Int) (k2_0:Bool) (a2_0:Int) (k2_1:Bool) (a2_1:Int):Okh (bx b0_ [iW a0.F,v0_1,v0_2,v0_3,v0_4]::tr i0_1 [v0_1] (a0.Bad:List Int)::tr i0_2 [v0_2] (a0.Replicas:List Af)::wls i0_3 v0_3 (a0.Ledger:List Ai)::wla i0_4 v0_4 (a0.Requests:List Ag)::L0) (fun S=>R NN d 61 [.bp b0_ 0 0 5 1,iW a1,.fn 62 [.rp k2_0 (Enc.cs k2_0 a2_0),.rp k2_1 (Enc.cs k2_1 a2_1)]] S) (m61 a0 a1 a2_0 a2_1) (P5 (fun (x:List Nat×List Nat×AV×AV) (t:Int×Ab)=>AV.int .i64 t.1) (fun (x:List Nat×List Nat×AV×AV) (t:Int×Ab)=>bx b0_ [iW t.2.F,v0_1,v0_2,x.2.2.1,x.2.2.2]::tr i0_1 [v0_1] (t.2.Bad:List Int)::tr i0_2 [v0_2] (t.2.Replicas:List Af)::wls x.1 x.2.2.1 (t.2.Ledger:List Ai)::wla x.2.1 x.2.2.2 (t.2.Requests:List Ag)::L0)):=by
  obtain ⟨d,rfl,g⟩:=up hd
  refine Do (t61 NN d _ _ _) ?_
  unfold b61 m61
  refine HN (mg:=Gg a0 a1) (v0:=fun _=>AV.nilp) (v1:=fun x r=>elP 4 v0_2 (Int.toNat r)) (fun _=>rfl) (fun _ _=>rfl) (Ph (by omega) _ b0_ i0_1 i0_2 i0_3 i0_4 v0_1 v0_2 v0_3 v0_4 a0 a1) (fun x1=>?_) (fun r1 x1 hy1=>?_)
  ·refine q_p (fun _=>Fj) ?_
   first | refine BW ?_ | skip
   exact AU (i0_3,i0_4,v0_3,v0_4) 0 rfl rfl
  ·refine Cc fun x2 hx2=>PL (f:=fun a=>D1 Tryz.prog .eql 68 a .nilp) 2 rfl hx2 (fun _ _ _ _ _=>FY _ _ _ _ _) ?_
   first | refine CZ ?_ | skip
   exact D5 (mg:=m62 a0 r1 a2_0 a2_1) (fun S=>YR _ _ _ _) (w62 (by omega) _ b0_ i0_1 i0_2 i0_3 i0_4 v0_1 v0_2 v0_3 v0_4 a0 r1 k2_0 a2_0 k2_1 a2_1) fun y2 hy2 ⟨i1,i2,v1,v2⟩=>AU (i1,i2,v1,v2) 0 rfl rfl
def m60 (a0:Ab) (a1:Int) (a2_0:Int) (a2_1:Int):Option (Int×Ab):=(m61 a0 a1 a2_0 a2_1).bind fun y1=>some (y1.1,y1.2)
theorem w60 {d:Nat} (hd:11≤d) (L0:List En) (b0_:Nat) (i0_1 i0_2 i0_3 i0_4:List Nat) (v0_1 v0_2 v0_3 v0_4:AV) (a0:Ab) (k1:Bool) (a1:Int) (k2:Bool) (k2_0:Bool) (a2_0:Int) (k2_1:Bool) (a2_1:Int):Okh (bx b0_ [iW a0.F,v0_1,v0_2,v0_3,v0_4]::tr i0_1 [v0_1] (a0.Bad:List Int)::tr i0_2 [v0_2] (a0.Replicas:List Af)::wls i0_3 v0_3 (a0.Ledger:List Ai)::wla i0_4 v0_4 (a0.Requests:List Ag)::L0) (fun S=>R NN d 60 [.bp b0_ 0 0 5 1,.rp k1 (Enc.cs k1 a1),.rp k2 [.fn 62 [.rp k2_0 (Enc.cs k2_0 a2_0),.rp k2_1 (Enc.cs k2_1 a2_1)]]] S) (m60 a0 a1 a2_0 a2_1) (P5 (fun (x:List Nat×List Nat×AV×AV) (t:Int×Ab)=>AV.int .i64 t.1) (fun (x:List Nat×List Nat×AV×AV) (t:Int×Ab)=>bx b0_ [iW t.2.F,v0_1,v0_2,x.2.2.1,x.2.2.2]::tr i0_1 [v0_1] (t.2.Bad:List Int)::tr i0_2 [v0_2] (t.2.Replicas:List Af)::wls x.1 x.2.2.1 (t.2.Ledger:List Ai)::wla x.2.1 x.2.2.2 (t.2.Requests:List Ag)::L0)):=by
  obtain ⟨d,rfl,g⟩:=up hd
  refine Do (t60 NN d _ _ _) ?_
  unfold b60 m60
  exact q_p fr<|q_p fr<|D5 (mg:=m61 a0 a1 a2_0 a2_1) (fun S=>rfl) (w61 (by omega) _ b0_ i0_1 i0_2 i0_3 i0_4 v0_1 v0_2 v0_3 v0_4 a0 a1 k2_0 a2_0 k2_1 a2_1) fun y1 hy1 ⟨i1,i2,v1,v2⟩=>AU (i1,i2,v1,v2) 0 rfl rfl
def m31 (a0:Ab) (a1_0:Int) (a1_1_0:Int) (a1_1_1:Int):Option (Ac):=(m20 a0).bind fun y1=>bif y1 != 0 then some (⟨y1,(⟨0,[],[],[],[]⟩:Ab)⟩:Ac) else (m59 a0).bind fun y2=>(m60 y2 a1_0 a1_1_0 a1_1_1).bind fun y3=>bif y3.1 != 0 then some (⟨y3.1,(⟨0,[],[],[],[]⟩:Ab)⟩:Ac) else (m59 y3.2).bind fun y4=>some (⟨0,y4⟩:Ac)
theorem w31 {d:Nat} (hd:144≤d) (k0:Bool) (a0:Ab) (k1_0:Bool) (a1_0:Int) (k1_1:Bool) (k1_1_0:Bool) (a1_1_0:Int) (k1_1_1:Bool) (a1_1_1:Int):Fit (R NN d 31 [.agg (Enc.cs k0 a0),.fn 60 [.rp k1_0 (Enc.cs k1_0 a1_0),.rp k1_1 [.fn 62 [.rp k1_1_0 (Enc.cs k1_1_0 a1_1_0),.rp k1_1_1 (Enc.cs k1_1_1 a1_1_1)]]]] []) (m31 a0 a1_0 a1_1_0 a1_1_1) (P1 (T:=Ac) AV.agg):=by
  obtain ⟨d,rfl,g⟩:=up hd
  refine AD (t31 NN d _ _) ?_
  unfold b31 m31
  refine AG (n:=5) rfl rfl (by decide) fun b1=>AE rfl fun b2=>A9 1 rfl rfl rfl<|A7 (aF1 (A8 (Aq (l0:=k0) (x:=a0))) fun l0_=>w20 (by omega) l0_ a0) fun y1 hy1=>q_p fr<|q_i ?_ ?_
  ·exact q_p (fun _=>CQ rfl)<|A6 0 rfl rfl rfl (by decide) rfl<|Bn (fun S hS=>hS.lda 0 rfl rfl) (Bh (α:=Ac) (β:=Int×Ab) (f:=fun x=>(x.Code,x.Cluster)) (x:=(⟨y1,(⟨0,[],[],[],[]⟩:Ab)⟩:Ac)) rfl (Ap (AO (n:=y1)) (Bh (α:=Ab) (β:=Int×(List Int)×(List Af)×(List Ai)×(List Ag)) (f:=fun x=>(x.F,x.Bad,x.Replicas,x.Ledger,x.Requests)) (x:=(⟨0,[],[],[],[]⟩:Ab)) rfl (Ap (AO (n:=0)) (Ap (AA (α:=Int) (fl:=true)) (Ap (AA (α:=Af) (fl:=true)) (Ap (AA (α:=Ai) (fl:=true)) (AA (α:=Ag) (fl:=true))))))))) rfl
  ·refine A9 1 rfl rfl rfl<|HQ (mg:=m59 a0) (aF1 (A8 (Aq (l0:=k0) (x:=a0))) fun l0_=>w59 (by omega) l0_ a0) fun y2 hy2 i1 cs1 hq_=>Ez (fun S hS=>Eu (hS.get (k:=0) rfl)) fun hcs_=>?_
   obtain ⟨v1,v2,v3,v4,rfl⟩:=hcs_
   refine HM (x:=(y2.F,y2.Bad,y2.Replicas,y2.Ledger,y2.Requests)) hq_ rfl (fun _ h=>h) fun i2 i3 i4 i5=>AE rfl fun b3=>A6 0 rfl rfl rfl (by decide) rfl<|D5 (mg:=m60 y2 a1_0 a1_1_0 a1_1_1) (fun S=>YS _ _ _ _) (w60 (by omega) _ b3 i2 i3 i4 i5 v1 v2 v3 v4 y2 k1_0 a1_0 k1_1 k1_1_0 a1_1_0 k1_1_1 a1_1_1) fun y3 hy3 ⟨i6,i7,v5,v6⟩=>q_p fr<|q_i ?_ ?_
   ·exact q_p (fun _=>CQ rfl)<|A6 5 rfl rfl rfl (by decide) rfl<|Bn (fun S hS=>hS.lda 5 rfl rfl) (Bh (α:=Ac) (β:=Int×Ab) (f:=fun x=>(x.Code,x.Cluster)) (x:=(⟨y3.1,(⟨0,[],[],[],[]⟩:Ab)⟩:Ac)) rfl (Ap (AO (n:=y3.1)) (Bh (α:=Ab) (β:=Int×(List Int)×(List Af)×(List Ai)×(List Ag)) (f:=fun x=>(x.F,x.Bad,x.Replicas,x.Ledger,x.Requests)) (x:=(⟨0,[],[],[],[]⟩:Ab)) rfl (Ap (AO (n:=0)) (Ap (AA (α:=Int) (fl:=true)) (Ap (AA (α:=Af) (fl:=true)) (Ap (AA (α:=Ai) (fl:=true)) (AA (α:=Ag) (fl:=true))))))))) rfl
   ·refine A9 0 rfl rfl rfl<|FU (W:=AV.agg) (mg:=m59 y3.2) CY (aF1 (A8 (Aa (Ad rfl) (Aa (Cb 1 rfl) (Aa (Cb 2 rfl) (Aa (CN (α:=Ai) 3 rfl) (Aa (DZ (α:=Ag) 4 rfl) Ah)))))) fun l0_=>MQ (by omega) l0_ y3.2) fun y4 hy4 i8 cs2=>Ez (fun S hS=>Eu (hS.get (k:=0) rfl)) fun hcs_=>?_
    obtain ⟨v7,v8,v9,v10,rfl⟩:=hcs_
    exact q_p (fun _=>FB rfl)<|A6 6 rfl rfl rfl (by decide) rfl<|Bn (fun S hS=>hS.lda 6 rfl rfl) (Bh (α:=Ac) (β:=Int×Ab) (f:=fun x=>(x.Code,x.Cluster)) (x:=(⟨0,y4⟩:Ac)) rfl (Ap (AO (n:=0)) (Dp 0 rfl))) rfl
def m34 (a0:Ab) (a1:Int) (a2_0:Int) (a2_1:Int):Option (Ac):=(m31 a0 a1 a2_0 a2_1).bind fun y1=>some y1
theorem w34 {d:Nat} (hd:156≤d) (k0:Bool) (a0:Ab) (a1:Int) (k2_0:Bool) (a2_0:Int) (k2_1:Bool) (a2_1:Int):Fit (R NN d 34 [.agg (Enc.cs k0 a0),iW a1,.fn 62 [.rp k2_0 (Enc.cs k2_0 a2_0),.rp k2_1 (Enc.cs k2_1 a2_1)]] []) (m34 a0 a1 a2_0 a2_1) (P1 (T:=Ac) AV.agg):=by
  obtain ⟨d,rfl,g⟩:=up hd
  refine AD (t34 NN d _ _ _) ?_
  unfold b34 m34
  refine AG (n:=5) rfl rfl (by decide) fun b1=>AG (n:=1) rfl rfl (by decide) fun b2=>AG (n:=1) rfl rfl (by decide) fun b3=>AE rfl fun b4=>A9 3 rfl rfl rfl<|FU (W:=AV.agg) (mg:=m31 a0 a1 a2_0 a2_1) CY (aF2 (A8 (Aq (l0:=k0) (x:=a0))) (BC (Aa (B9 2 rfl (Aq (l0:=false) (x:=a1))) (Aa (B9 1 rfl (Aa (BC (Aa (AZ (Aq (l0:=k2_0) (x:=a2_0)) (fun _ _ _ h=>Enc.frz k2_0 a2_0 _ _ _ h)) (Aa (AZ (Aq (l0:=k2_1) (x:=a2_1)) (fun _ _ _ h=>Enc.frz k2_1 a2_1 _ _ _ h)) Ah))) Ah)) Ah))) fun l0_ l1_=>w31 (by omega) l0_ a0 l1_ a1 l1_ l1_ a2_0 l1_ a2_1) fun y1 hy1 i1 cs1=>Ez (fun S hS=>J8 (hS.get (k:=0) rfl)) fun hcs_=>?_
  obtain ⟨v1,v2,v3,v4,rfl⟩:=hcs_
  exact A6 1 rfl rfl rfl (by decide) rfl<|Bn (fun S hS=>hS.lda 1 rfl rfl) (Dp 0 rfl) rfl
theorem w34f {d:Nat} (hd:156≤d) (k0:Bool) (a0:Ab) (a1:Int) (k2_0:Bool) (a2_0:Int) (k2_1:Bool) (a2_1:Int):Fit (R NN d 34 [.agg (Enc.cs k0 a0),iW a1,.fn 62 [.rp k2_0 (Enc.cs k2_0 a2_0),.rp k2_1 (Enc.cs k2_1 a2_1)]] []) (m34 a0 a1 a2_0 a2_1) (P0 (fun (t:Ac)=>AV.agg (Enc.cs false t))):=EV (w34 hd k0 a0 a1 k2_0 a2_0 k2_1 a2_1)
def m35 (a0:Int) (a1:Int):Int×Int:=(a0,a1)
theorem w35 {d:Nat} (hd:10≤d) (a0:Int) (a1:Int):Fit (R NN d 35 [iW a0,iW a1] []) (some (m35 a0 a1)) (P0 (fun (t:Int×Int)=>AV.fn 62 [.rp false (Enc.cs false t.1),.rp false (Enc.cs false t.2)])):=by
  obtain ⟨d,rfl,g⟩:=up hd
  refine AD (t35 NN d _ _) ?_
  unfold b35 m35
  exact AG (n:=1) rfl rfl (by decide) fun b1=>AG (n:=1) rfl rfl (by decide) fun b2=>Am (BC (Aa (KZ 1 rfl rfl) (Aa (KZ 0 rfl rfl) Ah))) rfl
def m12 (a0:Ab) (a1:Int) (a2:Int) (a3:Int):Option (Ac):=(m34 a0 a1 ((m35 a2 a3).1) ((m35 a2 a3).2)).bind fun y1=>some y1
theorem w12 {d:Nat} (hd:167≤d) (k0:Bool) (a0:Ab) (a1:Int) (a2:Int) (a3:Int):Fit (R NN d 12 [.agg (Enc.cs k0 a0),iW a1,iW a2,iW a3] []) (m12 a0 a1 a2 a3) (P0 (fun (t:Ac)=>AV.agg (Enc.cs false t))):=by
  obtain ⟨d,rfl,g⟩:=up hd
  refine AD (t12 NN d _ _ _ _) ?_
  unfold b12 m12
  exact AG (n:=5) rfl rfl (by decide) fun b1=>AE rfl fun b2=>A9 1 rfl rfl rfl<|AS (aF2 (Ad rfl) (Ad rfl) fun l0_ l1_=>w35 (by omega) a2 a3)<|A7 (aF3 (A8 (Aq (l0:=k0) (x:=a0))) (Ad rfl) (BC (Aa (AZ (Aq (l0:=false) (x:=(m35 a2 a3).1)) (fun _ _ _ h=>Enc.frz false ((m35 a2 a3).1) _ _ _ h)) (Aa (AZ (Aq (l0:=false) (x:=(m35 a2 a3).2)) (fun _ _ _ h=>Enc.frz false ((m35 a2 a3).2) _ _ _ h)) Ah))) fun l0_ l1_ l2_=>w34f (by omega) l0_ a0 a1 l2_ ((m35 a2 a3).1) l2_ ((m35 a2 a3).2)) fun y1 hy1=>A6 0 rfl rfl rfl (by decide) rfl<|AI (fun S hS=>hS.lda 0 rfl rfl) (A8 (Aq (l0:=false) (x:=y1))) rfl
def Wu (a0:Int) (a1:List Ai) (a2:Int) (a3:Int):Option (Bool):=bif !(m56 a2 0 (wi .i64 ((a1.length:Int) - 1))) then some false else (Av a1 a2).bind fun x1=>( bif x1.Kind != 1 then some (LO.ret false) else (m97 a0 x1.View).bind fun y1=>bif x1.From != y1 then some (LO.ret false) else some (LO.norm false)).bind (Ak (fun s2=>bif x1.View == 0 then bif a3 == (-1) then some (decide (x1.Value > 0)) else some false else ( (m75 a0 a1 a3).bind fun y2=>bif !y2 then some (LO.ret false) else (Av a1 a3).bind fun x2=>bif x2.View != x1.View then some (LO.ret false) else some (LO.norm s2)).bind (Ak (fun s4=>(Av a1 a3).bind fun x3=>(m99 a1 x3.Refs).bind fun y3=>bif decide (x1.Slot≤(y3.length:Int)) then (Av y3 (wi .i64 (x1.Slot - 1))).bind fun x4=>some (x1.Value == x4) else some (decide (x1.Value > 0))) (fun i2 s4=>none) (fun s4=>some s4))) (fun i1 s2=>none) (fun s2=>some s2))
theorem w102 {d:Nat} (hd:142≤d) (a0:Int) (k1:Bool) (a1:List Ai) (a2:Int) (a3:Int):Fit (R NN d 102 [iW a0,.rsl k1 false (a1.map (Enc.cs k1)),iW a2,iW a3] []) (Wu a0 a1 a2 a3) PB:=by
  obtain ⟨d,rfl,g⟩:=up hd
  refine AD (t102 NN d _ _ _ _) ?_
  unfold nP Wu
  refine AL<|q_p fr<|AS (aF3 (Ad rfl) (Ad rfl) (Ad rfl) fun l0_ l1_ l2_=>w56 (by omega) a2 0 (wi .i64 ((a1.length:Int) - 1)))<|q_p fr<|q_i ?_ ?_
  ·exact Am (Ad rfl) rfl
  ·refine Bf rfl fun x1 hx1=>q_p fr<|AE rfl fun b1=>A6 0 rfl rfl rfl (by decide) rfl<|Bo (A:=fun (s:Bool)=>[.bool s]) (B:=fun s=>[bx b1 [iW x1.Kind,iW x1.View,iW x1.From,iW x1.Slot,iW x1.Value,.rsl k1 false (x1.Certs.map (Enc.cs k1)),.rsl k1 false (x1.Refs.map (Enc.cs k1))]]) ?_ ?_ ?_ ?_
   ·refine q_p fr<|Ao 0 rfl rfl<|q_p fr<|q_j ?_ ?_
    ·first | refine BW ?_ | skip
     exact Ar 0 rr
    ·exact q_p fr<|Ao 0 rfl rfl<|q_p fr<|Ao 0 rfl rfl<|A7 (aF2 (Ad rfl) (Ad rfl) fun l0_ l1_=>w97 (by omega) a0 x1.View) fun y1 hy1=>q_p fr<|q_i (Ar 0 rr)<|Ae 0 rr
   ·intro s2
    refine q_p fr<|Ao 0 rfl rfl<|q_p fr<|q_i ?_ ?_
    ·exact q_p fr<|q_k (q_p fr<|Ao 0 rfl rfl<|q_p fr<|Am (Ad rfl) rfl)<|Am (Ad rfl) rfl
    ·refine Bo (A:=fun (s:Bool)=>[.bool s]) (B:=fun s=>[bx b1 [iW x1.Kind,iW x1.View,iW x1.From,iW x1.Slot,iW x1.Value,.rsl k1 false (x1.Certs.map (Enc.cs k1)),.rsl k1 false (x1.Refs.map (Enc.cs k1))]]) ?_ ?_ ?_ ?_
     ·refine A7 (aF3 (Ad rfl) As (Ad rfl) fun l0_ l1_ l2_=>w75 (by omega) a0 l1_ a1 a3) fun y2 hy2=>q_p fr<|q_j ?_ ?_
      ·first | refine BW ?_ | skip
       exact Ar 0 rr
      ·exact Bf rfl fun x2 hx2=>q_p fr<|q_p fr<|q_p fr<|Ao 0 rfl rfl<|q_p fr<|q_i (Ar 0 rr)<|Ae 0 rr
     ·exact fun s4=>Bf rfl fun x3 hx3=>q_p fr<|q_p fr<|A7 (aF2 As As fun l0_ l1_=>w99 (by omega) l0_ a1 l1_ x3.Refs) fun y3 hy3=>q_p fr<|Ao 0 rfl rfl<|AL<|q_p fr<|q_i (q_p fr<|Ao 0 rfl rfl<|q_p fr<|Ao 0 rfl rfl<|q_p fr<|Bf rfl fun x4 hx4=>q_p fr<|q_p fr<|Am (Ad rfl) rfl)<|q_p fr<|Ao 0 rfl rfl<|q_p fr<|Am (Ad rfl) rfl
     ·exact fun i2 s4=>A4
     ·exact fun s4=>Am (Ad rfl) rfl
   ·exact fun i1 s2=>A4
   ·exact fun s2=>Am (Ad rfl) rfl
def m66 (a0:Af) (a1:Int) (a2:List Ai) (a3:Int):Option (Int):=( (Wu a1 a2 a3 a0.Start).bind fun y1=>bif !y1 then some (LO.ret 1) else (Av a2 a3).bind fun x1=>bif x1.View != a0.View then some (LO.ret 1) else some (LO.norm 0)).bind (Ak (fun s2=>(Av a2 a3).bind fun x2=>(m98 a0 a2 2 x2.Slot).bind fun y2=>bif y2 then some 6 else some 0) (fun i1 s2=>none) (fun s2=>some s2))
theorem w66 {d:Nat} (hd:143≤d) (k0:Bool) (a0:Af) (a1:Int) (k2:Bool) (a2:List Ai) (a3:Int):Fit (R NN d 66 [.rp k0 (Enc.cs k0 a0),iW a1,.rsl k2 false (a2.map (Enc.cs k2)),iW a3] []) (m66 a0 a1 a2 a3) PI:=by
  obtain ⟨d,rfl,g⟩:=up hd
  refine AD (t66 NN d _ _ _ _) ?_
  unfold b66 m66
  refine Bo (A:=fun (s:Int)=>[iW s]) (B:=fun s=>[]) ?_ ?_ ?_ ?_
  ·refine q_q fr<|q_p fr<|q_p fr<|A7 (fun S hS=>FM (Ad rfl) As (Ad rfl) (Ad rfl) hS fun l0_ l1_ l2_ l3_=>w102 (by omega) a1 l1_ a2 a3 a0.Start) fun y1 hy1=>q_p fr<|q_j ?_ ?_
   ·first | refine BW ?_ | skip
    exact Ar 0 rr
   ·exact Bf rfl fun x1 hx1=>q_p fr<|q_p fr<|q_q fr<|q_p fr<|q_p fr<|q_p fr<|q_i (Ar 0 rr)<|Ae 0 rr
  ·exact fun s2=>Bf rfl fun x2 hx2=>q_p fr<|q_p fr<|A7 (fun S hS=>FM (AZ (Aq (l0:=k0) (x:=a0)) (fun _ _ _ h=>Enc.frz k0 a0 _ _ _ h)) As (Ad rfl) (Ad rfl) hS fun l0_ l1_ l2_ l3_=>w98 (by omega) l0_ a0 l1_ a2 2 x2.Slot) fun y2 hy2=>q_i (Am (Ad rfl) rfl)<|Am (Ad rfl) rfl
  ·exact fun i1 s2=>A4
  ·exact fun s2=>Am (Ad rfl) rfl
def m65 (a0:Ab) (a1:Int) (a2:Int):Option (Int×Ab):=(Av a0.Replicas a1).bind fun x1=>(m66 x1 a0.F a0.Ledger a2).bind fun y1=>bif y1 != 0 then some (y1,a0) else (Av a0.Ledger a2).bind fun x2=>bif !(m52 a0 x2.Value) then some (4,a0) else (m64 a0 a1 2 x2.Slot x2.Value).bind fun y2=>some (y2.1,y2.2)
theorem w65 {d:Nat} (hd:144≤d) (L0:List En) (b0_:Nat) (i0_1 i0_2 i0_3 i0_4:List Nat) (v0_1 v0_2 v0_3 v0_4:AV) (a0:Ab) (a1:Int) (k2:Bool) (a2:Int):Okh (bx b0_ [iW a0.F,v0_1,v0_2,v0_3,v0_4]::tr i0_1 [v0_1] (a0.Bad:List Int)::tr i0_2 [v0_2] (a0.Replicas:List Af)::wls i0_3 v0_3 (a0.Ledger:List Ai)::wla i0_4 v0_4 (a0.Requests:List Ag)::L0) (fun S=>R NN d 65 [.bp b0_ 0 0 5 1,elP 4 v0_2 (Int.toNat a1),.rp k2 (Enc.cs k2 a2)] S) (m65 a0 a1 a2) (P5 (fun (x:List Nat×List Nat×AV×AV) (t:Int×Ab)=>AV.int .i64 t.1) (fun (x:List Nat×List Nat×AV×AV) (t:Int×Ab)=>bx b0_ [iW t.2.F,v0_1,v0_2,x.2.2.1,x.2.2.2]::tr i0_1 [v0_1] (t.2.Bad:List Int)::tr i0_2 [v0_2] (t.2.Replicas:List Af)::wls x.1 x.2.2.1 (t.2.Ledger:List Ai)::wla x.2.1 x.2.2.2 (t.2.Requests:List Ag)::L0)):=by
  obtain ⟨d,rfl,g⟩:=up hd
  refine Do (t65 NN d _ _ _) ?_
  unfold b65 m65
  refine q_q fr<|q_p fr<|Ao 0 rfl rfl<|q_q fr<|q_p fr<|Ao 0 rfl rfl<|q_p fr<|Cc fun x1 hx1=>A7 (fun S hS=>FM (OG 2 rfl rfl hx1) (Ad rfl) (CN (α:=Ai) 3 rfl) (Ad rfl) hS fun l0_ l1_ l2_ l3_=>w66 (by omega) l0_ x1 a0.F l2_ a0.Ledger a2) fun y1 hy1=>q_p fr<|q_i ?_ ?_
  ·exact AU (i0_3,i0_4,v0_3,v0_4) 0 rfl rfl
  ·refine AE rfl fun b1=>q_q fr<|q_p fr<|Ao 1 rfl rfl<|q_p fr<|ZQ 4 rfl rfl fun x2 hx2=>cP 4 rfl rfl hx2 fun cs1 hcs_ hcs2_=>?_
   obtain ⟨v1,v2,rfl⟩:=jZ hcs_ hcs2_
   exact A6 0 rfl rfl rfl (by decide) rfl<|q_p fr<|Ao 0 rfl rfl<|AS (aF2 (B9 1 rfl (Aa (Ad rfl) (Aa (Cb 2 rfl) (Aa (Cb 3 rfl) (Aa (CN (α:=Ai) 4 rfl) (Aa (DZ (α:=Ag) 5 rfl) Ah)))))) (Ad rfl) fun l0_ l1_=>w52 (by omega) l0_ a0 x2.Value)<|q_p fr<|q_i (AU (i0_3,i0_4,v0_3,v0_4) 1 rfl rfl)<|q_p fr<|Ao 0 rfl rfl<|q_p fr<|Ao 0 rfl rfl<|Dt 6 [1,2,3,4,5,0] (by decide) (by decide)<|D5 (mg:=m64 a0 a1 2 x2.Slot x2.Value) (fun S=>rfl) (w64 (by omega) _ b0_ i0_1 i0_2 i0_3 i0_4 v0_1 v0_2 v0_3 v0_4 a0 a1 2 x2.Slot x2.Value) fun y2 hy2 ⟨i1,i2,v3,v4⟩=>Dt 6 [5,0,1,2,3,4] (by decide) (by decide)<|AU (i1,i2,v3,v4) 1 rfl rfl
def m36 (a0:Int):Int:=a0
theorem w36 {d:Nat} (hd:145≤d) (a0:Int):Fit (R NN d 36 [iW a0] []) (some (m36 a0)) (P0 (fun (t:Int)=>AV.fn 65 [.rp false (Enc.cs false t)])):=by
  obtain ⟨d,rfl,g⟩:=up hd
  refine AD (t36 NN d _) ?_
  unfold b36 m36
  exact AG (n:=1) rfl rfl (by decide) fun b1=>Am (BC (Aa (KZ 0 rfl rfl) Ah)) rfl
def KD (a0:Ab) (a1:Int) (a2_0:Int):Option (Int×Ab):=(Gg a0 a1).bind fun y1=>FZ y1 ( some (4,a0)) fun r1=>(Av a0.Replicas r1).bind fun x2=>(m65 a0 r1 a2_0).bind fun y2=>some (y2.1,y2.2)
theorem bM {d:Nat} (hd:145≤d) (L0:List En) (b0_:Nat) (i0_1 i0_2 i0_3 i0_4:List Nat) (v0_1 v0_2 v0_3 v0_4:AV) (a0:Ab) (a1:Int) (k2_0:Bool) (a2_0:Int):Okh (bx b0_ [iW a0.F,v0_1,v0_2,v0_3,v0_4]::tr i0_1 [v0_1] (a0.Bad:List Int)::tr i0_2 [v0_2] (a0.Replicas:List Af)::wls i0_3 v0_3 (a0.Ledger:List Ai)::wla i0_4 v0_4 (a0.Requests:List Ag)::L0) (fun S=>R NN d 61 [.bp b0_ 0 0 5 1,iW a1,.fn 65 [.rp k2_0 (Enc.cs k2_0 a2_0)]] S) (KD a0 a1 a2_0) (P5 (fun (x:List Nat×List Nat×AV×AV) (t:Int×Ab)=>AV.int .i64 t.1) (fun (x:List Nat×List Nat×AV×AV) (t:Int×Ab)=>bx b0_ [iW t.2.F,v0_1,v0_2,x.2.2.1,x.2.2.2]::tr i0_1 [v0_1] (t.2.Bad:List Int)::tr i0_2 [v0_2] (t.2.Replicas:List Af)::wls x.1 x.2.2.1 (t.2.Ledger:List Ai)::wla x.2.1 x.2.2.2 (t.2.Requests:List Ag)::L0)):=by
  obtain ⟨d,rfl,g⟩:=up hd
  refine Do (t61 NN d _ _ _) ?_
  unfold b61 KD
  refine HN (mg:=Gg a0 a1) (v0:=fun _=>AV.nilp) (v1:=fun x r=>elP 4 v0_2 (Int.toNat r)) (fun _=>rfl) (fun _ _=>rfl) (Ph (by omega) _ b0_ i0_1 i0_2 i0_3 i0_4 v0_1 v0_2 v0_3 v0_4 a0 a1) (fun x1=>?_) (fun r1 x1 hy1=>?_)
  ·refine q_p (fun _=>Fj) ?_
   first | refine BW ?_ | skip
   exact AU (i0_3,i0_4,v0_3,v0_4) 0 rfl rfl
  ·refine Cc fun x2 hx2=>PL (f:=fun a=>D1 Tryz.prog .eql 68 a .nilp) 2 rfl hx2 (fun _ _ _ _ _=>FY _ _ _ _ _) ?_
   first | refine CZ ?_ | skip
   exact D5 (mg:=m65 a0 r1 a2_0) (fun S=>Qr _ _ _ _) (w65 (by omega) _ b0_ i0_1 i0_2 i0_3 i0_4 v0_1 v0_2 v0_3 v0_4 a0 r1 k2_0 a2_0) fun y2 hy2 ⟨i1,i2,v1,v2⟩=>AU (i1,i2,v1,v2) 0 rfl rfl
def KE (a0:Ab) (a1:Int) (a2_0:Int):Option (Int×Ab):=(KD a0 a1 a2_0).bind fun y1=>some (y1.1,y1.2)
theorem bN {d:Nat} (hd:146≤d) (L0:List En) (b0_:Nat) (i0_1 i0_2 i0_3 i0_4:List Nat) (v0_1 v0_2 v0_3 v0_4:AV) (a0:Ab) (k1:Bool) (a1:Int) (k2:Bool) (k2_0:Bool) (a2_0:Int):Okh (bx b0_ [iW a0.F,v0_1,v0_2,v0_3,v0_4]::tr i0_1 [v0_1] (a0.Bad:List Int)::tr i0_2 [v0_2] (a0.Replicas:List Af)::wls i0_3 v0_3 (a0.Ledger:List Ai)::wla i0_4 v0_4 (a0.Requests:List Ag)::L0) (fun S=>R NN d 60 [.bp b0_ 0 0 5 1,.rp k1 (Enc.cs k1 a1),.rp k2 [.fn 65 [.rp k2_0 (Enc.cs k2_0 a2_0)]]] S) (KE a0 a1 a2_0) (P5 (fun (x:List Nat×List Nat×AV×AV) (t:Int×Ab)=>AV.int .i64 t.1) (fun (x:List Nat×List Nat×AV×AV) (t:Int×Ab)=>bx b0_ [iW t.2.F,v0_1,v0_2,x.2.2.1,x.2.2.2]::tr i0_1 [v0_1] (t.2.Bad:List Int)::tr i0_2 [v0_2] (t.2.Replicas:List Af)::wls x.1 x.2.2.1 (t.2.Ledger:List Ai)::wla x.2.1 x.2.2.2 (t.2.Requests:List Ag)::L0)):=by
  obtain ⟨d,rfl,g⟩:=up hd
  refine Do (t60 NN d _ _ _) ?_
  unfold b60 KE
  exact q_p fr<|q_p fr<|D5 (mg:=KD a0 a1 a2_0) (fun S=>rfl) (bM (by omega) _ b0_ i0_1 i0_2 i0_3 i0_4 v0_1 v0_2 v0_3 v0_4 a0 a1 k2_0 a2_0) fun y1 hy1 ⟨i1,i2,v1,v2⟩=>AU (i1,i2,v1,v2) 0 rfl rfl
def KG (a0:Ab) (a1_0:Int) (a1_1_0:Int):Option (Ac):=(m20 a0).bind fun y1=>bif y1 != 0 then some (⟨y1,(⟨0,[],[],[],[]⟩:Ab)⟩:Ac) else (m59 a0).bind fun y2=>(KE y2 a1_0 a1_1_0).bind fun y3=>bif y3.1 != 0 then some (⟨y3.1,(⟨0,[],[],[],[]⟩:Ab)⟩:Ac) else (m59 y3.2).bind fun y4=>some (⟨0,y4⟩:Ac)
theorem bP {d:Nat} (hd:147≤d) (k0:Bool) (a0:Ab) (k1_0:Bool) (a1_0:Int) (k1_1:Bool) (k1_1_0:Bool) (a1_1_0:Int):Fit (R NN d 31 [.agg (Enc.cs k0 a0),.fn 60 [.rp k1_0 (Enc.cs k1_0 a1_0),.rp k1_1 [.fn 65 [.rp k1_1_0 (Enc.cs k1_1_0 a1_1_0)]]]] []) (KG a0 a1_0 a1_1_0) (P1 (T:=Ac) AV.agg):=by
  obtain ⟨d,rfl,g⟩:=up hd
  refine AD (t31 NN d _ _) ?_
  unfold b31 KG
  refine AG (n:=5) rfl rfl (by decide) fun b1=>AE rfl fun b2=>A9 1 rfl rfl rfl<|A7 (aF1 (A8 (Aq (l0:=k0) (x:=a0))) fun l0_=>w20 (by omega) l0_ a0) fun y1 hy1=>q_p fr<|q_i ?_ ?_
  ·exact q_p (fun _=>CQ rfl)<|A6 0 rfl rfl rfl (by decide) rfl<|Bn (fun S hS=>hS.lda 0 rfl rfl) (Bh (α:=Ac) (β:=Int×Ab) (f:=fun x=>(x.Code,x.Cluster)) (x:=(⟨y1,(⟨0,[],[],[],[]⟩:Ab)⟩:Ac)) rfl (Ap (AO (n:=y1)) (Bh (α:=Ab) (β:=Int×(List Int)×(List Af)×(List Ai)×(List Ag)) (f:=fun x=>(x.F,x.Bad,x.Replicas,x.Ledger,x.Requests)) (x:=(⟨0,[],[],[],[]⟩:Ab)) rfl (Ap (AO (n:=0)) (Ap (AA (α:=Int) (fl:=true)) (Ap (AA (α:=Af) (fl:=true)) (Ap (AA (α:=Ai) (fl:=true)) (AA (α:=Ag) (fl:=true))))))))) rfl
  ·refine A9 1 rfl rfl rfl<|HQ (mg:=m59 a0) (aF1 (A8 (Aq (l0:=k0) (x:=a0))) fun l0_=>w59 (by omega) l0_ a0) fun y2 hy2 i1 cs1 hq_=>Ez (fun S hS=>Eu (hS.get (k:=0) rfl)) fun hcs_=>?_
   obtain ⟨v1,v2,v3,v4,rfl⟩:=hcs_
   refine HM (x:=(y2.F,y2.Bad,y2.Replicas,y2.Ledger,y2.Requests)) hq_ rfl (fun _ h=>h) fun i2 i3 i4 i5=>AE rfl fun b3=>A6 0 rfl rfl rfl (by decide) rfl<|D5 (mg:=KE y2 a1_0 a1_1_0) (fun S=>LA _ _ _ _) (bN (by omega) _ b3 i2 i3 i4 i5 v1 v2 v3 v4 y2 k1_0 a1_0 k1_1 k1_1_0 a1_1_0) fun y3 hy3 ⟨i6,i7,v5,v6⟩=>q_p fr<|q_i ?_ ?_
   ·exact q_p (fun _=>CQ rfl)<|A6 5 rfl rfl rfl (by decide) rfl<|Bn (fun S hS=>hS.lda 5 rfl rfl) (Bh (α:=Ac) (β:=Int×Ab) (f:=fun x=>(x.Code,x.Cluster)) (x:=(⟨y3.1,(⟨0,[],[],[],[]⟩:Ab)⟩:Ac)) rfl (Ap (AO (n:=y3.1)) (Bh (α:=Ab) (β:=Int×(List Int)×(List Af)×(List Ai)×(List Ag)) (f:=fun x=>(x.F,x.Bad,x.Replicas,x.Ledger,x.Requests)) (x:=(⟨0,[],[],[],[]⟩:Ab)) rfl (Ap (AO (n:=0)) (Ap (AA (α:=Int) (fl:=true)) (Ap (AA (α:=Af) (fl:=true)) (Ap (AA (α:=Ai) (fl:=true)) (AA (α:=Ag) (fl:=true))))))))) rfl
   ·refine A9 0 rfl rfl rfl<|FU (W:=AV.agg) (mg:=m59 y3.2) CY (aF1 (A8 (Aa (Ad rfl) (Aa (Cb 1 rfl) (Aa (Cb 2 rfl) (Aa (CN (α:=Ai) 3 rfl) (Aa (DZ (α:=Ag) 4 rfl) Ah)))))) fun l0_=>MQ (by omega) l0_ y3.2) fun y4 hy4 i8 cs2=>Ez (fun S hS=>Eu (hS.get (k:=0) rfl)) fun hcs_=>?_
    obtain ⟨v7,v8,v9,v10,rfl⟩:=hcs_
    exact q_p (fun _=>FB rfl)<|A6 6 rfl rfl rfl (by decide) rfl<|Bn (fun S hS=>hS.lda 6 rfl rfl) (Bh (α:=Ac) (β:=Int×Ab) (f:=fun x=>(x.Code,x.Cluster)) (x:=(⟨0,y4⟩:Ac)) rfl (Ap (AO (n:=0)) (Dp 0 rfl))) rfl
def KF (a0:Ab) (a1:Int) (a2_0:Int):Option (Ac):=(KG a0 a1 a2_0).bind fun y1=>some y1
theorem bO {d:Nat} (hd:294≤d) (k0:Bool) (a0:Ab) (a1:Int) (k2_0:Bool) (a2_0:Int):Fit (R NN d 34 [.agg (Enc.cs k0 a0),iW a1,.fn 65 [.rp k2_0 (Enc.cs k2_0 a2_0)]] []) (KF a0 a1 a2_0) (P1 (T:=Ac) AV.agg):=by
  obtain ⟨d,rfl,g⟩:=up hd
  refine AD (t34 NN d _ _ _) ?_
  unfold b34 KF
  refine AG (n:=5) rfl rfl (by decide) fun b1=>AG (n:=1) rfl rfl (by decide) fun b2=>AG (n:=1) rfl rfl (by decide) fun b3=>AE rfl fun b4=>A9 3 rfl rfl rfl<|FU (W:=AV.agg) (mg:=KG a0 a1 a2_0) CY (aF2 (A8 (Aq (l0:=k0) (x:=a0))) (BC (Aa (B9 2 rfl (Aq (l0:=false) (x:=a1))) (Aa (B9 1 rfl (Aa (BC (Aa (AZ (Aq (l0:=k2_0) (x:=a2_0)) (fun _ _ _ h=>Enc.frz k2_0 a2_0 _ _ _ h)) Ah)) Ah)) Ah))) fun l0_ l1_=>bP (by omega) l0_ a0 l1_ a1 l1_ l1_ a2_0) fun y1 hy1 i1 cs1=>Ez (fun S hS=>J8 (hS.get (k:=0) rfl)) fun hcs_=>?_
  obtain ⟨v1,v2,v3,v4,rfl⟩:=hcs_
  exact A6 1 rfl rfl rfl (by decide) rfl<|Bn (fun S hS=>hS.lda 1 rfl rfl) (Dp 0 rfl) rfl
theorem XO {d:Nat} (hd:294≤d) (k0:Bool) (a0:Ab) (a1:Int) (k2_0:Bool) (a2_0:Int):Fit (R NN d 34 [.agg (Enc.cs k0 a0),iW a1,.fn 65 [.rp k2_0 (Enc.cs k2_0 a2_0)]] []) (KF a0 a1 a2_0) (P0 (fun (t:Ac)=>AV.agg (Enc.cs false t))):=EV (bO hd k0 a0 a1 k2_0 a2_0)
def m13 (a0:Ab) (a1:Int) (a2:Int):Option (Ac):=(KF a0 a1 (m36 a2)).bind fun y1=>some y1
theorem w13 {d:Nat} (hd:440≤d) (k0:Bool) (a0:Ab) (a1:Int) (a2:Int):Fit (R NN d 13 [.agg (Enc.cs k0 a0),iW a1,iW a2] []) (m13 a0 a1 a2) (P0 (fun (t:Ac)=>AV.agg (Enc.cs false t))):=by
  obtain ⟨d,rfl,g⟩:=up hd
  refine AD (t13 NN d _ _ _) ?_
  unfold b13 m13
  exact AG (n:=5) rfl rfl (by decide) fun b1=>AE rfl fun b2=>A9 1 rfl rfl rfl<|AS (aF1 (Ad rfl) fun l0_=>w36 (by omega) a2)<|A7 (aF3 (A8 (Aq (l0:=k0) (x:=a0))) (Ad rfl) (BC (Aa (AZ (Aq (l0:=false) (x:=(m36 a2))) (fun _ _ _ h=>Enc.frz false (m36 a2) _ _ _ h)) Ah)) fun l0_ l1_ l2_=>XO (by omega) l0_ a0 a1 l2_ (m36 a2)) fun y1 hy1=>A6 0 rfl rfl rfl (by decide) rfl<|AI (fun S hS=>hS.lda 0 rfl rfl) (A8 (Aq (l0:=false) (x:=y1))) rfl
def m68 (a0:Af) (a1:Int) (a2:List Ai) (a3:Int) (a4:Int):Option (Int):=( bif !(m94 a3) then some (LO.ret 3) else bif !(m95 a4) then some (LO.ret 3) else bif !(m96 a0) then some (LO.ret 8) else (TD a1 a2 (⟨a3,a0.View,a4⟩:AP)).bind fun y1=>bif !y1 then some (LO.ret 10) else (m98 a0 a2 3 a3).bind fun y2=>bif y2 then some (LO.ret 6) else some (LO.norm 0)).bind (Ak (fun s2=>some 0) (fun i1 s2=>none) (fun s2=>some s2))
theorem w68 {d:Nat} (hd:137≤d) (k0:Bool) (a0:Af) (a1:Int) (k2:Bool) (a2:List Ai) (a3:Int) (a4:Int):Fit (R NN d 68 [.rp k0 (Enc.cs k0 a0),iW a1,.rsl k2 false (a2.map (Enc.cs k2)),iW a3,iW a4] []) (m68 a0 a1 a2 a3 a4) PI:=by
  obtain ⟨d,rfl,g⟩:=up hd
  refine AD (t68 NN d _ _ _ _ _) ?_
  unfold b68 m68
  refine Bo (A:=fun (s:Int)=>[iW s]) (B:=fun s=>[]) ?_ ?_ ?_ ?_
  ·refine AS (aF1 (Ad rfl) fun l0_=>w94 (by omega) a3)<|q_p fr<|q_j ?_ ?_
   ·first | refine BW ?_ | skip
    exact Ar 0 rr
   ·exact AS (aF1 (Ad rfl) fun l0_=>w95 (by omega) a4)<|q_p fr<|q_i (Ar 0 rr)<|AS (aF1 (AZ (Aq (l0:=k0) (x:=a0)) (fun _ _ _ h=>Enc.frz k0 a0 _ _ _ h)) fun l0_=>w96 (by omega) l0_ a0)<|q_p fr<|q_i (Ar 0 rr)<|q_q fr<|q_p fr<|q_p fr<|q_p (fun _=>HB rfl)<|A7 (aF3 (Ad rfl) As (A8 (Aa (Ad rfl) (Aa (Ad rfl) (Aa (Ad rfl) Ah)))) fun l0_ l1_ l2_=>iE (by omega) a1 l1_ a2 l2_ (⟨a3,a0.View,a4⟩:AP)) fun y1 hy1=>q_p fr<|q_i (Ar 0 rr)<|A7 (fun S hS=>FM (AZ (Aq (l0:=k0) (x:=a0)) (fun _ _ _ h=>Enc.frz k0 a0 _ _ _ h)) As (Ad rfl) (Ad rfl) hS fun l0_ l1_ l2_ l3_=>w98 (by omega) l0_ a0 l1_ a2 3 a3) fun y2 hy2=>q_i (Ar 0 rr)<|Ae 0 rr
  ·exact fun s2=>Am (Ad rfl) rfl
  ·exact fun i1 s2=>A4
  ·exact fun s2=>Am (Ad rfl) rfl
def m67 (a0:Ab) (a1:Int) (a2:Int) (a3:Int):Option (Int×Ab):=(Av a0.Replicas a1).bind fun x1=>(m68 x1 a0.F a0.Ledger a2 a3).bind fun y1=>bif y1 != 0 then some (y1,a0) else (m64 a0 a1 3 a2 a3).bind fun y2=>some (y2.1,y2.2)
theorem w67 {d:Nat} (hd:138≤d) (L0:List En) (b0_:Nat) (i0_1 i0_2 i0_3 i0_4:List Nat) (v0_1 v0_2 v0_3 v0_4:AV) (a0:Ab) (a1:Int) (k2:Bool) (a2:Int) (k3:Bool) (a3:Int):Okh (bx b0_ [iW a0.F,v0_1,v0_2,v0_3,v0_4]::tr i0_1 [v0_1] (a0.Bad:List Int)::tr i0_2 [v0_2] (a0.Replicas:List Af)::wls i0_3 v0_3 (a0.Ledger:List Ai)::wla i0_4 v0_4 (a0.Requests:List Ag)::L0) (fun S=>R NN d 67 [.bp b0_ 0 0 5 1,elP 4 v0_2 (Int.toNat a1),.rp k2 (Enc.cs k2 a2),.rp k3 (Enc.cs k3 a3)] S) (m67 a0 a1 a2 a3) (P5 (fun (x:List Nat×List Nat×AV×AV) (t:Int×Ab)=>AV.int .i64 t.1) (fun (x:List Nat×List Nat×AV×AV) (t:Int×Ab)=>bx b0_ [iW t.2.F,v0_1,v0_2,x.2.2.1,x.2.2.2]::tr i0_1 [v0_1] (t.2.Bad:List Int)::tr i0_2 [v0_2] (t.2.Replicas:List Af)::wls x.1 x.2.2.1 (t.2.Ledger:List Ai)::wla x.2.1 x.2.2.2 (t.2.Requests:List Ag)::L0)):=by
  obtain ⟨d,rfl,g⟩:=up hd
  refine Do (t67 NN d _ _ _ _) ?_
  unfold b67 m67
  exact q_q fr<|q_p fr<|Ao 0 rfl rfl<|q_q fr<|q_p fr<|Ao 0 rfl rfl<|q_p fr<|q_p fr<|Cc fun x1 hx1=>A7 (fun S hS=>Si (OG 2 rfl rfl hx1) (Ad rfl) (CN (α:=Ai) 3 rfl) (Ad rfl) (Ad rfl) hS fun l0_ l1_ l2_ l3_ l4_=>w68 (by omega) l0_ x1 a0.F l2_ a0.Ledger a2 a3) fun y1 hy1=>q_p fr<|q_i (AU (i0_3,i0_4,v0_3,v0_4) 0 rfl rfl)<|q_p fr<|q_p fr<|D5 (mg:=m64 a0 a1 3 a2 a3) (fun S=>rfl) (w64 (by omega) _ b0_ i0_1 i0_2 i0_3 i0_4 v0_1 v0_2 v0_3 v0_4 a0 a1 3 a2 a3) fun y2 hy2 ⟨i1,i2,v1,v2⟩=>AU (i1,i2,v1,v2) 0 rfl rfl
def m37 (a0:Int) (a1:Int):Int×Int:=(a0,a1)
theorem w37 {d:Nat} (hd:139≤d) (a0:Int) (a1:Int):Fit (R NN d 37 [iW a0,iW a1] []) (some (m37 a0 a1)) (P0 (fun (t:Int×Int)=>AV.fn 67 [.rp false (Enc.cs false t.1),.rp false (Enc.cs false t.2)])):=by
  obtain ⟨d,rfl,g⟩:=up hd
  refine AD (t37 NN d _ _) ?_
  unfold b37 m37
  exact AG (n:=1) rfl rfl (by decide) fun b1=>AG (n:=1) rfl rfl (by decide) fun b2=>Am (BC (Aa (KZ 1 rfl rfl) (Aa (KZ 0 rfl rfl) Ah))) rfl
def K9 (a0:Ab) (a1:Int) (a2_0:Int) (a2_1:Int):Option (Int×Ab):=(Gg a0 a1).bind fun y1=>FZ y1 ( some (4,a0)) fun r1=>(Av a0.Replicas r1).bind fun x2=>(m67 a0 r1 a2_0 a2_1).bind fun y2=>some (y2.1,y2.2)
theorem bH {d:Nat} (hd:139≤d) (L0:List En) (b0_:Nat) (i0_1 i0_2 i0_3 i0_4:List Nat) (v0_1 v0_2 v0_3 v0_4:AV) (a0:Ab) (a1:Int) (k2_0:Bool) (a2_0:Int) (k2_1:Bool) (a2_1:Int):Okh (bx b0_ [iW a0.F,v0_1,v0_2,v0_3,v0_4]::tr i0_1 [v0_1] (a0.Bad:List Int)::tr i0_2 [v0_2] (a0.Replicas:List Af)::wls i0_3 v0_3 (a0.Ledger:List Ai)::wla i0_4 v0_4 (a0.Requests:List Ag)::L0) (fun S=>R NN d 61 [.bp b0_ 0 0 5 1,iW a1,.fn 67 [.rp k2_0 (Enc.cs k2_0 a2_0),.rp k2_1 (Enc.cs k2_1 a2_1)]] S) (K9 a0 a1 a2_0 a2_1) (P5 (fun (x:List Nat×List Nat×AV×AV) (t:Int×Ab)=>AV.int .i64 t.1) (fun (x:List Nat×List Nat×AV×AV) (t:Int×Ab)=>bx b0_ [iW t.2.F,v0_1,v0_2,x.2.2.1,x.2.2.2]::tr i0_1 [v0_1] (t.2.Bad:List Int)::tr i0_2 [v0_2] (t.2.Replicas:List Af)::wls x.1 x.2.2.1 (t.2.Ledger:List Ai)::wla x.2.1 x.2.2.2 (t.2.Requests:List Ag)::L0)):=by
  obtain ⟨d,rfl,g⟩:=up hd
  refine Do (t61 NN d _ _ _) ?_
  unfold b61 K9
  refine HN (mg:=Gg a0 a1) (v0:=fun _=>AV.nilp) (v1:=fun x r=>elP 4 v0_2 (Int.toNat r)) (fun _=>rfl) (fun _ _=>rfl) (Ph (by omega) _ b0_ i0_1 i0_2 i0_3 i0_4 v0_1 v0_2 v0_3 v0_4 a0 a1) (fun x1=>?_) (fun r1 x1 hy1=>?_)
  ·refine q_p (fun _=>Fj) ?_
   first | refine BW ?_ | skip
   exact AU (i0_3,i0_4,v0_3,v0_4) 0 rfl rfl
  ·refine Cc fun x2 hx2=>PL (f:=fun a=>D1 Tryz.prog .eql 68 a .nilp) 2 rfl hx2 (fun _ _ _ _ _=>FY _ _ _ _ _) ?_
   first | refine CZ ?_ | skip
   exact D5 (mg:=m67 a0 r1 a2_0 a2_1) (fun S=>Qq _ _ _ _) (w67 (by omega) _ b0_ i0_1 i0_2 i0_3 i0_4 v0_1 v0_2 v0_3 v0_4 a0 r1 k2_0 a2_0 k2_1 a2_1) fun y2 hy2 ⟨i1,i2,v1,v2⟩=>AU (i1,i2,v1,v2) 0 rfl rfl
def KA (a0:Ab) (a1:Int) (a2_0:Int) (a2_1:Int):Option (Int×Ab):=(K9 a0 a1 a2_0 a2_1).bind fun y1=>some (y1.1,y1.2)
theorem bI {d:Nat} (hd:140≤d) (L0:List En) (b0_:Nat) (i0_1 i0_2 i0_3 i0_4:List Nat) (v0_1 v0_2 v0_3 v0_4:AV) (a0:Ab) (k1:Bool) (a1:Int) (k2:Bool) (k2_0:Bool) (a2_0:Int) (k2_1:Bool) (a2_1:Int):Okh (bx b0_ [iW a0.F,v0_1,v0_2,v0_3,v0_4]::tr i0_1 [v0_1] (a0.Bad:List Int)::tr i0_2 [v0_2] (a0.Replicas:List Af)::wls i0_3 v0_3 (a0.Ledger:List Ai)::wla i0_4 v0_4 (a0.Requests:List Ag)::L0) (fun S=>R NN d 60 [.bp b0_ 0 0 5 1,.rp k1 (Enc.cs k1 a1),.rp k2 [.fn 67 [.rp k2_0 (Enc.cs k2_0 a2_0),.rp k2_1 (Enc.cs k2_1 a2_1)]]] S) (KA a0 a1 a2_0 a2_1) (P5 (fun (x:List Nat×List Nat×AV×AV) (t:Int×Ab)=>AV.int .i64 t.1) (fun (x:List Nat×List Nat×AV×AV) (t:Int×Ab)=>bx b0_ [iW t.2.F,v0_1,v0_2,x.2.2.1,x.2.2.2]::tr i0_1 [v0_1] (t.2.Bad:List Int)::tr i0_2 [v0_2] (t.2.Replicas:List Af)::wls x.1 x.2.2.1 (t.2.Ledger:List Ai)::wla x.2.1 x.2.2.2 (t.2.Requests:List Ag)::L0)):=by
  obtain ⟨d,rfl,g⟩:=up hd
  refine Do (t60 NN d _ _ _) ?_
  unfold b60 KA
  exact q_p fr<|q_p fr<|D5 (mg:=K9 a0 a1 a2_0 a2_1) (fun S=>rfl) (bH (by omega) _ b0_ i0_1 i0_2 i0_3 i0_4 v0_1 v0_2 v0_3 v0_4 a0 a1 k2_0 a2_0 k2_1 a2_1) fun y1 hy1 ⟨i1,i2,v1,v2⟩=>AU (i1,i2,v1,v2) 0 rfl rfl
def KC (a0:Ab) (a1_0:Int) (a1_1_0:Int) (a1_1_1:Int):Option (Ac):=(m20 a0).bind fun y1=>bif y1 != 0 then some (⟨y1,(⟨0,[],[],[],[]⟩:Ab)⟩:Ac) else (m59 a0).bind fun y2=>(KA y2 a1_0 a1_1_0 a1_1_1).bind fun y3=>bif y3.1 != 0 then some (⟨y3.1,(⟨0,[],[],[],[]⟩:Ab)⟩:Ac) else (m59 y3.2).bind fun y4=>some (⟨0,y4⟩:Ac)
theorem bK {d:Nat} (hd:144≤d) (k0:Bool) (a0:Ab) (k1_0:Bool) (a1_0:Int) (k1_1:Bool) (k1_1_0:Bool) (a1_1_0:Int) (k1_1_1:Bool) (a1_1_1:Int):Fit (R NN d 31 [.agg (Enc.cs k0 a0),.fn 60 [.rp k1_0 (Enc.cs k1_0 a1_0),.rp k1_1 [.fn 67 [.rp k1_1_0 (Enc.cs k1_1_0 a1_1_0),.rp k1_1_1 (Enc.cs k1_1_1 a1_1_1)]]]] []) (KC a0 a1_0 a1_1_0 a1_1_1) (P1 (T:=Ac) AV.agg):=by
  obtain ⟨d,rfl,g⟩:=up hd
  refine AD (t31 NN d _ _) ?_
  unfold b31 KC
  refine AG (n:=5) rfl rfl (by decide) fun b1=>AE rfl fun b2=>A9 1 rfl rfl rfl<|A7 (aF1 (A8 (Aq (l0:=k0) (x:=a0))) fun l0_=>w20 (by omega) l0_ a0) fun y1 hy1=>q_p fr<|q_i ?_ ?_
  ·exact q_p (fun _=>CQ rfl)<|A6 0 rfl rfl rfl (by decide) rfl<|Bn (fun S hS=>hS.lda 0 rfl rfl) (Bh (α:=Ac) (β:=Int×Ab) (f:=fun x=>(x.Code,x.Cluster)) (x:=(⟨y1,(⟨0,[],[],[],[]⟩:Ab)⟩:Ac)) rfl (Ap (AO (n:=y1)) (Bh (α:=Ab) (β:=Int×(List Int)×(List Af)×(List Ai)×(List Ag)) (f:=fun x=>(x.F,x.Bad,x.Replicas,x.Ledger,x.Requests)) (x:=(⟨0,[],[],[],[]⟩:Ab)) rfl (Ap (AO (n:=0)) (Ap (AA (α:=Int) (fl:=true)) (Ap (AA (α:=Af) (fl:=true)) (Ap (AA (α:=Ai) (fl:=true)) (AA (α:=Ag) (fl:=true))))))))) rfl
  ·refine A9 1 rfl rfl rfl<|HQ (mg:=m59 a0) (aF1 (A8 (Aq (l0:=k0) (x:=a0))) fun l0_=>w59 (by omega) l0_ a0) fun y2 hy2 i1 cs1 hq_=>Ez (fun S hS=>Eu (hS.get (k:=0) rfl)) fun hcs_=>?_
   obtain ⟨v1,v2,v3,v4,rfl⟩:=hcs_
   refine HM (x:=(y2.F,y2.Bad,y2.Replicas,y2.Ledger,y2.Requests)) hq_ rfl (fun _ h=>h) fun i2 i3 i4 i5=>AE rfl fun b3=>A6 0 rfl rfl rfl (by decide) rfl<|D5 (mg:=KA y2 a1_0 a1_1_0 a1_1_1) (fun S=>L9 _ _ _ _) (bI (by omega) _ b3 i2 i3 i4 i5 v1 v2 v3 v4 y2 k1_0 a1_0 k1_1 k1_1_0 a1_1_0 k1_1_1 a1_1_1) fun y3 hy3 ⟨i6,i7,v5,v6⟩=>q_p fr<|q_i ?_ ?_
   ·exact q_p (fun _=>CQ rfl)<|A6 5 rfl rfl rfl (by decide) rfl<|Bn (fun S hS=>hS.lda 5 rfl rfl) (Bh (α:=Ac) (β:=Int×Ab) (f:=fun x=>(x.Code,x.Cluster)) (x:=(⟨y3.1,(⟨0,[],[],[],[]⟩:Ab)⟩:Ac)) rfl (Ap (AO (n:=y3.1)) (Bh (α:=Ab) (β:=Int×(List Int)×(List Af)×(List Ai)×(List Ag)) (f:=fun x=>(x.F,x.Bad,x.Replicas,x.Ledger,x.Requests)) (x:=(⟨0,[],[],[],[]⟩:Ab)) rfl (Ap (AO (n:=0)) (Ap (AA (α:=Int) (fl:=true)) (Ap (AA (α:=Af) (fl:=true)) (Ap (AA (α:=Ai) (fl:=true)) (AA (α:=Ag) (fl:=true))))))))) rfl
   ·refine A9 0 rfl rfl rfl<|FU (W:=AV.agg) (mg:=m59 y3.2) CY (aF1 (A8 (Aa (Ad rfl) (Aa (Cb 1 rfl) (Aa (Cb 2 rfl) (Aa (CN (α:=Ai) 3 rfl) (Aa (DZ (α:=Ag) 4 rfl) Ah)))))) fun l0_=>MQ (by omega) l0_ y3.2) fun y4 hy4 i8 cs2=>Ez (fun S hS=>Eu (hS.get (k:=0) rfl)) fun hcs_=>?_
    obtain ⟨v7,v8,v9,v10,rfl⟩:=hcs_
    exact q_p (fun _=>FB rfl)<|A6 6 rfl rfl rfl (by decide) rfl<|Bn (fun S hS=>hS.lda 6 rfl rfl) (Bh (α:=Ac) (β:=Int×Ab) (f:=fun x=>(x.Code,x.Cluster)) (x:=(⟨0,y4⟩:Ac)) rfl (Ap (AO (n:=0)) (Dp 0 rfl))) rfl
def KB (a0:Ab) (a1:Int) (a2_0:Int) (a2_1:Int):Option (Ac):=(KC a0 a1 a2_0 a2_1).bind fun y1=>some y1
theorem bJ {d:Nat} (hd:285≤d) (k0:Bool) (a0:Ab) (a1:Int) (k2_0:Bool) (a2_0:Int) (k2_1:Bool) (a2_1:Int):Fit (R NN d 34 [.agg (Enc.cs k0 a0),iW a1,.fn 67 [.rp k2_0 (Enc.cs k2_0 a2_0),.rp k2_1 (Enc.cs k2_1 a2_1)]] []) (KB a0 a1 a2_0 a2_1) (P1 (T:=Ac) AV.agg):=by
  obtain ⟨d,rfl,g⟩:=up hd
  refine AD (t34 NN d _ _ _) ?_
  unfold b34 KB
  refine AG (n:=5) rfl rfl (by decide) fun b1=>AG (n:=1) rfl rfl (by decide) fun b2=>AG (n:=1) rfl rfl (by decide) fun b3=>AE rfl fun b4=>A9 3 rfl rfl rfl<|FU (W:=AV.agg) (mg:=KC a0 a1 a2_0 a2_1) CY (aF2 (A8 (Aq (l0:=k0) (x:=a0))) (BC (Aa (B9 2 rfl (Aq (l0:=false) (x:=a1))) (Aa (B9 1 rfl (Aa (BC (Aa (AZ (Aq (l0:=k2_0) (x:=a2_0)) (fun _ _ _ h=>Enc.frz k2_0 a2_0 _ _ _ h)) (Aa (AZ (Aq (l0:=k2_1) (x:=a2_1)) (fun _ _ _ h=>Enc.frz k2_1 a2_1 _ _ _ h)) Ah))) Ah)) Ah))) fun l0_ l1_=>bK (by omega) l0_ a0 l1_ a1 l1_ l1_ a2_0 l1_ a2_1) fun y1 hy1 i1 cs1=>Ez (fun S hS=>J8 (hS.get (k:=0) rfl)) fun hcs_=>?_
  obtain ⟨v1,v2,v3,v4,rfl⟩:=hcs_
  exact A6 1 rfl rfl rfl (by decide) rfl<|Bn (fun S hS=>hS.lda 1 rfl rfl) (Dp 0 rfl) rfl
theorem XN {d:Nat} (hd:285≤d) (k0:Bool) (a0:Ab) (a1:Int) (k2_0:Bool) (a2_0:Int) (k2_1:Bool) (a2_1:Int):Fit (R NN d 34 [.agg (Enc.cs k0 a0),iW a1,.fn 67 [.rp k2_0 (Enc.cs k2_0 a2_0),.rp k2_1 (Enc.cs k2_1 a2_1)]] []) (KB a0 a1 a2_0 a2_1) (P0 (fun (t:Ac)=>AV.agg (Enc.cs false t))):=EV (bJ hd k0 a0 a1 k2_0 a2_0 k2_1 a2_1)
def m14 (a0:Ab) (a1:Int) (a2:Int) (a3:Int):Option (Ac):=(KB a0 a1 ((m37 a2 a3).1) ((m37 a2 a3).2)).bind fun y1=>some y1
theorem w14 {d:Nat} (hd:425≤d) (k0:Bool) (a0:Ab) (a1:Int) (a2:Int) (a3:Int):Fit (R NN d 14 [.agg (Enc.cs k0 a0),iW a1,iW a2,iW a3] []) (m14 a0 a1 a2 a3) (P0 (fun (t:Ac)=>AV.agg (Enc.cs false t))):=by
  obtain ⟨d,rfl,g⟩:=up hd
  refine AD (t14 NN d _ _ _ _) ?_
  unfold b14 m14
  exact AG (n:=5) rfl rfl (by decide) fun b1=>AE rfl fun b2=>A9 1 rfl rfl rfl<|AS (aF2 (Ad rfl) (Ad rfl) fun l0_ l1_=>w37 (by omega) a2 a3)<|A7 (aF3 (A8 (Aq (l0:=k0) (x:=a0))) (Ad rfl) (BC (Aa (AZ (Aq (l0:=false) (x:=(m37 a2 a3).1)) (fun _ _ _ h=>Enc.frz false ((m37 a2 a3).1) _ _ _ h)) (Aa (AZ (Aq (l0:=false) (x:=(m37 a2 a3).2)) (fun _ _ _ h=>Enc.frz false ((m37 a2 a3).2) _ _ _ h)) Ah))) fun l0_ l1_ l2_=>XN (by omega) l0_ a0 a1 l2_ ((m37 a2 a3).1) l2_ ((m37 a2 a3).2)) fun y1 hy1=>A6 0 rfl rfl rfl (by decide) rfl<|AI (fun S hS=>hS.lda 0 rfl rfl) (A8 (Aq (l0:=false) (x:=y1))) rfl
def Gf (a0:List Ai) (a1:Int) (a2:Int) (s1:Int×(List AP)) (s3:Bool×Int×Int×Int×Int):Option (LO (Bool×Int×Int×Int×Int)):=bif decide (s3.2.1 < (a0.length:Int)) then ( (Av a0 s3.2.1).bind fun x1=>( bif x1.Kind == 3 then bif x1.From == a1 then bif x1.Slot == s1.1 then bif decide (x1.View < a2) then bif !s3.1 then some (LO.norm true) else some (LO.norm (decide (x1.View > s3.2.2.2.1))) else some (LO.norm false) else some (LO.norm false) else some (LO.norm false) else some (LO.norm false)).bind (Ak (fun s6=>bif s6 then some (LO.norm (true,s1.1,x1.View,x1.Value)) else some (LO.norm (s3.1,s3.2.2.1,s3.2.2.2.1,s3.2.2.2.2))) (fun i1 s6=>if i1 = 3 then some (LO.norm (s3.1,s3.2.2.1,s3.2.2.2.1,s3.2.2.2.2)) else some (LO.exit i1 (s3.1,s3.2.2.1,s3.2.2.2.1,s3.2.2.2.2))) (fun s6=>some (LO.ret (s3.1,s3.2.2.1,s3.2.2.2.1,s3.2.2.2.2))))).bind (Ak (fun s7=>some (LO.norm (s7.1,wi .i64 (s3.2.1 + 1),s7.2.1,s7.2.2.1,s7.2.2.2))) (fun i2 s7=>some (LO.exit i2 (s7.1,s3.2.1,s7.2.1,s7.2.2.1,s7.2.2.2))) (fun s7=>some (LO.ret (s7.1,s3.2.1,s7.2.1,s7.2.2.1,s7.2.2.2)))) else some (LO.exit 2 (s3.1,s3.2.1,s3.2.2.1,s3.2.2.2.1,s3.2.2.2.2))
def Jx (a0:List Ai) (a1:Int) (a2:Int) (s1:Int×(List AP)):Option (LO (Int×(List AP))):=bif decide (s1.1≤30) then ( (AB (Gf a0 a1 a2 s1) NN (false,0,0,0,0)).bind (Ak (fun _=>none) (fun i3 s8=>if i3 = 2 then bif s8.1 then (Bw 24 s1.2 [(⟨s8.2.2.1,s8.2.2.2.1,s8.2.2.2.2⟩:AP)]).bind fun z1=>some (LO.norm z1) else some (LO.norm s1.2) else if i3 = 1 then some (LO.norm s1.2) else some (LO.exit i3 s1.2)) (fun s8=>some (LO.ret s1.2)))).bind (Ak (fun s9=>some (LO.norm (wi .i64 (s1.1 + 1),s9))) (fun i4 s9=>some (LO.exit i4 (s1.1,s9))) (fun s9=>some (LO.ret (s1.1,s9)))) else some (LO.exit 0 (s1.1,s1.2))
def Wt (a0:List Ai) (a1:Int) (a2:Int):Option ((List AP)):=(AB (Jx a0 a1 a2) NN (1,[])).bind (Ak (fun _=>none) (fun i5 s10=>if i5 = 0 then some s10.2 else none) (fun s10=>some []))
theorem w104 {d:Nat} (hd:1≤d) (k0:Bool) (a0:List Ai) (a1:Int) (a2:Int):Fit (R NN d 104 [.rsl k0 false (a0.map (Enc.cs k0)),iW a1,iW a2] []) (Wt a0 a1 a2) (P0 (fun (t:List AP)=>AV.rsl false false (t.map (Enc.cs false)))):=by
  obtain ⟨d,rfl,g⟩:=up hd
  refine AD (t104 NN d _ _ _) ?_
  unfold nM Wt
  refine q_q (fun _=>PE)<|DN (α:=AP) false<|Cm (I:=(fun (s:Int×(List AP)) l L=>∃ (v1:AV),l = [v1,iW s.1]∧L = [sl false v1 (s.2:List AP)])) 0 ⟨(.rsl false true []),rfl,rfl⟩ ?_ ?_ ?_
  ·rintro s1 _ _ ⟨v1,rfl,rfl⟩
   unfold Va Jx
   refine q_p fr<|q_i ?_ ?_
   ·refine DD (I:=(fun (s:(List AP)) l L=>∃ (v2:AV),l = [v2]∧L = [sl false v2 (s:List AP)])) ?_ ?_ ?_ ?_
    ·refine q_p (fun _=>bd63 rfl)<|AE rfl fun b1=>A6 0 rfl rfl rfl (by decide) rfl<|AL<|CU (A:=fun (s:Bool×Int×Int×Int×Int)=>[.bool s.1,iW s.2.1]) (B:=fun s=>[bx b1 [iW s.2.2.1,iW s.2.2.2.1,iW s.2.2.2.2],sl false v1 (s1.2:List AP)]) 0 rr ?_ ?_ ?_
     ·intro s3
      unfold Vb Gf
      refine q_p fr<|q_i ?_ ?_
      ·refine Bo (A:=fun (s:Bool×Int×Int×Int)=>[.bool s.1]) (B:=fun s=>[bx b1 [iW s.2.1,iW s.2.2.1,iW s.2.2.2],sl false v1 (s1.2:List AP)]) ?_ ?_ ?_ ?_
       ·refine Bf rfl fun x1 hx1=>q_p fr<|AE rfl fun b2=>A6 0 rfl rfl rfl (by decide) rfl<|Bo (A:=fun (s:Bool)=>[.bool s]) (B:=fun s=>[bx b2 [iW x1.Kind,iW x1.View,iW x1.From,iW x1.Slot,iW x1.Value,.rsl k0 false (x1.Certs.map (Enc.cs k0)),.rsl k0 false (x1.Refs.map (Enc.cs k0))],bx b1 [iW s3.2.2.1,iW s3.2.2.2.1,iW s3.2.2.2.2],sl false v1 (s1.2:List AP)]) ?_ ?_ ?_ ?_
        ·exact q_p fr<|Ao 0 rfl rfl<|q_p fr<|q_k (q_p fr<|Ao 0 rfl rfl<|q_p fr<|q_k (q_p fr<|Ao 0 rfl rfl<|q_p fr<|q_k (q_p fr<|Ao 0 rfl rfl<|q_p fr<|q_k (q_p fr<|q_j (Ae 0 rr)<|q_p fr<|Ao 0 rfl rfl<|q_p fr<|Ao 1 rfl rfl<|q_p fr<|Ae 0 rr)<|Ae 0 rr)<|Ae 0 rr)<|Ae 0 rr)<|Ae 0 rr
        ·exact fun s6=>q_i (q_p fr<|Ao 0 rfl rfl<|q_p fr<|Ao 0 rfl rfl<|q_p (fun _=>HB rfl)<|A6 1 rfl rfl rfl (by decide) rfl<|Ae 1 rr)<|Ae 1 rr
        ·exact fun i1 s6=>q_n (Ae 1 rr)<|Ax 1 rr
        ·exact fun s6=>Ar 1 rr
       ·exact fun s7=>q_p fr<|Ae 0 rr
       ·exact fun i2 s7=>Ax 0 rr
       ·exact fun s7=>Ar 0 rr
      ·exact Ax 0 rr
     ·exact fun i3 s8=>q_n (q_i (A9 0 rfl rfl rfl<|q_e (fun _=>Xi rfl)<|DO (ys:=[(⟨s8.2.2.1,s8.2.2.2.1,s8.2.2.2.2⟩:AP)]) 1 rfl rfl (fun _ _=>rfl) fun v2 z1 hz1=>Ae 1 ⟨v2,rfl,rfl⟩)<|Ae 1 ⟨v1,rfl,rfl⟩)<|q_n (Ae 1 ⟨v1,rfl,rfl⟩)<|Ax 1 ⟨v1,rfl,rfl⟩
     ·exact fun s8=>Ar 1 ⟨v1,rfl,rfl⟩
    ·rintro s9 _ _ ⟨v3,rfl,rfl⟩
     exact q_p fr<|Ae 0 ⟨v3,rfl,rfl⟩
    ·rintro i4 s9 _ _ ⟨v4,rfl,rfl⟩
     exact Ax 0 ⟨v4,rfl,rfl⟩
    ·rintro s9 _ _ ⟨v5,rfl,rfl⟩
     exact Ar 0 ⟨v5,rfl,rfl⟩
   ·exact Ax 0 ⟨v1,rfl,rfl⟩
  ·rintro i5 s10 _ _ ⟨v6,rfl,rfl⟩
   exact q_n (Am (Il 0 rfl) rfl)<|A4
  ·rintro s10 _ _ ⟨v7,rfl,rfl⟩
   exact Am (As (α:=AP) (l0:=false) (fl:=true) (xs:=[])) rfl
def m70 (a0:Af) (a1:List Ai) (a2:Int):Option (BD):=bif !(m80 a2) then some (⟨3,(⟨0,0,0,0,0,[],[]⟩:Ai)⟩:BD) else bif decide (a2≤a0.View) then some (⟨8,(⟨0,0,0,0,0,[],[]⟩:Ai)⟩:BD) else (Wt a1 a0.Id a2).bind fun y1=>some (⟨0,(⟨4,a2,a0.Id,0,0,y1,[]⟩:Ai)⟩:BD)
theorem w70 {d:Nat} (hd:3≤d) (k0:Bool) (a0:Af) (k1:Bool) (a1:List Ai) (a2:Int):Fit (R NN d 70 [.rp k0 (Enc.cs k0 a0),.rsl k1 false (a1.map (Enc.cs k1)),iW a2] []) (m70 a0 a1 a2) (P0 (fun (t:BD)=>AV.agg (Enc.cs false t))):=by
  obtain ⟨d,rfl,g⟩:=up hd
  refine AD (t70 NN d _ _ _) ?_
  unfold b70 m70
  exact AE rfl fun b1=>AS (aF1 (Ad rfl) fun l0_=>w80 (by omega) a2)<|q_p fr<|q_i (q_p (fun _=>J3 rfl)<|A6 0 rfl rfl rfl (by decide) rfl<|AI (fun S hS=>hS.lda 0 rfl rfl) (A8 (Aa (Ad rfl) (Aa (Ad rfl) (Aa (Ad rfl) (Aa (Ad rfl) (Aa (Ad rfl) (Aa (Ad rfl) (Aa (As (α:=AP) (l0:=false) (fl:=true) (xs:=[])) (Aa (As (α:=Int) (l0:=false) (fl:=true) (xs:=[])) Ah))))))))) rfl)<|q_q fr<|q_p fr<|q_p fr<|q_p fr<|q_i (q_p (fun _=>J3 rfl)<|A6 0 rfl rfl rfl (by decide) rfl<|AI (fun S hS=>hS.lda 0 rfl rfl) (A8 (Aa (Ad rfl) (Aa (Ad rfl) (Aa (Ad rfl) (Aa (Ad rfl) (Aa (Ad rfl) (Aa (Ad rfl) (Aa (As (α:=AP) (l0:=false) (fl:=true) (xs:=[])) (Aa (As (α:=Int) (l0:=false) (fl:=true) (xs:=[])) Ah))))))))) rfl)<|q_q fr<|q_p fr<|q_p fr<|q_q fr<|q_p fr<|q_p fr<|A7 (aF3 As (Ad rfl) (Ad rfl) fun l0_ l1_ l2_=>w104 (by omega) l0_ a1 a0.Id a2) fun y1 hy1=>q_p (fun _=>NA rfl)<|q_p (fun _=>RY rfl)<|A6 0 rfl rfl rfl (by decide) rfl<|AI (fun S hS=>hS.lda 0 rfl rfl) (A8 (Aa (Ad rfl) (Aa (Ad rfl) (Aa (Ad rfl) (Aa (Ad rfl) (Aa (Ad rfl) (Aa (Ad rfl) (Aa As (Aa (As (α:=Int) (l0:=false) (fl:=true) (xs:=[])) Ah))))))))) rfl
def m69 (a0:Ab) (a1:Int) (a2:Int):Option (Int×Ab):=(Av a0.Replicas a1).bind fun x1=>(m70 x1 a0.Ledger a2).bind fun y1=>bif y1.Code != 0 then some (y1.Code,a0) else (m71 a0 y1.Msg).bind fun y2=>bif y2.1 != 0 then some (y2.1,y2.2) else (Av y2.2.Replicas a1).bind fun x2=>(Av y2.2.Replicas a1).bind fun x3=>(Av y2.2.Replicas a1).bind fun x4=>Lu (y2.2.Replicas.set (Int.toNat a1) ({ x4 with View:=a2 })) fun z1=>(Av z1 a1).bind fun x5=>(Av z1 a1).bind fun x6=>(Av z1 a1).bind fun x7=>Lu (z1.set (Int.toNat a1) ({ x7 with Start:=(-1) })) fun z2=>some (0,(⟨y2.2.F,y2.2.Bad,z2,y2.2.Ledger,y2.2.Requests⟩:Ab))
theorem w69 {d:Nat} (hd:8≤d) (L0:List En) (b0_:Nat) (i0_1 i0_2 i0_3 i0_4:List Nat) (v0_1 v0_2 v0_3 v0_4:AV) (a0:Ab) (a1:Int) (k2:Bool) (a2:Int):Okh (bx b0_ [iW a0.F,v0_1,v0_2,v0_3,v0_4]::tr i0_1 [v0_1] (a0.Bad:List Int)::tr i0_2 [v0_2] (a0.Replicas:List Af)::wls i0_3 v0_3 (a0.Ledger:List Ai)::wla i0_4 v0_4 (a0.Requests:List Ag)::L0) (fun S=>R NN d 69 [.bp b0_ 0 0 5 1,elP 4 v0_2 (Int.toNat a1),.rp k2 (Enc.cs k2 a2)] S) (m69 a0 a1 a2) (P5 (fun (x:List Nat×List Nat×AV×AV) (t:Int×Ab)=>AV.int .i64 t.1) (fun (x:List Nat×List Nat×AV×AV) (t:Int×Ab)=>bx b0_ [iW t.2.F,v0_1,v0_2,x.2.2.1,x.2.2.2]::tr i0_1 [v0_1] (t.2.Bad:List Int)::tr i0_2 [v0_2] (t.2.Replicas:List Af)::wls x.1 x.2.2.1 (t.2.Ledger:List Ai)::wla x.2.1 x.2.2.2 (t.2.Requests:List Ag)::L0)):=by
  obtain ⟨d,rfl,g⟩:=up hd
  refine Do (t69 NN d _ _ _) ?_
  unfold b69 m69
  exact AE rfl fun b1=>q_q fr<|q_p fr<|Ao 1 rfl rfl<|q_p fr<|Cc fun x1 hx1=>A7 (aF3 (OG 3 rfl rfl hx1) (CN (α:=Ai) 4 rfl) (Ad rfl) fun l0_ l1_ l2_=>w70 (by omega) l0_ x1 l1_ a0.Ledger a2) fun y1 hy1=>A6 0 rfl rfl rfl (by decide) rfl<|q_p fr<|Ao 0 rfl rfl<|q_p fr<|q_i (q_p fr<|Ao 0 rfl rfl<|AU (i0_3,i0_4,v0_3,v0_4) 1 rfl rfl)<|q_p fr<|A9 0 rfl rfl rfl<|Dt 6 [1,2,3,4,5,0] (by decide) (by decide)<|D5 (mg:=m71 a0 y1.Msg) (fun S=>rfl) (w71 (by omega) _ b0_ i0_1 i0_2 i0_3 i0_4 v0_1 v0_2 v0_3 v0_4 a0 _ _ _ _ _ _ _ y1.Msg (Aq (l0:=false) (x:=y1.Msg))) fun y2 hy2 ⟨i1,i2,v1,v2⟩=>q_p fr<|q_i (Dt 6 [5,0,1,2,3,4] (by decide) (by decide)<|AU (i1,i2,v1,v2) 1 rfl rfl)<|q_p fr<|Cc fun x2 hx2=>EF 2 rfl hx2<|Cc fun x3 hx3=>EJ 2 rfl hx3 (by decide)<|Cc fun x4 hx4=>IY 2 rfl rfl hx4 rfl (SD a2) fun z1 hz1=>Cc fun x5 hx5=>EF 2 rfl hx5<|Cc fun x6 hx6=>EJ 2 rfl hx6 (by decide)<|Cc fun x7 hx7=>IY 2 rfl rfl hx7 rfl (Hi (-1)) fun z2 hz2=>Dt 6 [5,0,1,2,3,4] (by decide) (by decide)<|AU (i1,i2,v1,v2) 1 rfl rfl
def m38 (a0:Int):Int:=a0
theorem w38 {d:Nat} (hd:9≤d) (a0:Int):Fit (R NN d 38 [iW a0] []) (some (m38 a0)) (P0 (fun (t:Int)=>AV.fn 69 [.rp false (Enc.cs false t)])):=by
  obtain ⟨d,rfl,g⟩:=up hd
  refine AD (t38 NN d _) ?_
  unfold b38 m38
  exact AG (n:=1) rfl rfl (by decide) fun b1=>Am (BC (Aa (KZ 0 rfl rfl) Ah)) rfl
def K5 (a0:Ab) (a1:Int) (a2_0:Int):Option (Int×Ab):=(Gg a0 a1).bind fun y1=>FZ y1 ( some (4,a0)) fun r1=>(Av a0.Replicas r1).bind fun x2=>(m69 a0 r1 a2_0).bind fun y2=>some (y2.1,y2.2)
theorem bD {d:Nat} (hd:9≤d) (L0:List En) (b0_:Nat) (i0_1 i0_2 i0_3 i0_4:List Nat) (v0_1 v0_2 v0_3 v0_4:AV) (a0:Ab) (a1:Int) (k2_0:Bool) (a2_0:Int):Okh (bx b0_ [iW a0.F,v0_1,v0_2,v0_3,v0_4]::tr i0_1 [v0_1] (a0.Bad:List Int)::tr i0_2 [v0_2] (a0.Replicas:List Af)::wls i0_3 v0_3 (a0.Ledger:List Ai)::wla i0_4 v0_4 (a0.Requests:List Ag)::L0) (fun S=>R NN d 61 [.bp b0_ 0 0 5 1,iW a1,.fn 69 [.rp k2_0 (Enc.cs k2_0 a2_0)]] S) (K5 a0 a1 a2_0) (P5 (fun (x:List Nat×List Nat×AV×AV) (t:Int×Ab)=>AV.int .i64 t.1) (fun (x:List Nat×List Nat×AV×AV) (t:Int×Ab)=>bx b0_ [iW t.2.F,v0_1,v0_2,x.2.2.1,x.2.2.2]::tr i0_1 [v0_1] (t.2.Bad:List Int)::tr i0_2 [v0_2] (t.2.Replicas:List Af)::wls x.1 x.2.2.1 (t.2.Ledger:List Ai)::wla x.2.1 x.2.2.2 (t.2.Requests:List Ag)::L0)):=by
  obtain ⟨d,rfl,g⟩:=up hd
  refine Do (t61 NN d _ _ _) ?_
  unfold b61 K5
  refine HN (mg:=Gg a0 a1) (v0:=fun _=>AV.nilp) (v1:=fun x r=>elP 4 v0_2 (Int.toNat r)) (fun _=>rfl) (fun _ _=>rfl) (Ph (by omega) _ b0_ i0_1 i0_2 i0_3 i0_4 v0_1 v0_2 v0_3 v0_4 a0 a1) (fun x1=>?_) (fun r1 x1 hy1=>?_)
  ·refine q_p (fun _=>Fj) ?_
   first | refine BW ?_ | skip
   exact AU (i0_3,i0_4,v0_3,v0_4) 0 rfl rfl
  ·refine Cc fun x2 hx2=>PL (f:=fun a=>D1 Tryz.prog .eql 68 a .nilp) 2 rfl hx2 (fun _ _ _ _ _=>FY _ _ _ _ _) ?_
   first | refine CZ ?_ | skip
   exact D5 (mg:=m69 a0 r1 a2_0) (fun S=>Qp _ _ _ _) (w69 (by omega) _ b0_ i0_1 i0_2 i0_3 i0_4 v0_1 v0_2 v0_3 v0_4 a0 r1 k2_0 a2_0) fun y2 hy2 ⟨i1,i2,v1,v2⟩=>AU (i1,i2,v1,v2) 0 rfl rfl
def K6 (a0:Ab) (a1:Int) (a2_0:Int):Option (Int×Ab):=(K5 a0 a1 a2_0).bind fun y1=>some (y1.1,y1.2)
theorem bE {d:Nat} (hd:10≤d) (L0:List En) (b0_:Nat) (i0_1 i0_2 i0_3 i0_4:List Nat) (v0_1 v0_2 v0_3 v0_4:AV) (a0:Ab) (k1:Bool) (a1:Int) (k2:Bool) (k2_0:Bool) (a2_0:Int):Okh (bx b0_ [iW a0.F,v0_1,v0_2,v0_3,v0_4]::tr i0_1 [v0_1] (a0.Bad:List Int)::tr i0_2 [v0_2] (a0.Replicas:List Af)::wls i0_3 v0_3 (a0.Ledger:List Ai)::wla i0_4 v0_4 (a0.Requests:List Ag)::L0) (fun S=>R NN d 60 [.bp b0_ 0 0 5 1,.rp k1 (Enc.cs k1 a1),.rp k2 [.fn 69 [.rp k2_0 (Enc.cs k2_0 a2_0)]]] S) (K6 a0 a1 a2_0) (P5 (fun (x:List Nat×List Nat×AV×AV) (t:Int×Ab)=>AV.int .i64 t.1) (fun (x:List Nat×List Nat×AV×AV) (t:Int×Ab)=>bx b0_ [iW t.2.F,v0_1,v0_2,x.2.2.1,x.2.2.2]::tr i0_1 [v0_1] (t.2.Bad:List Int)::tr i0_2 [v0_2] (t.2.Replicas:List Af)::wls x.1 x.2.2.1 (t.2.Ledger:List Ai)::wla x.2.1 x.2.2.2 (t.2.Requests:List Ag)::L0)):=by
  obtain ⟨d,rfl,g⟩:=up hd
  refine Do (t60 NN d _ _ _) ?_
  unfold b60 K6
  exact q_p fr<|q_p fr<|D5 (mg:=K5 a0 a1 a2_0) (fun S=>rfl) (bD (by omega) _ b0_ i0_1 i0_2 i0_3 i0_4 v0_1 v0_2 v0_3 v0_4 a0 a1 k2_0 a2_0) fun y1 hy1 ⟨i1,i2,v1,v2⟩=>AU (i1,i2,v1,v2) 0 rfl rfl
def K8 (a0:Ab) (a1_0:Int) (a1_1_0:Int):Option (Ac):=(m20 a0).bind fun y1=>bif y1 != 0 then some (⟨y1,(⟨0,[],[],[],[]⟩:Ab)⟩:Ac) else (m59 a0).bind fun y2=>(K6 y2 a1_0 a1_1_0).bind fun y3=>bif y3.1 != 0 then some (⟨y3.1,(⟨0,[],[],[],[]⟩:Ab)⟩:Ac) else (m59 y3.2).bind fun y4=>some (⟨0,y4⟩:Ac)
theorem bG {d:Nat} (hd:144≤d) (k0:Bool) (a0:Ab) (k1_0:Bool) (a1_0:Int) (k1_1:Bool) (k1_1_0:Bool) (a1_1_0:Int):Fit (R NN d 31 [.agg (Enc.cs k0 a0),.fn 60 [.rp k1_0 (Enc.cs k1_0 a1_0),.rp k1_1 [.fn 69 [.rp k1_1_0 (Enc.cs k1_1_0 a1_1_0)]]]] []) (K8 a0 a1_0 a1_1_0) (P1 (T:=Ac) AV.agg):=by
  obtain ⟨d,rfl,g⟩:=up hd
  refine AD (t31 NN d _ _) ?_
  unfold b31 K8
  refine AG (n:=5) rfl rfl (by decide) fun b1=>AE rfl fun b2=>A9 1 rfl rfl rfl<|A7 (aF1 (A8 (Aq (l0:=k0) (x:=a0))) fun l0_=>w20 (by omega) l0_ a0) fun y1 hy1=>q_p fr<|q_i ?_ ?_
  ·exact q_p (fun _=>CQ rfl)<|A6 0 rfl rfl rfl (by decide) rfl<|Bn (fun S hS=>hS.lda 0 rfl rfl) (Bh (α:=Ac) (β:=Int×Ab) (f:=fun x=>(x.Code,x.Cluster)) (x:=(⟨y1,(⟨0,[],[],[],[]⟩:Ab)⟩:Ac)) rfl (Ap (AO (n:=y1)) (Bh (α:=Ab) (β:=Int×(List Int)×(List Af)×(List Ai)×(List Ag)) (f:=fun x=>(x.F,x.Bad,x.Replicas,x.Ledger,x.Requests)) (x:=(⟨0,[],[],[],[]⟩:Ab)) rfl (Ap (AO (n:=0)) (Ap (AA (α:=Int) (fl:=true)) (Ap (AA (α:=Af) (fl:=true)) (Ap (AA (α:=Ai) (fl:=true)) (AA (α:=Ag) (fl:=true))))))))) rfl
  ·refine A9 1 rfl rfl rfl<|HQ (mg:=m59 a0) (aF1 (A8 (Aq (l0:=k0) (x:=a0))) fun l0_=>w59 (by omega) l0_ a0) fun y2 hy2 i1 cs1 hq_=>Ez (fun S hS=>Eu (hS.get (k:=0) rfl)) fun hcs_=>?_
   obtain ⟨v1,v2,v3,v4,rfl⟩:=hcs_
   refine HM (x:=(y2.F,y2.Bad,y2.Replicas,y2.Ledger,y2.Requests)) hq_ rfl (fun _ h=>h) fun i2 i3 i4 i5=>AE rfl fun b3=>A6 0 rfl rfl rfl (by decide) rfl<|D5 (mg:=K6 y2 a1_0 a1_1_0) (fun S=>L8 _ _ _ _) (bE (by omega) _ b3 i2 i3 i4 i5 v1 v2 v3 v4 y2 k1_0 a1_0 k1_1 k1_1_0 a1_1_0) fun y3 hy3 ⟨i6,i7,v5,v6⟩=>q_p fr<|q_i ?_ ?_
   ·exact q_p (fun _=>CQ rfl)<|A6 5 rfl rfl rfl (by decide) rfl<|Bn (fun S hS=>hS.lda 5 rfl rfl) (Bh (α:=Ac) (β:=Int×Ab) (f:=fun x=>(x.Code,x.Cluster)) (x:=(⟨y3.1,(⟨0,[],[],[],[]⟩:Ab)⟩:Ac)) rfl (Ap (AO (n:=y3.1)) (Bh (α:=Ab) (β:=Int×(List Int)×(List Af)×(List Ai)×(List Ag)) (f:=fun x=>(x.F,x.Bad,x.Replicas,x.Ledger,x.Requests)) (x:=(⟨0,[],[],[],[]⟩:Ab)) rfl (Ap (AO (n:=0)) (Ap (AA (α:=Int) (fl:=true)) (Ap (AA (α:=Af) (fl:=true)) (Ap (AA (α:=Ai) (fl:=true)) (AA (α:=Ag) (fl:=true))))))))) rfl
   ·refine A9 0 rfl rfl rfl<|FU (W:=AV.agg) (mg:=m59 y3.2) CY (aF1 (A8 (Aa (Ad rfl) (Aa (Cb 1 rfl) (Aa (Cb 2 rfl) (Aa (CN (α:=Ai) 3 rfl) (Aa (DZ (α:=Ag) 4 rfl) Ah)))))) fun l0_=>MQ (by omega) l0_ y3.2) fun y4 hy4 i8 cs2=>Ez (fun S hS=>Eu (hS.get (k:=0) rfl)) fun hcs_=>?_
    obtain ⟨v7,v8,v9,v10,rfl⟩:=hcs_
    exact q_p (fun _=>FB rfl)<|A6 6 rfl rfl rfl (by decide) rfl<|Bn (fun S hS=>hS.lda 6 rfl rfl) (Bh (α:=Ac) (β:=Int×Ab) (f:=fun x=>(x.Code,x.Cluster)) (x:=(⟨0,y4⟩:Ac)) rfl (Ap (AO (n:=0)) (Dp 0 rfl))) rfl
def K7 (a0:Ab) (a1:Int) (a2_0:Int):Option (Ac):=(K8 a0 a1 a2_0).bind fun y1=>some y1
theorem bF {d:Nat} (hd:155≤d) (k0:Bool) (a0:Ab) (a1:Int) (k2_0:Bool) (a2_0:Int):Fit (R NN d 34 [.agg (Enc.cs k0 a0),iW a1,.fn 69 [.rp k2_0 (Enc.cs k2_0 a2_0)]] []) (K7 a0 a1 a2_0) (P1 (T:=Ac) AV.agg):=by
  obtain ⟨d,rfl,g⟩:=up hd
  refine AD (t34 NN d _ _ _) ?_
  unfold b34 K7
  refine AG (n:=5) rfl rfl (by decide) fun b1=>AG (n:=1) rfl rfl (by decide) fun b2=>AG (n:=1) rfl rfl (by decide) fun b3=>AE rfl fun b4=>A9 3 rfl rfl rfl<|FU (W:=AV.agg) (mg:=K8 a0 a1 a2_0) CY (aF2 (A8 (Aq (l0:=k0) (x:=a0))) (BC (Aa (B9 2 rfl (Aq (l0:=false) (x:=a1))) (Aa (B9 1 rfl (Aa (BC (Aa (AZ (Aq (l0:=k2_0) (x:=a2_0)) (fun _ _ _ h=>Enc.frz k2_0 a2_0 _ _ _ h)) Ah)) Ah)) Ah))) fun l0_ l1_=>bG (by omega) l0_ a0 l1_ a1 l1_ l1_ a2_0) fun y1 hy1 i1 cs1=>Ez (fun S hS=>J8 (hS.get (k:=0) rfl)) fun hcs_=>?_
  obtain ⟨v1,v2,v3,v4,rfl⟩:=hcs_
  exact A6 1 rfl rfl rfl (by decide) rfl<|Bn (fun S hS=>hS.lda 1 rfl rfl) (Dp 0 rfl) rfl
theorem XM {d:Nat} (hd:155≤d) (k0:Bool) (a0:Ab) (a1:Int) (k2_0:Bool) (a2_0:Int):Fit (R NN d 34 [.agg (Enc.cs k0 a0),iW a1,.fn 69 [.rp k2_0 (Enc.cs k2_0 a2_0)]] []) (K7 a0 a1 a2_0) (P0 (fun (t:Ac)=>AV.agg (Enc.cs false t))):=EV (bF hd k0 a0 a1 k2_0 a2_0)
def m15 (a0:Ab) (a1:Int) (a2:Int):Option (Ac):=(K7 a0 a1 (m38 a2)).bind fun y1=>some y1
theorem w15 {d:Nat} (hd:165≤d) (k0:Bool) (a0:Ab) (a1:Int) (a2:Int):Fit (R NN d 15 [.agg (Enc.cs k0 a0),iW a1,iW a2] []) (m15 a0 a1 a2) (P0 (fun (t:Ac)=>AV.agg (Enc.cs false t))):=by
  obtain ⟨d,rfl,g⟩:=up hd
  refine AD (t15 NN d _ _ _) ?_
  unfold b15 m15
  exact AG (n:=5) rfl rfl (by decide) fun b1=>AE rfl fun b2=>A9 1 rfl rfl rfl<|AS (aF1 (Ad rfl) fun l0_=>w38 (by omega) a2)<|A7 (aF3 (A8 (Aq (l0:=k0) (x:=a0))) (Ad rfl) (BC (Aa (AZ (Aq (l0:=false) (x:=(m38 a2))) (fun _ _ _ h=>Enc.frz false (m38 a2) _ _ _ h)) Ah)) fun l0_ l1_ l2_=>XM (by omega) l0_ a0 a1 l2_ (m38 a2)) fun y1 hy1=>A6 0 rfl rfl rfl (by decide) rfl<|AI (fun S hS=>hS.lda 0 rfl rfl) (A8 (Aq (l0:=false) (x:=y1))) rfl
def HY (a0:Int) (a1:List Ai) (a2:Int) (s1:Int×(List Int)×(List Int)):Option (LO (Int×(List Int)×(List Int))):=bif decide (s1.1 < (a1.length:Int)) then ( (Av a1 s1.1).bind fun x1=>( bif decide ((s1.2.2.length:Int) < (wi .i64 ((wi .i64 (2 * a0)) + 1))) then bif x1.View == a2 then (m58 s1.2.1 x1.From).bind fun y1=>bif !y1 then (TA a0 a1 s1.1).bind fun y2=>some (LO.norm y2) else some (LO.norm false) else some (LO.norm false) else some (LO.norm false)).bind (Ak (fun s4=>bif s4 then (Bw 8 s1.2.2 [s1.1]).bind fun z1=>(Bw 8 s1.2.1 [x1.From]).bind fun z2=>some (LO.norm (z2,z1)) else some (LO.norm (s1.2.1,s1.2.2))) (fun i1 s4=>if i1 = 1 then some (LO.norm (s1.2.1,s1.2.2)) else some (LO.exit i1 (s1.2.1,s1.2.2))) (fun s4=>some (LO.ret (s1.2.1,s1.2.2))))).bind (Ak (fun s5=>some (LO.norm (wi .i64 (s1.1 + 1),s5.1,s5.2))) (fun i2 s5=>some (LO.exit i2 (s1.1,s5.1,s5.2))) (fun s5=>some (LO.ret (s1.1,s5.1,s5.2)))) else some (LO.exit 0 (s1.1,s1.2.1,s1.2.2))
def Ws (a0:Int) (a1:List Ai) (a2:Int):Option ((List Int)):=(AB (HY a0 a1 a2) NN (0,[],[])).bind (Ak (fun _=>none) (fun i3 s6=>if i3 = 0 then some s6.2.2 else none) (fun s6=>some []))
theorem w106 {d:Nat} (hd:141≤d) (a0:Int) (k1:Bool) (a1:List Ai) (a2:Int):Fit (R NN d 106 [iW a0,.rsl k1 false (a1.map (Enc.cs k1)),iW a2] []) (Ws a0 a1 a2) (P0 (fun (t:List Int)=>AV.rsl false false (t.map (Enc.cs false)))):=by
  obtain ⟨d,rfl,g⟩:=up hd
  refine AD (t106 NN d _ _ _) ?_
  unfold nK Ws
  refine q_q (fun _=>EU)<|q_q (fun _=>EU)<|AL<|DN (α:=Int) false<|DN (α:=Int) false<|Cm (I:=(fun (s:Int×(List Int)×(List Int)) l L=>∃ (v1:AV) (v2:AV),l = [v2,v1,iW s.1]∧L = [sl false v1 (s.2.1:List Int),sl false v2 (s.2.2:List Int)])) 0 ⟨(.rsl false true []),(.rsl false true []),rfl,rfl⟩ ?_ ?_ ?_
  ·rintro s1 _ _ ⟨v1,v2,rfl,rfl⟩
   unfold UZ HY
   refine q_p fr<|q_i ?_ ?_
   ·refine DD (I:=(fun (s:(List Int)×(List Int)) l L=>∃ (v3:AV) (v4:AV),l = [v4,v3]∧L = [sl false v3 (s.1:List Int),sl false v4 (s.2:List Int)])) ?_ ?_ ?_ ?_
    ·refine Bf rfl fun x1 hx1=>q_p fr<|AE rfl fun b1=>A6 0 rfl rfl rfl (by decide) rfl<|Bo (A:=fun (s:Bool)=>[.bool s]) (B:=fun s=>[bx b1 [iW x1.Kind,iW x1.View,iW x1.From,iW x1.Slot,iW x1.Value,.rsl k1 false (x1.Certs.map (Enc.cs k1)),.rsl k1 false (x1.Refs.map (Enc.cs k1))],sl false v1 (s1.2.1:List Int),sl false v2 (s1.2.2:List Int)]) ?_ ?_ ?_ ?_
     ·exact JL 2 rfl<|q_p fr<|q_p fr<|q_p fr<|q_k (q_p fr<|Ao 0 rfl rfl<|q_p fr<|q_k (q_p fr<|Ao 0 rfl rfl<|A7 (aF2 (Il 1 rfl) (Ad rfl) fun l0_ l1_=>w58 (by omega) l0_ s1.2.1 x1.From) fun y1 hy1=>q_p fr<|q_k (A7 (aF3 (Ad rfl) As (Ad rfl) fun l0_ l1_ l2_=>hU (by omega) a0 l1_ a1 s1.1) fun y2 hy2=>Ae 0 rr)<|Ae 0 rr)<|Ae 0 rr)<|Ae 0 rr
     ·exact fun s4=>q_i (q_q (fun _=>F8)<|q_p fr<|Ao 0 rfl rfl<|q_q (fun _=>F8)<|cT (φ:=EC (.bp b1 0 2 1 1) v2 = true) (fun S hS=>hS.apS 0 2 rfl rfl (by decide)) fun ap1=>DO (ys:=[s1.1]) 2 rfl rfl (fun _ _=>rfl) fun v3 z1 hz1=>DO (ys:=[x1.From]) 1 rfl rfl (fun _ _=>rfl) fun v4 z2 hz2=>Jo (fun S hS=>(Gs ap1 rfl))<|Ae 1 ⟨v4,v3,rfl,rfl⟩)<|Ae 1 ⟨v1,v2,rfl,rfl⟩
     ·exact fun i1 s4=>q_n (Ae 1 ⟨v1,v2,rfl,rfl⟩)<|Ax 1 ⟨v1,v2,rfl,rfl⟩
     ·exact fun s4=>Ar 1 ⟨v1,v2,rfl,rfl⟩
    ·rintro s5 _ _ ⟨v5,v6,rfl,rfl⟩
     exact q_p fr<|Ae 0 ⟨v5,v6,rfl,rfl⟩
    ·rintro i2 s5 _ _ ⟨v7,v8,rfl,rfl⟩
     exact Ax 0 ⟨v7,v8,rfl,rfl⟩
    ·rintro s5 _ _ ⟨v9,v10,rfl,rfl⟩
     exact Ar 0 ⟨v9,v10,rfl,rfl⟩
   ·exact Ax 0 ⟨v1,v2,rfl,rfl⟩
  ·rintro i3 s6 _ _ ⟨v11,v12,rfl,rfl⟩
   exact q_n (Am (Il 1 rfl) rfl)<|A4
  ·rintro s6 _ _ ⟨v13,v14,rfl,rfl⟩
   exact Am (As (α:=Int) (l0:=false) (fl:=true) (xs:=[])) rfl
def m72 (a0:Af) (a1:Int) (a2:List Ai):Option (BD):=( ( bif a0.View == 0 then some (LO.norm true) else (m97 a1 a0.View).bind fun y1=>bif a0.Id != y1 then some (LO.norm true) else some (LO.norm (a0.Start != (-1)))).bind (Ak (fun s3=>bif s3 then some (LO.ret 8) else some (LO.norm 0)) (fun i1 s3=>some (LO.exit i1 0)) (fun s3=>some (LO.ret 0)))).bind (Ak (fun s4=>(Ws a1 a2 a0.View).bind fun y2=>bif decide ((y2.length:Int) < (wi .i64 ((wi .i64 (2 * a1)) + 1))) then some (⟨10,(⟨0,0,0,0,0,[],[]⟩:Ai)⟩:BD) else some (⟨0,(⟨5,a0.View,a0.Id,0,0,[],y2⟩:Ai)⟩:BD)) (fun i2 s4=>none) (fun s4=>some (⟨s4,(⟨0,0,0,0,0,[],[]⟩:Ai)⟩:BD)))
theorem w72 {d:Nat} (hd:142≤d) (k0:Bool) (a0:Af) (a1:Int) (k2:Bool) (a2:List Ai):Fit (R NN d 72 [.rp k0 (Enc.cs k0 a0),iW a1,.rsl k2 false (a2.map (Enc.cs k2))] []) (m72 a0 a1 a2) (P0 (fun (t:BD)=>AV.agg (Enc.cs false t))):=by
  obtain ⟨d,rfl,g⟩:=up hd
  refine AD (t72 NN d _ _ _) ?_
  unfold b72 m72
  refine AE rfl fun b1=>Bo (A:=fun (s:Int)=>[]) (B:=fun s=>[bx b1 [iW s,iW 0,iW 0,iW 0,iW 0,iW 0,.rsl false true [],.rsl false true []]]) ?_ ?_ ?_ ?_
  ·refine Bo (A:=fun (s:Bool)=>[.bool s]) (B:=fun s=>[bx b1 [iW 0,iW 0,iW 0,iW 0,iW 0,iW 0,.rsl false true [],.rsl false true []]]) ?_ ?_ ?_ ?_
   ·exact q_q fr<|q_p fr<|q_p fr<|q_p fr<|q_j (Ae 0 rr)<|q_q fr<|q_p fr<|q_p fr<|q_q fr<|q_p fr<|q_p fr<|A7 (aF2 (Ad rfl) (Ad rfl) fun l0_ l1_=>w97 (by omega) a1 a0.View) fun y1 hy1=>q_p fr<|q_j (Ae 0 rr)<|q_q fr<|q_p fr<|q_p fr<|q_p fr<|Ae 0 rr
   ·exact fun s3=>q_i (q_p (fun _=>J3 rfl)<|A6 0 rfl rfl rfl (by decide) rfl<|Ar 0 rr)<|Ae 0 rr
   ·exact fun i1 s3=>Ax 0 rr
   ·exact fun s3=>Ar 0 rr
  ·exact fun s4=>q_q fr<|q_p fr<|q_p fr<|A7 (aF3 (Ad rfl) As (Ad rfl) fun l0_ l1_ l2_=>w106 (by omega) a1 l1_ a2 a0.View) fun y2 hy2=>AL<|q_p fr<|q_p fr<|q_p fr<|q_i (q_p (fun _=>J3 rfl)<|A6 0 rfl rfl rfl (by decide) rfl<|AI (fun S hS=>hS.lda 0 rfl rfl) (A8 (Aa (Ad rfl) (Aa (Ad rfl) (Aa (Ad rfl) (Aa (Ad rfl) (Aa (Ad rfl) (Aa (Ad rfl) (Aa (As (α:=AP) (l0:=false) (fl:=true) (xs:=[])) (Aa (As (α:=Int) (l0:=false) (fl:=true) (xs:=[])) Ah))))))))) rfl)<|q_q fr<|q_p fr<|q_p fr<|q_q fr<|q_p fr<|q_p fr<|q_p (fun _=>N9 rfl)<|q_p (fun _=>RY rfl)<|A6 0 rfl rfl rfl (by decide) rfl<|AI (fun S hS=>hS.lda 0 rfl rfl) (A8 (Aa (Ad rfl) (Aa (Ad rfl) (Aa (Ad rfl) (Aa (Ad rfl) (Aa (Ad rfl) (Aa (Ad rfl) (Aa (As (α:=AP) (l0:=false) (fl:=true) (xs:=[])) (Aa As Ah))))))))) rfl
  ·exact fun i2 s4=>A4
  ·exact fun s4=>AI (fun S hS=>hS.lda 0 rfl rfl) (A8 (Aa (Ad rfl) (Aa (Ad rfl) (Aa (Ad rfl) (Aa (Ad rfl) (Aa (Ad rfl) (Aa (Ad rfl) (Aa (As (α:=AP) (l0:=false) (fl:=true) (xs:=[])) (Aa (As (α:=Int) (l0:=false) (fl:=true) (xs:=[])) Ah))))))))) rfl
def m39 (a0:Ab) (a1:Int):Option (Int×Ab):=(Av a0.Replicas a1).bind fun x1=>(m72 x1 a0.F a0.Ledger).bind fun y1=>bif y1.Code != 0 then some (y1.Code,a0) else (m71 a0 y1.Msg).bind fun y2=>bif y2.1 != 0 then some (y2.1,y2.2) else (m73 y2.2.Ledger y1.Msg).bind fun y3=>(Av y2.2.Replicas a1).bind fun x2=>(Av y2.2.Replicas a1).bind fun x3=>(Av y2.2.Replicas a1).bind fun x4=>Lu (y2.2.Replicas.set (Int.toNat a1) ({ x4 with Start:=y3 })) fun z1=>some (0,(⟨y2.2.F,y2.2.Bad,z1,y2.2.Ledger,y2.2.Requests⟩:Ab))
theorem w39 {d:Nat} (hd:143≤d) (L0:List En) (b0_:Nat) (i0_1 i0_2 i0_3 i0_4:List Nat) (v0_1 v0_2 v0_3 v0_4:AV) (a0:Ab) (a1:Int):Okh (bx b0_ [iW a0.F,v0_1,v0_2,v0_3,v0_4]::tr i0_1 [v0_1] (a0.Bad:List Int)::tr i0_2 [v0_2] (a0.Replicas:List Af)::wls i0_3 v0_3 (a0.Ledger:List Ai)::wla i0_4 v0_4 (a0.Requests:List Ag)::L0) (fun S=>R NN d 39 [.bp b0_ 0 0 5 1,elP 4 v0_2 (Int.toNat a1)] S) (m39 a0 a1) (P5 (fun (x:List Nat×List Nat×AV×AV) (t:Int×Ab)=>AV.int .i64 t.1) (fun (x:List Nat×List Nat×AV×AV) (t:Int×Ab)=>bx b0_ [iW t.2.F,v0_1,v0_2,x.2.2.1,x.2.2.2]::tr i0_1 [v0_1] (t.2.Bad:List Int)::tr i0_2 [v0_2] (t.2.Replicas:List Af)::wls x.1 x.2.2.1 (t.2.Ledger:List Ai)::wla x.2.1 x.2.2.2 (t.2.Requests:List Ag)::L0)):=by
  obtain ⟨d,rfl,g⟩:=up hd
  refine Do (t39 NN d _ _) ?_
  unfold b39 m39
  exact AE rfl fun b1=>q_q fr<|q_p fr<|Ao 1 rfl rfl<|q_q fr<|q_p fr<|Ao 1 rfl rfl<|Cc fun x1 hx1=>A7 (aF3 (OG 3 rfl rfl hx1) (Ad rfl) (CN (α:=Ai) 4 rfl) fun l0_ l1_ l2_=>w72 (by omega) l0_ x1 a0.F l2_ a0.Ledger) fun y1 hy1=>A6 0 rfl rfl rfl (by decide) rfl<|q_p fr<|Ao 0 rfl rfl<|q_p fr<|q_i (q_p fr<|Ao 0 rfl rfl<|AU (i0_3,i0_4,v0_3,v0_4) 1 rfl rfl)<|q_p fr<|A9 0 rfl rfl rfl<|Dt 6 [1,2,3,4,5,0] (by decide) (by decide)<|D5 (mg:=m71 a0 y1.Msg) (fun S=>rfl) (w71 (by omega) _ b0_ i0_1 i0_2 i0_3 i0_4 v0_1 v0_2 v0_3 v0_4 a0 _ _ _ _ _ _ _ y1.Msg (Aq (l0:=false) (x:=y1.Msg))) fun y2 hy2 ⟨i1,i2,v1,v2⟩=>q_p fr<|q_i (Dt 6 [5,0,1,2,3,4] (by decide) (by decide)<|AU (i1,i2,v1,v2) 1 rfl rfl)<|q_q fr<|q_p fr<|Ao 0 rfl rfl<|q_p fr<|A9 5 rfl rfl rfl<|A7 (aF2 (CN (α:=Ai) 3 rfl) (A8 (Aq (l0:=false) (x:=y1.Msg))) fun l0_ l1_=>w73 (by omega) l0_ y2.2.Ledger l1_ y1.Msg) fun y3 hy3=>Cc fun x2 hx2=>EF 2 rfl hx2<|Cc fun x3 hx3=>EJ 2 rfl hx3 (by decide)<|Cc fun x4 hx4=>IY 2 rfl rfl hx4 rfl (Hi y3) fun z1 hz1=>Dt 6 [5,0,1,2,3,4] (by decide) (by decide)<|AU (i1,i2,v1,v2) 1 rfl rfl
def K1 (a0:Ab) (a1:Int):Option (Int×Ab):=(Gg a0 a1).bind fun y1=>FZ y1 ( some (4,a0)) fun r1=>(Av a0.Replicas r1).bind fun x2=>(m39 a0 r1).bind fun y2=>some (y2.1,y2.2)
theorem aY {d:Nat} (hd:144≤d) (L0:List En) (b0_:Nat) (i0_1 i0_2 i0_3 i0_4:List Nat) (v0_1 v0_2 v0_3 v0_4:AV) (a0:Ab) (a1:Int):Okh (bx b0_ [iW a0.F,v0_1,v0_2,v0_3,v0_4]::tr i0_1 [v0_1] (a0.Bad:List Int)::tr i0_2 [v0_2] (a0.Replicas:List Af)::wls i0_3 v0_3 (a0.Ledger:List Ai)::wla i0_4 v0_4 (a0.Requests:List Ag)::L0) (fun S=>R NN d 61 [.bp b0_ 0 0 5 1,iW a1,.fn 39 []] S) (K1 a0 a1) (P5 (fun (x:List Nat×List Nat×AV×AV) (t:Int×Ab)=>AV.int .i64 t.1) (fun (x:List Nat×List Nat×AV×AV) (t:Int×Ab)=>bx b0_ [iW t.2.F,v0_1,v0_2,x.2.2.1,x.2.2.2]::tr i0_1 [v0_1] (t.2.Bad:List Int)::tr i0_2 [v0_2] (t.2.Replicas:List Af)::wls x.1 x.2.2.1 (t.2.Ledger:List Ai)::wla x.2.1 x.2.2.2 (t.2.Requests:List Ag)::L0)):=by
  obtain ⟨d,rfl,g⟩:=up hd
  refine Do (t61 NN d _ _ _) ?_
  unfold b61 K1
  refine HN (mg:=Gg a0 a1) (v0:=fun _=>AV.nilp) (v1:=fun x r=>elP 4 v0_2 (Int.toNat r)) (fun _=>rfl) (fun _ _=>rfl) (Ph (by omega) _ b0_ i0_1 i0_2 i0_3 i0_4 v0_1 v0_2 v0_3 v0_4 a0 a1) (fun x1=>?_) (fun r1 x1 hy1=>?_)
  ·refine q_p (fun _=>Fj) ?_
   first | refine BW ?_ | skip
   exact AU (i0_3,i0_4,v0_3,v0_4) 0 rfl rfl
  ·refine Cc fun x2 hx2=>PL (f:=fun a=>D1 Tryz.prog .eql 68 a .nilp) 2 rfl hx2 (fun _ _ _ _ _=>FY _ _ _ _ _) ?_
   first | refine CZ ?_ | skip
   exact D5 (mg:=m39 a0 r1) (fun S=>Qo _ _ _ _) (w39 (by omega) _ b0_ i0_1 i0_2 i0_3 i0_4 v0_1 v0_2 v0_3 v0_4 a0 r1) fun y2 hy2 ⟨i1,i2,v1,v2⟩=>AU (i1,i2,v1,v2) 0 rfl rfl
def K2 (a0:Ab) (a1:Int):Option (Int×Ab):=(K1 a0 a1).bind fun y1=>some (y1.1,y1.2)
theorem aZ {d:Nat} (hd:145≤d) (L0:List En) (b0_:Nat) (i0_1 i0_2 i0_3 i0_4:List Nat) (v0_1 v0_2 v0_3 v0_4:AV) (a0:Ab) (k1:Bool) (a1:Int) (k2:Bool):Okh (bx b0_ [iW a0.F,v0_1,v0_2,v0_3,v0_4]::tr i0_1 [v0_1] (a0.Bad:List Int)::tr i0_2 [v0_2] (a0.Replicas:List Af)::wls i0_3 v0_3 (a0.Ledger:List Ai)::wla i0_4 v0_4 (a0.Requests:List Ag)::L0) (fun S=>R NN d 60 [.bp b0_ 0 0 5 1,.rp k1 (Enc.cs k1 a1),.rp k2 [.fn 39 []]] S) (K2 a0 a1) (P5 (fun (x:List Nat×List Nat×AV×AV) (t:Int×Ab)=>AV.int .i64 t.1) (fun (x:List Nat×List Nat×AV×AV) (t:Int×Ab)=>bx b0_ [iW t.2.F,v0_1,v0_2,x.2.2.1,x.2.2.2]::tr i0_1 [v0_1] (t.2.Bad:List Int)::tr i0_2 [v0_2] (t.2.Replicas:List Af)::wls x.1 x.2.2.1 (t.2.Ledger:List Ai)::wla x.2.1 x.2.2.2 (t.2.Requests:List Ag)::L0)):=by
  obtain ⟨d,rfl,g⟩:=up hd
  refine Do (t60 NN d _ _ _) ?_
  unfold b60 K2
  exact q_p fr<|q_p fr<|D5 (mg:=K1 a0 a1) (fun S=>rfl) (aY (by omega) _ b0_ i0_1 i0_2 i0_3 i0_4 v0_1 v0_2 v0_3 v0_4 a0 a1) fun y1 hy1 ⟨i1,i2,v1,v2⟩=>AU (i1,i2,v1,v2) 0 rfl rfl
def K4 (a0:Ab) (a1_0:Int):Option (Ac):=(m20 a0).bind fun y1=>bif y1 != 0 then some (⟨y1,(⟨0,[],[],[],[]⟩:Ab)⟩:Ac) else (m59 a0).bind fun y2=>(K2 y2 a1_0).bind fun y3=>bif y3.1 != 0 then some (⟨y3.1,(⟨0,[],[],[],[]⟩:Ab)⟩:Ac) else (m59 y3.2).bind fun y4=>some (⟨0,y4⟩:Ac)
theorem bC {d:Nat} (hd:146≤d) (k0:Bool) (a0:Ab) (k1_0:Bool) (a1_0:Int) (k1_1:Bool):Fit (R NN d 31 [.agg (Enc.cs k0 a0),.fn 60 [.rp k1_0 (Enc.cs k1_0 a1_0),.rp k1_1 [.fn 39 []]]] []) (K4 a0 a1_0) (P1 (T:=Ac) AV.agg):=by
  obtain ⟨d,rfl,g⟩:=up hd
  refine AD (t31 NN d _ _) ?_
  unfold b31 K4
  refine AG (n:=5) rfl rfl (by decide) fun b1=>AE rfl fun b2=>A9 1 rfl rfl rfl<|A7 (aF1 (A8 (Aq (l0:=k0) (x:=a0))) fun l0_=>w20 (by omega) l0_ a0) fun y1 hy1=>q_p fr<|q_i ?_ ?_
  ·exact q_p (fun _=>CQ rfl)<|A6 0 rfl rfl rfl (by decide) rfl<|Bn (fun S hS=>hS.lda 0 rfl rfl) (Bh (α:=Ac) (β:=Int×Ab) (f:=fun x=>(x.Code,x.Cluster)) (x:=(⟨y1,(⟨0,[],[],[],[]⟩:Ab)⟩:Ac)) rfl (Ap (AO (n:=y1)) (Bh (α:=Ab) (β:=Int×(List Int)×(List Af)×(List Ai)×(List Ag)) (f:=fun x=>(x.F,x.Bad,x.Replicas,x.Ledger,x.Requests)) (x:=(⟨0,[],[],[],[]⟩:Ab)) rfl (Ap (AO (n:=0)) (Ap (AA (α:=Int) (fl:=true)) (Ap (AA (α:=Af) (fl:=true)) (Ap (AA (α:=Ai) (fl:=true)) (AA (α:=Ag) (fl:=true))))))))) rfl
  ·refine A9 1 rfl rfl rfl<|HQ (mg:=m59 a0) (aF1 (A8 (Aq (l0:=k0) (x:=a0))) fun l0_=>w59 (by omega) l0_ a0) fun y2 hy2 i1 cs1 hq_=>Ez (fun S hS=>Eu (hS.get (k:=0) rfl)) fun hcs_=>?_
   obtain ⟨v1,v2,v3,v4,rfl⟩:=hcs_
   refine HM (x:=(y2.F,y2.Bad,y2.Replicas,y2.Ledger,y2.Requests)) hq_ rfl (fun _ h=>h) fun i2 i3 i4 i5=>AE rfl fun b3=>A6 0 rfl rfl rfl (by decide) rfl<|D5 (mg:=K2 y2 a1_0) (fun S=>L6 _ _ _ _) (aZ (by omega) _ b3 i2 i3 i4 i5 v1 v2 v3 v4 y2 k1_0 a1_0 k1_1) fun y3 hy3 ⟨i6,i7,v5,v6⟩=>q_p fr<|q_i ?_ ?_
   ·exact q_p (fun _=>CQ rfl)<|A6 5 rfl rfl rfl (by decide) rfl<|Bn (fun S hS=>hS.lda 5 rfl rfl) (Bh (α:=Ac) (β:=Int×Ab) (f:=fun x=>(x.Code,x.Cluster)) (x:=(⟨y3.1,(⟨0,[],[],[],[]⟩:Ab)⟩:Ac)) rfl (Ap (AO (n:=y3.1)) (Bh (α:=Ab) (β:=Int×(List Int)×(List Af)×(List Ai)×(List Ag)) (f:=fun x=>(x.F,x.Bad,x.Replicas,x.Ledger,x.Requests)) (x:=(⟨0,[],[],[],[]⟩:Ab)) rfl (Ap (AO (n:=0)) (Ap (AA (α:=Int) (fl:=true)) (Ap (AA (α:=Af) (fl:=true)) (Ap (AA (α:=Ai) (fl:=true)) (AA (α:=Ag) (fl:=true))))))))) rfl
   ·refine A9 0 rfl rfl rfl<|FU (W:=AV.agg) (mg:=m59 y3.2) CY (aF1 (A8 (Aa (Ad rfl) (Aa (Cb 1 rfl) (Aa (Cb 2 rfl) (Aa (CN (α:=Ai) 3 rfl) (Aa (DZ (α:=Ag) 4 rfl) Ah)))))) fun l0_=>MQ (by omega) l0_ y3.2) fun y4 hy4 i8 cs2=>Ez (fun S hS=>Eu (hS.get (k:=0) rfl)) fun hcs_=>?_
    obtain ⟨v7,v8,v9,v10,rfl⟩:=hcs_
    exact q_p (fun _=>FB rfl)<|A6 6 rfl rfl rfl (by decide) rfl<|Bn (fun S hS=>hS.lda 6 rfl rfl) (Bh (α:=Ac) (β:=Int×Ab) (f:=fun x=>(x.Code,x.Cluster)) (x:=(⟨0,y4⟩:Ac)) rfl (Ap (AO (n:=0)) (Dp 0 rfl))) rfl
def K3 (a0:Ab) (a1:Int):Option (Ac):=(K4 a0 a1).bind fun y1=>some y1
theorem bB {d:Nat} (hd:292≤d) (k0:Bool) (a0:Ab) (a1:Int):Fit (R NN d 34 [.agg (Enc.cs k0 a0),iW a1,.fn 39 []] []) (K3 a0 a1) (P1 (T:=Ac) AV.agg):=by
  obtain ⟨d,rfl,g⟩:=up hd
  refine AD (t34 NN d _ _ _) ?_
  unfold b34 K3
  refine AG (n:=5) rfl rfl (by decide) fun b1=>AG (n:=1) rfl rfl (by decide) fun b2=>AG (n:=1) rfl rfl (by decide) fun b3=>AE rfl fun b4=>A9 3 rfl rfl rfl<|FU (W:=AV.agg) (mg:=K4 a0 a1) CY (aF2 (A8 (Aq (l0:=k0) (x:=a0))) (BC (Aa (B9 2 rfl (Aq (l0:=false) (x:=a1))) (Aa (B9 1 rfl (Aa (BC Ah) Ah)) Ah))) fun l0_ l1_=>bC (by omega) l0_ a0 l1_ a1 l1_) fun y1 hy1 i1 cs1=>Ez (fun S hS=>J8 (hS.get (k:=0) rfl)) fun hcs_=>?_
  obtain ⟨v1,v2,v3,v4,rfl⟩:=hcs_
  exact A6 1 rfl rfl rfl (by decide) rfl<|Bn (fun S hS=>hS.lda 1 rfl rfl) (Dp 0 rfl) rfl
theorem XL {d:Nat} (hd:292≤d) (k0:Bool) (a0:Ab) (a1:Int):Fit (R NN d 34 [.agg (Enc.cs k0 a0),iW a1,.fn 39 []] []) (K3 a0 a1) (P0 (fun (t:Ac)=>AV.agg (Enc.cs false t))):=EV (bB hd k0 a0 a1)
def m16 (a0:Ab) (a1:Int):Option (Ac):=(K3 a0 a1).bind fun y1=>some y1
theorem w16 {d:Nat} (hd:436≤d) (k0:Bool) (a0:Ab) (a1:Int):Fit (R NN d 16 [.agg (Enc.cs k0 a0),iW a1] []) (m16 a0 a1) (P0 (fun (t:Ac)=>AV.agg (Enc.cs false t))):=by
  obtain ⟨d,rfl,g⟩:=up hd
  refine AD (t16 NN d _ _) ?_
  unfold b16 m16
  exact AG (n:=5) rfl rfl (by decide) fun b1=>AE rfl fun b2=>A9 1 rfl rfl rfl<|A7 (aF3 (A8 (Aq (l0:=k0) (x:=a0))) (Ad rfl) (BC Ah) fun l0_ l1_ l2_=>XL (by omega) l0_ a0 a1) fun y1 hy1=>A6 0 rfl rfl rfl (by decide) rfl<|AI (fun S hS=>hS.lda 0 rfl rfl) (A8 (Aq (l0:=false) (x:=y1))) rfl
def m74 (a0:Ab) (a1:Int) (a2:Int):Option (Int×Ab):=( (Av a0.Replicas a1).bind fun x1=>(Av a0.Replicas a1).bind fun x2=>(Av a0.Replicas a1).bind fun x3=>bif x3.Start != (-1) then some (LO.ret 8) else (m75 a0.F a0.Ledger a2).bind fun y1=>bif !y1 then some (LO.ret 10) else (Av a0.Ledger a2).bind fun x4=>(Av a0.Replicas a1).bind fun x5=>(Av a0.Replicas a1).bind fun x6=>(Av a0.Replicas a1).bind fun x7=>bif x4.View != x7.View then some (LO.ret 10) else some (LO.norm 0)).bind (Ak (fun s2=>(Av a0.Replicas a1).bind fun x8=>(Av a0.Replicas a1).bind fun x9=>(Av a0.Replicas a1).bind fun x10=>Lu (a0.Replicas.set (Int.toNat a1) ({ x10 with Start:=a2 })) fun z1=>some (0,(⟨a0.F,a0.Bad,z1,a0.Ledger,a0.Requests⟩:Ab))) (fun i1 s2=>none) (fun s2=>some (s2,a0)))
theorem w74 {d:Nat} (hd:142≤d) (L0:List En) (b0_:Nat) (i0_1 i0_2 i0_3 i0_4:List Nat) (v0_1 v0_2 v0_3 v0_4:AV) (a0:Ab) (a1:Int) (k2:Bool) (a2:Int):Okh (bx b0_ [iW a0.F,v0_1,v0_2,v0_3,v0_4]::tr i0_1 [v0_1] (a0.Bad:List Int)::tr i0_2 [v0_2] (a0.Replicas:List Af)::wls i0_3 v0_3 (a0.Ledger:List Ai)::wla i0_4 v0_4 (a0.Requests:List Ag)::L0) (fun S=>R NN d 74 [.bp b0_ 0 0 5 1,elP 4 v0_2 (Int.toNat a1),.rp k2 (Enc.cs k2 a2)] S) (m74 a0 a1 a2) (P5 (fun (x:List Nat×List Nat×AV×AV) (t:Int×Ab)=>AV.int .i64 t.1) (fun (x:List Nat×List Nat×AV×AV) (t:Int×Ab)=>bx b0_ [iW t.2.F,v0_1,v0_2,x.2.2.1,x.2.2.2]::tr i0_1 [v0_1] (t.2.Bad:List Int)::tr i0_2 [v0_2] (t.2.Replicas:List Af)::wls x.1 x.2.2.1 (t.2.Ledger:List Ai)::wla x.2.1 x.2.2.2 (t.2.Requests:List Ag)::L0)):=by
  obtain ⟨d,rfl,g⟩:=up hd
  refine Do (t74 NN d _ _ _) ?_
  unfold b74 m74
  refine Bo (A:=fun (s:Int)=>[iW s]) (B:=fun s=>bx b0_ [iW a0.F,v0_1,v0_2,v0_3,v0_4]::tr i0_1 [v0_1] (a0.Bad:List Int)::tr i0_2 [v0_2] (a0.Replicas:List Af)::wls i0_3 v0_3 (a0.Ledger:List Ai)::wla i0_4 v0_4 (a0.Requests:List Ag)::L0) ?_ ?_ ?_ ?_
  ·refine Cc fun x1 hx1=>EF 2 rfl hx1<|Cc fun x2 hx2=>EJ 2 rfl hx2 (by decide)<|Cc fun x3 hx3=>Ja 2 rfl rfl hx3 PC<|q_p fr<|q_i ?_ ?_
   ·exact Ar 0 rr
   ·refine q_q fr<|q_p fr<|Ao 0 rfl rfl<|q_q fr<|q_p fr<|Ao 0 rfl rfl<|q_p fr<|A7 (aF3 (Ad rfl) (CN (α:=Ai) 3 rfl) (Ad rfl) fun l0_ l1_ l2_=>w75 (by omega) a0.F l1_ a0.Ledger a2) fun y1 hy1=>q_p fr<|q_j ?_ ?_
    ·first | refine BW ?_ | skip
     exact Ar 0 rr
    ·exact q_q fr<|q_p fr<|Ao 0 rfl rfl<|q_p fr<|ZQ 3 rfl rfl fun x4 hx4=>jN 3 rfl rfl hx4 (by decide)<|jL 3 rfl rfl hx4 (by decide) rfl<|Cc fun x5 hx5=>EF 2 rfl hx5<|Cc fun x6 hx6=>EJ 2 rfl hx6 (by decide)<|Cc fun x7 hx7=>Ja 2 rfl rfl hx7 LM<|q_p fr<|q_i (Ar 0 rr)<|Ae 0 rr
  ·exact fun s2=>q_p fr<|Cc fun x8 hx8=>EF 2 rfl hx8<|Cc fun x9 hx9=>EJ 2 rfl hx9 (by decide)<|Cc fun x10 hx10=>IY 2 rfl rfl hx10 rfl (Hi a2) fun z1 hz1=>AU (i0_3,i0_4,v0_3,v0_4) 0 rfl rfl
  ·exact fun i1 s2=>A4
  ·exact fun s2=>AU (i0_3,i0_4,v0_3,v0_4) 0 rfl rfl
def m40 (a0:Int):Int:=a0
theorem w40 {d:Nat} (hd:143≤d) (a0:Int):Fit (R NN d 40 [iW a0] []) (some (m40 a0)) (P0 (fun (t:Int)=>AV.fn 74 [.rp false (Enc.cs false t)])):=by
  obtain ⟨d,rfl,g⟩:=up hd
  refine AD (t40 NN d _) ?_
  unfold b40 m40
  exact AG (n:=1) rfl rfl (by decide) fun b1=>Am (BC (Aa (KZ 0 rfl rfl) Ah)) rfl
def Kx (a0:Ab) (a1:Int) (a2_0:Int):Option (Int×Ab):=(Gg a0 a1).bind fun y1=>FZ y1 ( some (4,a0)) fun r1=>(Av a0.Replicas r1).bind fun x2=>(m74 a0 r1 a2_0).bind fun y2=>some (y2.1,y2.2)
theorem aU {d:Nat} (hd:143≤d) (L0:List En) (b0_:Nat) (i0_1 i0_2 i0_3 i0_4:List Nat) (v0_1 v0_2 v0_3 v0_4:AV) (a0:Ab) (a1:Int) (k2_0:Bool) (a2_0:Int):Okh (bx b0_ [iW a0.F,v0_1,v0_2,v0_3,v0_4]::tr i0_1 [v0_1] (a0.Bad:List Int)::tr i0_2 [v0_2] (a0.Replicas:List Af)::wls i0_3 v0_3 (a0.Ledger:List Ai)::wla i0_4 v0_4 (a0.Requests:List Ag)::L0) (fun S=>R NN d 61 [.bp b0_ 0 0 5 1,iW a1,.fn 74 [.rp k2_0 (Enc.cs k2_0 a2_0)]] S) (Kx a0 a1 a2_0) (P5 (fun (x:List Nat×List Nat×AV×AV) (t:Int×Ab)=>AV.int .i64 t.1) (fun (x:List Nat×List Nat×AV×AV) (t:Int×Ab)=>bx b0_ [iW t.2.F,v0_1,v0_2,x.2.2.1,x.2.2.2]::tr i0_1 [v0_1] (t.2.Bad:List Int)::tr i0_2 [v0_2] (t.2.Replicas:List Af)::wls x.1 x.2.2.1 (t.2.Ledger:List Ai)::wla x.2.1 x.2.2.2 (t.2.Requests:List Ag)::L0)):=by
  obtain ⟨d,rfl,g⟩:=up hd
  refine Do (t61 NN d _ _ _) ?_
  unfold b61 Kx
  refine HN (mg:=Gg a0 a1) (v0:=fun _=>AV.nilp) (v1:=fun x r=>elP 4 v0_2 (Int.toNat r)) (fun _=>rfl) (fun _ _=>rfl) (Ph (by omega) _ b0_ i0_1 i0_2 i0_3 i0_4 v0_1 v0_2 v0_3 v0_4 a0 a1) (fun x1=>?_) (fun r1 x1 hy1=>?_)
  ·refine q_p (fun _=>Fj) ?_
   first | refine BW ?_ | skip
   exact AU (i0_3,i0_4,v0_3,v0_4) 0 rfl rfl
  ·refine Cc fun x2 hx2=>PL (f:=fun a=>D1 Tryz.prog .eql 68 a .nilp) 2 rfl hx2 (fun _ _ _ _ _=>FY _ _ _ _ _) ?_
   first | refine CZ ?_ | skip
   exact D5 (mg:=m74 a0 r1 a2_0) (fun S=>Qn _ _ _ _) (w74 (by omega) _ b0_ i0_1 i0_2 i0_3 i0_4 v0_1 v0_2 v0_3 v0_4 a0 r1 k2_0 a2_0) fun y2 hy2 ⟨i1,i2,v1,v2⟩=>AU (i1,i2,v1,v2) 0 rfl rfl
def Ky (a0:Ab) (a1:Int) (a2_0:Int):Option (Int×Ab):=(Kx a0 a1 a2_0).bind fun y1=>some (y1.1,y1.2)
theorem aV {d:Nat} (hd:144≤d) (L0:List En) (b0_:Nat) (i0_1 i0_2 i0_3 i0_4:List Nat) (v0_1 v0_2 v0_3 v0_4:AV) (a0:Ab) (k1:Bool) (a1:Int) (k2:Bool) (k2_0:Bool) (a2_0:Int):Okh (bx b0_ [iW a0.F,v0_1,v0_2,v0_3,v0_4]::tr i0_1 [v0_1] (a0.Bad:List Int)::tr i0_2 [v0_2] (a0.Replicas:List Af)::wls i0_3 v0_3 (a0.Ledger:List Ai)::wla i0_4 v0_4 (a0.Requests:List Ag)::L0) (fun S=>R NN d 60 [.bp b0_ 0 0 5 1,.rp k1 (Enc.cs k1 a1),.rp k2 [.fn 74 [.rp k2_0 (Enc.cs k2_0 a2_0)]]] S) (Ky a0 a1 a2_0) (P5 (fun (x:List Nat×List Nat×AV×AV) (t:Int×Ab)=>AV.int .i64 t.1) (fun (x:List Nat×List Nat×AV×AV) (t:Int×Ab)=>bx b0_ [iW t.2.F,v0_1,v0_2,x.2.2.1,x.2.2.2]::tr i0_1 [v0_1] (t.2.Bad:List Int)::tr i0_2 [v0_2] (t.2.Replicas:List Af)::wls x.1 x.2.2.1 (t.2.Ledger:List Ai)::wla x.2.1 x.2.2.2 (t.2.Requests:List Ag)::L0)):=by
  obtain ⟨d,rfl,g⟩:=up hd
  refine Do (t60 NN d _ _ _) ?_
  unfold b60 Ky
  exact q_p fr<|q_p fr<|D5 (mg:=Kx a0 a1 a2_0) (fun S=>rfl) (aU (by omega) _ b0_ i0_1 i0_2 i0_3 i0_4 v0_1 v0_2 v0_3 v0_4 a0 a1 k2_0 a2_0) fun y1 hy1 ⟨i1,i2,v1,v2⟩=>AU (i1,i2,v1,v2) 0 rfl rfl
def K0 (a0:Ab) (a1_0:Int) (a1_1_0:Int):Option (Ac):=(m20 a0).bind fun y1=>bif y1 != 0 then some (⟨y1,(⟨0,[],[],[],[]⟩:Ab)⟩:Ac) else (m59 a0).bind fun y2=>(Ky y2 a1_0 a1_1_0).bind fun y3=>bif y3.1 != 0 then some (⟨y3.1,(⟨0,[],[],[],[]⟩:Ab)⟩:Ac) else (m59 y3.2).bind fun y4=>some (⟨0,y4⟩:Ac)
theorem aX {d:Nat} (hd:145≤d) (k0:Bool) (a0:Ab) (k1_0:Bool) (a1_0:Int) (k1_1:Bool) (k1_1_0:Bool) (a1_1_0:Int):Fit (R NN d 31 [.agg (Enc.cs k0 a0),.fn 60 [.rp k1_0 (Enc.cs k1_0 a1_0),.rp k1_1 [.fn 74 [.rp k1_1_0 (Enc.cs k1_1_0 a1_1_0)]]]] []) (K0 a0 a1_0 a1_1_0) (P1 (T:=Ac) AV.agg):=by
  obtain ⟨d,rfl,g⟩:=up hd
  refine AD (t31 NN d _ _) ?_
  unfold b31 K0
  refine AG (n:=5) rfl rfl (by decide) fun b1=>AE rfl fun b2=>A9 1 rfl rfl rfl<|A7 (aF1 (A8 (Aq (l0:=k0) (x:=a0))) fun l0_=>w20 (by omega) l0_ a0) fun y1 hy1=>q_p fr<|q_i ?_ ?_
  ·exact q_p (fun _=>CQ rfl)<|A6 0 rfl rfl rfl (by decide) rfl<|Bn (fun S hS=>hS.lda 0 rfl rfl) (Bh (α:=Ac) (β:=Int×Ab) (f:=fun x=>(x.Code,x.Cluster)) (x:=(⟨y1,(⟨0,[],[],[],[]⟩:Ab)⟩:Ac)) rfl (Ap (AO (n:=y1)) (Bh (α:=Ab) (β:=Int×(List Int)×(List Af)×(List Ai)×(List Ag)) (f:=fun x=>(x.F,x.Bad,x.Replicas,x.Ledger,x.Requests)) (x:=(⟨0,[],[],[],[]⟩:Ab)) rfl (Ap (AO (n:=0)) (Ap (AA (α:=Int) (fl:=true)) (Ap (AA (α:=Af) (fl:=true)) (Ap (AA (α:=Ai) (fl:=true)) (AA (α:=Ag) (fl:=true))))))))) rfl
  ·refine A9 1 rfl rfl rfl<|HQ (mg:=m59 a0) (aF1 (A8 (Aq (l0:=k0) (x:=a0))) fun l0_=>w59 (by omega) l0_ a0) fun y2 hy2 i1 cs1 hq_=>Ez (fun S hS=>Eu (hS.get (k:=0) rfl)) fun hcs_=>?_
   obtain ⟨v1,v2,v3,v4,rfl⟩:=hcs_
   refine HM (x:=(y2.F,y2.Bad,y2.Replicas,y2.Ledger,y2.Requests)) hq_ rfl (fun _ h=>h) fun i2 i3 i4 i5=>AE rfl fun b3=>A6 0 rfl rfl rfl (by decide) rfl<|D5 (mg:=Ky y2 a1_0 a1_1_0) (fun S=>L1 _ _ _ _) (aV (by omega) _ b3 i2 i3 i4 i5 v1 v2 v3 v4 y2 k1_0 a1_0 k1_1 k1_1_0 a1_1_0) fun y3 hy3 ⟨i6,i7,v5,v6⟩=>q_p fr<|q_i ?_ ?_
   ·exact q_p (fun _=>CQ rfl)<|A6 5 rfl rfl rfl (by decide) rfl<|Bn (fun S hS=>hS.lda 5 rfl rfl) (Bh (α:=Ac) (β:=Int×Ab) (f:=fun x=>(x.Code,x.Cluster)) (x:=(⟨y3.1,(⟨0,[],[],[],[]⟩:Ab)⟩:Ac)) rfl (Ap (AO (n:=y3.1)) (Bh (α:=Ab) (β:=Int×(List Int)×(List Af)×(List Ai)×(List Ag)) (f:=fun x=>(x.F,x.Bad,x.Replicas,x.Ledger,x.Requests)) (x:=(⟨0,[],[],[],[]⟩:Ab)) rfl (Ap (AO (n:=0)) (Ap (AA (α:=Int) (fl:=true)) (Ap (AA (α:=Af) (fl:=true)) (Ap (AA (α:=Ai) (fl:=true)) (AA (α:=Ag) (fl:=true))))))))) rfl
   ·refine A9 0 rfl rfl rfl<|FU (W:=AV.agg) (mg:=m59 y3.2) CY (aF1 (A8 (Aa (Ad rfl) (Aa (Cb 1 rfl) (Aa (Cb 2 rfl) (Aa (CN (α:=Ai) 3 rfl) (Aa (DZ (α:=Ag) 4 rfl) Ah)))))) fun l0_=>MQ (by omega) l0_ y3.2) fun y4 hy4 i8 cs2=>Ez (fun S hS=>Eu (hS.get (k:=0) rfl)) fun hcs_=>?_
    obtain ⟨v7,v8,v9,v10,rfl⟩:=hcs_
    exact q_p (fun _=>FB rfl)<|A6 6 rfl rfl rfl (by decide) rfl<|Bn (fun S hS=>hS.lda 6 rfl rfl) (Bh (α:=Ac) (β:=Int×Ab) (f:=fun x=>(x.Code,x.Cluster)) (x:=(⟨0,y4⟩:Ac)) rfl (Ap (AO (n:=0)) (Dp 0 rfl))) rfl
def Kz (a0:Ab) (a1:Int) (a2_0:Int):Option (Ac):=(K0 a0 a1 a2_0).bind fun y1=>some y1
theorem aW {d:Nat} (hd:290≤d) (k0:Bool) (a0:Ab) (a1:Int) (k2_0:Bool) (a2_0:Int):Fit (R NN d 34 [.agg (Enc.cs k0 a0),iW a1,.fn 74 [.rp k2_0 (Enc.cs k2_0 a2_0)]] []) (Kz a0 a1 a2_0) (P1 (T:=Ac) AV.agg):=by
  obtain ⟨d,rfl,g⟩:=up hd
  refine AD (t34 NN d _ _ _) ?_
  unfold b34 Kz
  refine AG (n:=5) rfl rfl (by decide) fun b1=>AG (n:=1) rfl rfl (by decide) fun b2=>AG (n:=1) rfl rfl (by decide) fun b3=>AE rfl fun b4=>A9 3 rfl rfl rfl<|FU (W:=AV.agg) (mg:=K0 a0 a1 a2_0) CY (aF2 (A8 (Aq (l0:=k0) (x:=a0))) (BC (Aa (B9 2 rfl (Aq (l0:=false) (x:=a1))) (Aa (B9 1 rfl (Aa (BC (Aa (AZ (Aq (l0:=k2_0) (x:=a2_0)) (fun _ _ _ h=>Enc.frz k2_0 a2_0 _ _ _ h)) Ah)) Ah)) Ah))) fun l0_ l1_=>aX (by omega) l0_ a0 l1_ a1 l1_ l1_ a2_0) fun y1 hy1 i1 cs1=>Ez (fun S hS=>J8 (hS.get (k:=0) rfl)) fun hcs_=>?_
  obtain ⟨v1,v2,v3,v4,rfl⟩:=hcs_
  exact A6 1 rfl rfl rfl (by decide) rfl<|Bn (fun S hS=>hS.lda 1 rfl rfl) (Dp 0 rfl) rfl
theorem XK {d:Nat} (hd:290≤d) (k0:Bool) (a0:Ab) (a1:Int) (k2_0:Bool) (a2_0:Int):Fit (R NN d 34 [.agg (Enc.cs k0 a0),iW a1,.fn 74 [.rp k2_0 (Enc.cs k2_0 a2_0)]] []) (Kz a0 a1 a2_0) (P0 (fun (t:Ac)=>AV.agg (Enc.cs false t))):=EV (aW hd k0 a0 a1 k2_0 a2_0)
def m17 (a0:Ab) (a1:Int) (a2:Int):Option (Ac):=(Kz a0 a1 (m40 a2)).bind fun y1=>some y1
theorem w17 {d:Nat} (hd:434≤d) (k0:Bool) (a0:Ab) (a1:Int) (a2:Int):Fit (R NN d 17 [.agg (Enc.cs k0 a0),iW a1,iW a2] []) (m17 a0 a1 a2) (P0 (fun (t:Ac)=>AV.agg (Enc.cs false t))):=by
  obtain ⟨d,rfl,g⟩:=up hd
  refine AD (t17 NN d _ _ _) ?_
  unfold b17 m17
  exact AG (n:=5) rfl rfl (by decide) fun b1=>AE rfl fun b2=>A9 1 rfl rfl rfl<|AS (aF1 (Ad rfl) fun l0_=>w40 (by omega) a2)<|A7 (aF3 (A8 (Aq (l0:=k0) (x:=a0))) (Ad rfl) (BC (Aa (AZ (Aq (l0:=false) (x:=(m40 a2))) (fun _ _ _ h=>Enc.frz false (m40 a2) _ _ _ h)) Ah)) fun l0_ l1_ l2_=>XK (by omega) l0_ a0 a1 l2_ (m40 a2)) fun y1 hy1=>A6 0 rfl rfl rfl (by decide) rfl<|AI (fun S hS=>hS.lda 0 rfl rfl) (A8 (Aq (l0:=false) (x:=y1))) rfl
def m41 (a0:Ab) (a1:Int):Option (Int×Ab):=(m47 a0.F a0.Ledger).bind fun y1=>(Av a0.Replicas a1).bind fun x1=>(Av a0.Replicas a1).bind fun x2=>(Av a0.Replicas a1).bind fun x3=>bif decide ((y1.length:Int)≤x3.Done) then some (8,a0) else (Av a0.Replicas a1).bind fun x4=>(Av a0.Replicas a1).bind fun x5=>(Av a0.Replicas a1).bind fun x6=>(Av y1 x6.Done).bind fun x7=>bif !(m52 a0 x7) then some (4,a0) else (Av a0.Replicas a1).bind fun x8=>(Av a0.Replicas a1).bind fun x9=>(Av a0.Replicas a1).bind fun x10=>(Av a0.Replicas a1).bind fun x11=>(Av a0.Replicas a1).bind fun x12=>(Av a0.Replicas a1).bind fun x13=>Lu (a0.Replicas.set (Int.toNat a1) ({ x13 with Done:=wi .i64 (x10.Done + 1) })) fun z1=>some (0,(⟨a0.F,a0.Bad,z1,a0.Ledger,a0.Requests⟩:Ab))
theorem w41 {d:Nat} (hd:138≤d) (L0:List En) (b0_:Nat) (i0_1 i0_2 i0_3 i0_4:List Nat) (v0_1 v0_2 v0_3 v0_4:AV) (a0:Ab) (a1:Int):Okh (bx b0_ [iW a0.F,v0_1,v0_2,v0_3,v0_4]::tr i0_1 [v0_1] (a0.Bad:List Int)::tr i0_2 [v0_2] (a0.Replicas:List Af)::wls i0_3 v0_3 (a0.Ledger:List Ai)::wla i0_4 v0_4 (a0.Requests:List Ag)::L0) (fun S=>R NN d 41 [.bp b0_ 0 0 5 1,elP 4 v0_2 (Int.toNat a1)] S) (m41 a0 a1) (P5 (fun (x:List Nat×List Nat×AV×AV) (t:Int×Ab)=>AV.int .i64 t.1) (fun (x:List Nat×List Nat×AV×AV) (t:Int×Ab)=>bx b0_ [iW t.2.F,v0_1,v0_2,x.2.2.1,x.2.2.2]::tr i0_1 [v0_1] (t.2.Bad:List Int)::tr i0_2 [v0_2] (t.2.Replicas:List Af)::wls x.1 x.2.2.1 (t.2.Ledger:List Ai)::wla x.2.1 x.2.2.2 (t.2.Requests:List Ag)::L0)):=by
  obtain ⟨d,rfl,g⟩:=up hd
  refine Do (t41 NN d _ _) ?_
  unfold b41 m41
  exact q_q fr<|q_p fr<|Ao 0 rfl rfl<|q_q fr<|q_p fr<|Ao 0 rfl rfl<|A7 (aF2 (Ad rfl) (CN (α:=Ai) 3 rfl) fun l0_ l1_=>w47 (by omega) a0.F l1_ a0.Ledger) fun y1 hy1=>AL<|Cc fun x1 hx1=>EF 2 rfl hx1<|Cc fun x2 hx2=>EJ 2 rfl hx2 (by decide)<|Cc fun x3 hx3=>Ja 2 rfl rfl hx3 I5<|q_p fr<|q_i (AU (i0_3,i0_4,v0_3,v0_4) 0 rfl rfl)<|Cc fun x4 hx4=>EF 2 rfl hx4<|Cc fun x5 hx5=>EJ 2 rfl hx5 (by decide)<|Cc fun x6 hx6=>Ja 2 rfl rfl hx6 I5<|Bf rfl fun x7 hx7=>q_p fr<|AS (aF2 (B9 0 rfl (Aa (Ad rfl) (Aa (Cb 1 rfl) (Aa (Cb 2 rfl) (Aa (CN (α:=Ai) 3 rfl) (Aa (DZ (α:=Ag) 4 rfl) Ah)))))) (Ad rfl) fun l0_ l1_=>w52 (by omega) l0_ a0 x7)<|q_p fr<|q_i (AU (i0_3,i0_4,v0_3,v0_4) 0 rfl rfl)<|Cc fun x8 hx8=>EF 2 rfl hx8<|Cc fun x9 hx9=>EJ 2 rfl hx9 (by decide)<|Cc fun x10 hx10=>Ja 2 rfl rfl hx10 I5<|q_p fr<|Cc fun x11 hx11=>EF 2 rfl hx11<|Cc fun x12 hx12=>EJ 2 rfl hx12 (by decide)<|Cc fun x13 hx13=>IY 2 rfl rfl hx13 rfl (SE (wi .i64 (x10.Done + 1))) fun z1 hz1=>AU (i0_3,i0_4,v0_3,v0_4) 0 rfl rfl
def Kt (a0:Ab) (a1:Int):Option (Int×Ab):=(Gg a0 a1).bind fun y1=>FZ y1 ( some (4,a0)) fun r1=>(Av a0.Replicas r1).bind fun x2=>(m41 a0 r1).bind fun y2=>some (y2.1,y2.2)
theorem aQ {d:Nat} (hd:139≤d) (L0:List En) (b0_:Nat) (i0_1 i0_2 i0_3 i0_4:List Nat) (v0_1 v0_2 v0_3 v0_4:AV) (a0:Ab) (a1:Int):Okh (bx b0_ [iW a0.F,v0_1,v0_2,v0_3,v0_4]::tr i0_1 [v0_1] (a0.Bad:List Int)::tr i0_2 [v0_2] (a0.Replicas:List Af)::wls i0_3 v0_3 (a0.Ledger:List Ai)::wla i0_4 v0_4 (a0.Requests:List Ag)::L0) (fun S=>R NN d 61 [.bp b0_ 0 0 5 1,iW a1,.fn 41 []] S) (Kt a0 a1) (P5 (fun (x:List Nat×List Nat×AV×AV) (t:Int×Ab)=>AV.int .i64 t.1) (fun (x:List Nat×List Nat×AV×AV) (t:Int×Ab)=>bx b0_ [iW t.2.F,v0_1,v0_2,x.2.2.1,x.2.2.2]::tr i0_1 [v0_1] (t.2.Bad:List Int)::tr i0_2 [v0_2] (t.2.Replicas:List Af)::wls x.1 x.2.2.1 (t.2.Ledger:List Ai)::wla x.2.1 x.2.2.2 (t.2.Requests:List Ag)::L0)):=by
  obtain ⟨d,rfl,g⟩:=up hd
  refine Do (t61 NN d _ _ _) ?_
  unfold b61 Kt
  refine HN (mg:=Gg a0 a1) (v0:=fun _=>AV.nilp) (v1:=fun x r=>elP 4 v0_2 (Int.toNat r)) (fun _=>rfl) (fun _ _=>rfl) (Ph (by omega) _ b0_ i0_1 i0_2 i0_3 i0_4 v0_1 v0_2 v0_3 v0_4 a0 a1) (fun x1=>?_) (fun r1 x1 hy1=>?_)
  ·refine q_p (fun _=>Fj) ?_
   first | refine BW ?_ | skip
   exact AU (i0_3,i0_4,v0_3,v0_4) 0 rfl rfl
  ·refine Cc fun x2 hx2=>PL (f:=fun a=>D1 Tryz.prog .eql 68 a .nilp) 2 rfl hx2 (fun _ _ _ _ _=>FY _ _ _ _ _) ?_
   first | refine CZ ?_ | skip
   exact D5 (mg:=m41 a0 r1) (fun S=>Qm _ _ _ _) (w41 (by omega) _ b0_ i0_1 i0_2 i0_3 i0_4 v0_1 v0_2 v0_3 v0_4 a0 r1) fun y2 hy2 ⟨i1,i2,v1,v2⟩=>AU (i1,i2,v1,v2) 0 rfl rfl
def Ku (a0:Ab) (a1:Int):Option (Int×Ab):=(Kt a0 a1).bind fun y1=>some (y1.1,y1.2)
theorem aR {d:Nat} (hd:140≤d) (L0:List En) (b0_:Nat) (i0_1 i0_2 i0_3 i0_4:List Nat) (v0_1 v0_2 v0_3 v0_4:AV) (a0:Ab) (k1:Bool) (a1:Int) (k2:Bool):Okh (bx b0_ [iW a0.F,v0_1,v0_2,v0_3,v0_4]::tr i0_1 [v0_1] (a0.Bad:List Int)::tr i0_2 [v0_2] (a0.Replicas:List Af)::wls i0_3 v0_3 (a0.Ledger:List Ai)::wla i0_4 v0_4 (a0.Requests:List Ag)::L0) (fun S=>R NN d 60 [.bp b0_ 0 0 5 1,.rp k1 (Enc.cs k1 a1),.rp k2 [.fn 41 []]] S) (Ku a0 a1) (P5 (fun (x:List Nat×List Nat×AV×AV) (t:Int×Ab)=>AV.int .i64 t.1) (fun (x:List Nat×List Nat×AV×AV) (t:Int×Ab)=>bx b0_ [iW t.2.F,v0_1,v0_2,x.2.2.1,x.2.2.2]::tr i0_1 [v0_1] (t.2.Bad:List Int)::tr i0_2 [v0_2] (t.2.Replicas:List Af)::wls x.1 x.2.2.1 (t.2.Ledger:List Ai)::wla x.2.1 x.2.2.2 (t.2.Requests:List Ag)::L0)):=by
  obtain ⟨d,rfl,g⟩:=up hd
  refine Do (t60 NN d _ _ _) ?_
  unfold b60 Ku
  exact q_p fr<|q_p fr<|D5 (mg:=Kt a0 a1) (fun S=>rfl) (aQ (by omega) _ b0_ i0_1 i0_2 i0_3 i0_4 v0_1 v0_2 v0_3 v0_4 a0 a1) fun y1 hy1 ⟨i1,i2,v1,v2⟩=>AU (i1,i2,v1,v2) 0 rfl rfl
def Kw (a0:Ab) (a1_0:Int):Option (Ac):=(m20 a0).bind fun y1=>bif y1 != 0 then some (⟨y1,(⟨0,[],[],[],[]⟩:Ab)⟩:Ac) else (m59 a0).bind fun y2=>(Ku y2 a1_0).bind fun y3=>bif y3.1 != 0 then some (⟨y3.1,(⟨0,[],[],[],[]⟩:Ab)⟩:Ac) else (m59 y3.2).bind fun y4=>some (⟨0,y4⟩:Ac)
theorem aT {d:Nat} (hd:144≤d) (k0:Bool) (a0:Ab) (k1_0:Bool) (a1_0:Int) (k1_1:Bool):Fit (R NN d 31 [.agg (Enc.cs k0 a0),.fn 60 [.rp k1_0 (Enc.cs k1_0 a1_0),.rp k1_1 [.fn 41 []]]] []) (Kw a0 a1_0) (P1 (T:=Ac) AV.agg):=by
  obtain ⟨d,rfl,g⟩:=up hd
  refine AD (t31 NN d _ _) ?_
  unfold b31 Kw
  refine AG (n:=5) rfl rfl (by decide) fun b1=>AE rfl fun b2=>A9 1 rfl rfl rfl<|A7 (aF1 (A8 (Aq (l0:=k0) (x:=a0))) fun l0_=>w20 (by omega) l0_ a0) fun y1 hy1=>q_p fr<|q_i ?_ ?_
  ·exact q_p (fun _=>CQ rfl)<|A6 0 rfl rfl rfl (by decide) rfl<|Bn (fun S hS=>hS.lda 0 rfl rfl) (Bh (α:=Ac) (β:=Int×Ab) (f:=fun x=>(x.Code,x.Cluster)) (x:=(⟨y1,(⟨0,[],[],[],[]⟩:Ab)⟩:Ac)) rfl (Ap (AO (n:=y1)) (Bh (α:=Ab) (β:=Int×(List Int)×(List Af)×(List Ai)×(List Ag)) (f:=fun x=>(x.F,x.Bad,x.Replicas,x.Ledger,x.Requests)) (x:=(⟨0,[],[],[],[]⟩:Ab)) rfl (Ap (AO (n:=0)) (Ap (AA (α:=Int) (fl:=true)) (Ap (AA (α:=Af) (fl:=true)) (Ap (AA (α:=Ai) (fl:=true)) (AA (α:=Ag) (fl:=true))))))))) rfl
  ·refine A9 1 rfl rfl rfl<|HQ (mg:=m59 a0) (aF1 (A8 (Aq (l0:=k0) (x:=a0))) fun l0_=>w59 (by omega) l0_ a0) fun y2 hy2 i1 cs1 hq_=>Ez (fun S hS=>Eu (hS.get (k:=0) rfl)) fun hcs_=>?_
   obtain ⟨v1,v2,v3,v4,rfl⟩:=hcs_
   refine HM (x:=(y2.F,y2.Bad,y2.Replicas,y2.Ledger,y2.Requests)) hq_ rfl (fun _ h=>h) fun i2 i3 i4 i5=>AE rfl fun b3=>A6 0 rfl rfl rfl (by decide) rfl<|D5 (mg:=Ku y2 a1_0) (fun S=>Ly _ _ _ _) (aR (by omega) _ b3 i2 i3 i4 i5 v1 v2 v3 v4 y2 k1_0 a1_0 k1_1) fun y3 hy3 ⟨i6,i7,v5,v6⟩=>q_p fr<|q_i ?_ ?_
   ·exact q_p (fun _=>CQ rfl)<|A6 5 rfl rfl rfl (by decide) rfl<|Bn (fun S hS=>hS.lda 5 rfl rfl) (Bh (α:=Ac) (β:=Int×Ab) (f:=fun x=>(x.Code,x.Cluster)) (x:=(⟨y3.1,(⟨0,[],[],[],[]⟩:Ab)⟩:Ac)) rfl (Ap (AO (n:=y3.1)) (Bh (α:=Ab) (β:=Int×(List Int)×(List Af)×(List Ai)×(List Ag)) (f:=fun x=>(x.F,x.Bad,x.Replicas,x.Ledger,x.Requests)) (x:=(⟨0,[],[],[],[]⟩:Ab)) rfl (Ap (AO (n:=0)) (Ap (AA (α:=Int) (fl:=true)) (Ap (AA (α:=Af) (fl:=true)) (Ap (AA (α:=Ai) (fl:=true)) (AA (α:=Ag) (fl:=true))))))))) rfl
   ·refine A9 0 rfl rfl rfl<|FU (W:=AV.agg) (mg:=m59 y3.2) CY (aF1 (A8 (Aa (Ad rfl) (Aa (Cb 1 rfl) (Aa (Cb 2 rfl) (Aa (CN (α:=Ai) 3 rfl) (Aa (DZ (α:=Ag) 4 rfl) Ah)))))) fun l0_=>MQ (by omega) l0_ y3.2) fun y4 hy4 i8 cs2=>Ez (fun S hS=>Eu (hS.get (k:=0) rfl)) fun hcs_=>?_
    obtain ⟨v7,v8,v9,v10,rfl⟩:=hcs_
    exact q_p (fun _=>FB rfl)<|A6 6 rfl rfl rfl (by decide) rfl<|Bn (fun S hS=>hS.lda 6 rfl rfl) (Bh (α:=Ac) (β:=Int×Ab) (f:=fun x=>(x.Code,x.Cluster)) (x:=(⟨0,y4⟩:Ac)) rfl (Ap (AO (n:=0)) (Dp 0 rfl))) rfl
def Kv (a0:Ab) (a1:Int):Option (Ac):=(Kw a0 a1).bind fun y1=>some y1
theorem aS {d:Nat} (hd:285≤d) (k0:Bool) (a0:Ab) (a1:Int):Fit (R NN d 34 [.agg (Enc.cs k0 a0),iW a1,.fn 41 []] []) (Kv a0 a1) (P1 (T:=Ac) AV.agg):=by
  obtain ⟨d,rfl,g⟩:=up hd
  refine AD (t34 NN d _ _ _) ?_
  unfold b34 Kv
  refine AG (n:=5) rfl rfl (by decide) fun b1=>AG (n:=1) rfl rfl (by decide) fun b2=>AG (n:=1) rfl rfl (by decide) fun b3=>AE rfl fun b4=>A9 3 rfl rfl rfl<|FU (W:=AV.agg) (mg:=Kw a0 a1) CY (aF2 (A8 (Aq (l0:=k0) (x:=a0))) (BC (Aa (B9 2 rfl (Aq (l0:=false) (x:=a1))) (Aa (B9 1 rfl (Aa (BC Ah) Ah)) Ah))) fun l0_ l1_=>aT (by omega) l0_ a0 l1_ a1 l1_) fun y1 hy1 i1 cs1=>Ez (fun S hS=>J8 (hS.get (k:=0) rfl)) fun hcs_=>?_
  obtain ⟨v1,v2,v3,v4,rfl⟩:=hcs_
  exact A6 1 rfl rfl rfl (by decide) rfl<|Bn (fun S hS=>hS.lda 1 rfl rfl) (Dp 0 rfl) rfl
theorem XJ {d:Nat} (hd:285≤d) (k0:Bool) (a0:Ab) (a1:Int):Fit (R NN d 34 [.agg (Enc.cs k0 a0),iW a1,.fn 41 []] []) (Kv a0 a1) (P0 (fun (t:Ac)=>AV.agg (Enc.cs false t))):=EV (aS hd k0 a0 a1)
def m18 (a0:Ab) (a1:Int):Option (Ac):=(Kv a0 a1).bind fun y1=>some y1
theorem w18 {d:Nat} (hd:424≤d) (k0:Bool) (a0:Ab) (a1:Int):Fit (R NN d 18 [.agg (Enc.cs k0 a0),iW a1] []) (m18 a0 a1) (P0 (fun (t:Ac)=>AV.agg (Enc.cs false t))):=by
  obtain ⟨d,rfl,g⟩:=up hd
  refine AD (t18 NN d _ _) ?_
  unfold b18 m18
  exact AG (n:=5) rfl rfl (by decide) fun b1=>AE rfl fun b2=>A9 1 rfl rfl rfl<|A7 (aF3 (A8 (Aq (l0:=k0) (x:=a0))) (Ad rfl) (BC Ah) fun l0_ l1_ l2_=>XJ (by omega) l0_ a0 a1) fun y1 hy1=>A6 0 rfl rfl rfl (by decide) rfl<|AI (fun S hS=>hS.lda 0 rfl rfl) (A8 (Aq (l0:=false) (x:=y1))) rfl
def m43 (a0:Ab) (a1:Ai):Option (Int×Ab):=(m76 a0.F a1).bind fun y1=>bif y1 != 0 then some (y1,a0) else (m58 a0.Bad a1.From).bind fun y2=>bif !y2 then some (10,a0) else (m71 a0 a1).bind fun y3=>some (y3.1,y3.2)
theorem w43 {d:Nat} (hd:8≤d) (L0:List En) (b0_:Nat) (i0_1 i0_2 i0_3 i0_4:List Nat) (v0_1 v0_2 v0_3 v0_4:AV) (a0:Ab) (k1:Bool) (a1:Ai):Okh (bx b0_ [iW a0.F,v0_1,v0_2,v0_3,v0_4]::tr i0_1 [v0_1] (a0.Bad:List Int)::tr i0_2 [v0_2] (a0.Replicas:List Af)::wls i0_3 v0_3 (a0.Ledger:List Ai)::wla i0_4 v0_4 (a0.Requests:List Ag)::L0) (fun S=>R NN d 43 [.bp b0_ 0 0 5 1,.agg (Enc.cs k1 a1)] S) (m43 a0 a1) (P5 (fun (x:List Nat×List Nat×AV×AV) (t:Int×Ab)=>AV.int .i64 t.1) (fun (x:List Nat×List Nat×AV×AV) (t:Int×Ab)=>bx b0_ [iW t.2.F,v0_1,v0_2,x.2.2.1,x.2.2.2]::tr i0_1 [v0_1] (t.2.Bad:List Int)::tr i0_2 [v0_2] (t.2.Replicas:List Af)::wls x.1 x.2.2.1 (t.2.Ledger:List Ai)::wla x.2.1 x.2.2.2 (t.2.Requests:List Ag)::L0)):=by
  obtain ⟨d,rfl,g⟩:=up hd
  refine Do (t43 NN d _ _) ?_
  unfold b43 m43
  exact AG (n:=7) rfl rfl (by decide) fun b1=>q_q fr<|q_p fr<|Ao 1 rfl rfl<|A9 0 rfl rfl rfl<|A7 (aF2 (Ad rfl) (A8 (Aq (l0:=k1) (x:=a1))) fun l0_ l1_=>w76 (by omega) a0.F l1_ a1) fun y1 hy1=>q_p fr<|q_i (AU (i0_3,i0_4,v0_3,v0_4) 1 rfl rfl)<|q_q fr<|q_p fr<|Ao 1 rfl rfl<|q_p fr<|Ao 0 rfl rfl<|A7 (aF2 (Cb 2 rfl) (Ad rfl) fun l0_ l1_=>w58 (by omega) l0_ a0.Bad a1.From) fun y2 hy2=>q_p fr<|q_i (AU (i0_3,i0_4,v0_3,v0_4) 1 rfl rfl)<|A9 0 rfl rfl rfl<|Dt 6 [1,2,3,4,5,0] (by decide) (by decide)<|D5 (mg:=m71 a0 a1) (fun S=>rfl) (w71 (by omega) _ b0_ i0_1 i0_2 i0_3 i0_4 v0_1 v0_2 v0_3 v0_4 a0 _ _ _ _ _ _ _ a1 (Aq (l0:=k1) (x:=a1))) fun y3 hy3 ⟨i1,i2,v1,v2⟩=>Dt 6 [5,0,1,2,3,4] (by decide) (by decide)<|AU (i1,i2,v1,v2) 1 rfl rfl
def m42 (a0:Ab) (a1:Ai):Option (Int×Ab):=(m43 a0 a1).bind fun y1=>some (y1.1,y1.2)
theorem w42 {d:Nat} (hd:9≤d) (L0:List En) (b0_:Nat) (i0_1 i0_2 i0_3 i0_4:List Nat) (v0_1 v0_2 v0_3 v0_4:AV) (a0:Ab) (k1:Bool) (a1:Ai):Okh (bx b0_ [iW a0.F,v0_1,v0_2,v0_3,v0_4]::tr i0_1 [v0_1] (a0.Bad:List Int)::tr i0_2 [v0_2] (a0.Replicas:List Af)::wls i0_3 v0_3 (a0.Ledger:List Ai)::wla i0_4 v0_4 (a0.Requests:List Ag)::L0) (fun S=>R NN d 42 [.bp b0_ 0 0 5 1,.rp k1 (Enc.cs k1 a1)] S) (m42 a0 a1) (P5 (fun (x:List Nat×List Nat×AV×AV) (t:Int×Ab)=>AV.int .i64 t.1) (fun (x:List Nat×List Nat×AV×AV) (t:Int×Ab)=>bx b0_ [iW t.2.F,v0_1,v0_2,x.2.2.1,x.2.2.2]::tr i0_1 [v0_1] (t.2.Bad:List Int)::tr i0_2 [v0_2] (t.2.Replicas:List Af)::wls x.1 x.2.2.1 (t.2.Ledger:List Ai)::wla x.2.1 x.2.2.2 (t.2.Requests:List Ag)::L0)):=by
  obtain ⟨d,rfl,g⟩:=up hd
  refine Do (t42 NN d _ _) ?_
  unfold b42 m42
  exact q_p fr<|D5 (mg:=m43 a0 a1) (fun S=>rfl) (w43 (by omega) _ b0_ i0_1 i0_2 i0_3 i0_4 v0_1 v0_2 v0_3 v0_4 a0 k1 a1) fun y1 hy1 ⟨i1,i2,v1,v2⟩=>AU (i1,i2,v1,v2) 0 rfl rfl
def Kr (a0:Ab) (a1_0:Ai):Option (Ac):=(m20 a0).bind fun y1=>bif y1 != 0 then some (⟨y1,(⟨0,[],[],[],[]⟩:Ab)⟩:Ac) else (m59 a0).bind fun y2=>(m42 y2 a1_0).bind fun y3=>bif y3.1 != 0 then some (⟨y3.1,(⟨0,[],[],[],[]⟩:Ab)⟩:Ac) else (m59 y3.2).bind fun y4=>some (⟨0,y4⟩:Ac)
theorem aO {d:Nat} (hd:144≤d) (k0:Bool) (a0:Ab) (k1_0:Bool) (a1_0:Ai):Fit (R NN d 31 [.agg (Enc.cs k0 a0),.fn 42 [.rp k1_0 (Enc.cs k1_0 a1_0)]] []) (Kr a0 a1_0) (P1 (T:=Ac) AV.agg):=by
  obtain ⟨d,rfl,g⟩:=up hd
  refine AD (t31 NN d _ _) ?_
  unfold b31 Kr
  refine AG (n:=5) rfl rfl (by decide) fun b1=>AE rfl fun b2=>A9 1 rfl rfl rfl<|A7 (aF1 (A8 (Aq (l0:=k0) (x:=a0))) fun l0_=>w20 (by omega) l0_ a0) fun y1 hy1=>q_p fr<|q_i ?_ ?_
  ·exact q_p (fun _=>CQ rfl)<|A6 0 rfl rfl rfl (by decide) rfl<|Bn (fun S hS=>hS.lda 0 rfl rfl) (Bh (α:=Ac) (β:=Int×Ab) (f:=fun x=>(x.Code,x.Cluster)) (x:=(⟨y1,(⟨0,[],[],[],[]⟩:Ab)⟩:Ac)) rfl (Ap (AO (n:=y1)) (Bh (α:=Ab) (β:=Int×(List Int)×(List Af)×(List Ai)×(List Ag)) (f:=fun x=>(x.F,x.Bad,x.Replicas,x.Ledger,x.Requests)) (x:=(⟨0,[],[],[],[]⟩:Ab)) rfl (Ap (AO (n:=0)) (Ap (AA (α:=Int) (fl:=true)) (Ap (AA (α:=Af) (fl:=true)) (Ap (AA (α:=Ai) (fl:=true)) (AA (α:=Ag) (fl:=true))))))))) rfl
  ·refine A9 1 rfl rfl rfl<|HQ (mg:=m59 a0) (aF1 (A8 (Aq (l0:=k0) (x:=a0))) fun l0_=>w59 (by omega) l0_ a0) fun y2 hy2 i1 cs1 hq_=>Ez (fun S hS=>Eu (hS.get (k:=0) rfl)) fun hcs_=>?_
   obtain ⟨v1,v2,v3,v4,rfl⟩:=hcs_
   refine HM (x:=(y2.F,y2.Bad,y2.Replicas,y2.Ledger,y2.Requests)) hq_ rfl (fun _ h=>h) fun i2 i3 i4 i5=>AE rfl fun b3=>A6 0 rfl rfl rfl (by decide) rfl<|D5 (mg:=m42 y2 a1_0) (fun S=>Qk _ _ _ _) (w42 (by omega) _ b3 i2 i3 i4 i5 v1 v2 v3 v4 y2 k1_0 a1_0) fun y3 hy3 ⟨i6,i7,v5,v6⟩=>q_p fr<|q_i ?_ ?_
   ·exact q_p (fun _=>CQ rfl)<|A6 5 rfl rfl rfl (by decide) rfl<|Bn (fun S hS=>hS.lda 5 rfl rfl) (Bh (α:=Ac) (β:=Int×Ab) (f:=fun x=>(x.Code,x.Cluster)) (x:=(⟨y3.1,(⟨0,[],[],[],[]⟩:Ab)⟩:Ac)) rfl (Ap (AO (n:=y3.1)) (Bh (α:=Ab) (β:=Int×(List Int)×(List Af)×(List Ai)×(List Ag)) (f:=fun x=>(x.F,x.Bad,x.Replicas,x.Ledger,x.Requests)) (x:=(⟨0,[],[],[],[]⟩:Ab)) rfl (Ap (AO (n:=0)) (Ap (AA (α:=Int) (fl:=true)) (Ap (AA (α:=Af) (fl:=true)) (Ap (AA (α:=Ai) (fl:=true)) (AA (α:=Ag) (fl:=true))))))))) rfl
   ·refine A9 0 rfl rfl rfl<|FU (W:=AV.agg) (mg:=m59 y3.2) CY (aF1 (A8 (Aa (Ad rfl) (Aa (Cb 1 rfl) (Aa (Cb 2 rfl) (Aa (CN (α:=Ai) 3 rfl) (Aa (DZ (α:=Ag) 4 rfl) Ah)))))) fun l0_=>MQ (by omega) l0_ y3.2) fun y4 hy4 i8 cs2=>Ez (fun S hS=>Eu (hS.get (k:=0) rfl)) fun hcs_=>?_
    obtain ⟨v7,v8,v9,v10,rfl⟩:=hcs_
    exact q_p (fun _=>FB rfl)<|A6 6 rfl rfl rfl (by decide) rfl<|Bn (fun S hS=>hS.lda 6 rfl rfl) (Bh (α:=Ac) (β:=Int×Ab) (f:=fun x=>(x.Code,x.Cluster)) (x:=(⟨0,y4⟩:Ac)) rfl (Ap (AO (n:=0)) (Dp 0 rfl))) rfl
theorem XH {d:Nat} (hd:144≤d) (k0:Bool) (a0:Ab) (k1_0:Bool) (a1_0:Ai):Fit (R NN d 31 [.agg (Enc.cs k0 a0),.fn 42 [.rp k1_0 (Enc.cs k1_0 a1_0)]] []) (Kr a0 a1_0) (P0 (fun (t:Ac)=>AV.agg (Enc.cs false t))):=EV (aO hd k0 a0 k1_0 a1_0)
def m19 (a0:Ab) (a1:Ai):Option (Ac):=(Kr a0 a1).bind fun y1=>some y1
theorem w19 {d:Nat} (hd:154≤d) (k0:Bool) (a0:Ab) (k1:Bool) (a1:Ai):Fit (R NN d 19 [.agg (Enc.cs k0 a0),.agg (Enc.cs k1 a1)] []) (m19 a0 a1) (P0 (fun (t:Ac)=>AV.agg (Enc.cs false t))):=by
  obtain ⟨d,rfl,g⟩:=up hd
  refine AD (t19 NN d _ _) ?_
  unfold b19 m19
  exact AG (n:=5) rfl rfl (by decide) fun b1=>AG (n:=7) rfl rfl (by decide) fun b2=>AE rfl fun b3=>A9 2 rfl rfl rfl<|A7 (aF2 (A8 (Aq (l0:=k0) (x:=a0))) (BC (Aa (B9 1 rfl (Aq (l0:=k1) (x:=a1))) Ah)) fun l0_ l1_=>XH (by omega) l0_ a0 l1_ a1) fun y1 hy1=>A6 0 rfl rfl rfl (by decide) rfl<|AI (fun S hS=>hS.lda 0 rfl rfl) (A8 (Aq (l0:=false) (x:=y1))) rfl
def JW (s3:Bool×Int×Int×(List Int)×(List Af)×(List Ai)×(List Ag)):Option (LO (Bool×Int×Int×(List Int)×(List Af)×(List Ai)×(List Ag))):=( ( bif decide (s3.2.1 < 5) then some (LO.norm s3.1) else some (LO.norm false)).bind (Ak (fun s6=>bif s6 then some (LO.norm s6) else some (LO.exit 0 s6)) (fun i2 s6=>some (LO.exit i2 s6)) (fun s6=>some (LO.ret s6)))).bind (Ak (fun s7=>(Av [(⟨1,[],0,0,false,false⟩:TOp),(⟨3,([47,97]:Str),7,0,false,false⟩:TOp),(⟨5,([47,97]:Str),9,(-1),false,false⟩:TOp),(⟨3,([47,97,47,98]:Str),1,0,true,true⟩:TOp),(⟨6,([47,97]:Str),0,0,false,false⟩:TOp)] s3.2.1).bind fun x1=>(m11 (⟨s3.2.2.1,s3.2.2.2.1,s3.2.2.2.2.1,s3.2.2.2.2.2.1,s3.2.2.2.2.2.2⟩:Ab) (⟨wi .i64 (1 + (wi .i64 (Int.tdiv s3.2.1 3))),wi .i64 (s3.2.1 + 1),s3.2.1,[x1]⟩:Ag)).bind fun y3=>some (LO.norm (y3.Code == 0,wi .i64 (s3.2.1 + 1),y3.Cluster.F,y3.Cluster.Bad,y3.Cluster.Replicas,y3.Cluster.Ledger,y3.Cluster.Requests))) (fun i3 s7=>some (LO.exit i3 (s3.1,s3.2.1,s3.2.2.1,s3.2.2.2.1,s3.2.2.2.2.1,s3.2.2.2.2.2.1,s3.2.2.2.2.2.2))) (fun s7=>some (LO.ret (s3.1,s3.2.1,s3.2.2.1,s3.2.2.2.1,s3.2.2.2.2.1,s3.2.2.2.2.2.1,s3.2.2.2.2.2.2))))
def Ot (y4:Int) (s20:Int×Int×(List Int)×(List Af)×(List Ai)×(List Ag)):Option (LO (Int×Int×(List Int)×(List Af)×(List Ai)×(List Ag))):=( ( bif decide (s20.1 < (s20.2.2.2.2.1.length:Int)) then some (LO.norm (0 == 0)) else some (LO.norm false)).bind (Ak (fun s23=>bif s23 then some (LO.norm s23) else some (LO.exit 5 s23)) (fun i9 s23=>some (LO.exit i9 s23)) (fun s23=>some (LO.ret s23)))).bind (Ak (fun s24=>( (Av s20.2.2.2.2.1 s20.1).bind fun x2=>bif x2.Kind == 1 then (m13 (⟨s20.2.1,s20.2.2.1,s20.2.2.2.1,s20.2.2.2.2.1,s20.2.2.2.2.2⟩:Ab) (wi .i64 (1 + y4)) s20.1).bind fun y10=>bif y10.Code == 0 then some (LO.norm (y10.Cluster.F,y10.Cluster.Bad,y10.Cluster.Replicas,y10.Cluster.Ledger,y10.Cluster.Requests)) else some (LO.norm (s20.2.1,s20.2.2.1,s20.2.2.2.1,s20.2.2.2.2.1,s20.2.2.2.2.2)) else some (LO.norm (s20.2.1,s20.2.2.1,s20.2.2.2.1,s20.2.2.2.2.1,s20.2.2.2.2.2))).bind (Ak (fun s26=>some (LO.norm (wi .i64 (s20.1 + 1),s26.1,s26.2.1,s26.2.2.1,s26.2.2.2.1,s26.2.2.2.2))) (fun i11 s26=>some (LO.exit i11 (s20.1,s26.1,s26.2.1,s26.2.2.1,s26.2.2.2.1,s26.2.2.2.2))) (fun s26=>some (LO.ret (s20.1,s26.1,s26.2.1,s26.2.2.1,s26.2.2.2.1,s26.2.2.2.2))))) (fun i10 s24=>some (LO.exit i10 (s20.1,s20.2.1,s20.2.2.1,s20.2.2.2.1,s20.2.2.2.2.1,s20.2.2.2.2.2))) (fun s24=>some (LO.ret (s20.1,s20.2.1,s20.2.2.1,s20.2.2.2.1,s20.2.2.2.2.1,s20.2.2.2.2.2))))
def Oq (y4:Int) (y5:Int) (s30:Int×Int×(List Int)×(List Af)×(List Ai)×(List Ag)):Option (LO (Int×Int×(List Int)×(List Af)×(List Ai)×(List Ag))):=bif decide (s30.1 < 6) then ( (m14 (⟨s30.2.1,s30.2.2.1,s30.2.2.2.1,s30.2.2.2.2.1,s30.2.2.2.2.2⟩:Ab) (wi .i64 (1 + y4)) (wi .i64 (1 + y5)) s30.1).bind fun y11=>bif y11.Code == 0 then some (LO.norm (y11.Cluster.F,y11.Cluster.Bad,y11.Cluster.Replicas,y11.Cluster.Ledger,y11.Cluster.Requests)) else some (LO.norm (s30.2.1,s30.2.2.1,s30.2.2.2.1,s30.2.2.2.2.1,s30.2.2.2.2.2))).bind (Ak (fun s32=>some (LO.norm (wi .i64 (s30.1 + 1),s32.1,s32.2.1,s32.2.2.1,s32.2.2.2.1,s32.2.2.2.2))) (fun i14 s32=>some (LO.exit i14 (s30.1,s32.1,s32.2.1,s32.2.2.1,s32.2.2.2.1,s32.2.2.2.2))) (fun s32=>some (LO.ret (s30.1,s32.1,s32.2.1,s32.2.2.1,s32.2.2.2.1,s32.2.2.2.2)))) else some (LO.exit 7 (s30.1,s30.2.1,s30.2.2.1,s30.2.2.2.1,s30.2.2.2.2.1,s30.2.2.2.2.2))
def Oo (s9:Bool×Int×Int×(List Int)×(List Af)×(List Ai)×(List Ag)) (y4:Int) (s34:Int×Int×Int×(List Int)×(List Af)×(List Ai)×(List Ag)):Option (LO (Int×Int×Int×(List Int)×(List Af)×(List Ai)×(List Ag))):=( ( bif decide (s34.1 < (s9.2.2.2.2.2.1.length:Int)) then some (LO.norm (s34.2.1 != 0)) else some (LO.norm false)).bind (Ak (fun s37=>bif s37 then some (LO.norm s37) else some (LO.exit 9 s37)) (fun i16 s37=>some (LO.exit i16 s37)) (fun s37=>some (LO.ret s37)))).bind (Ak (fun s38=>(m17 (⟨s9.2.2.1,s9.2.2.2.1,s9.2.2.2.2.1,s9.2.2.2.2.2.1,s9.2.2.2.2.2.2⟩:Ab) (wi .i64 (1 + y4)) s34.1).bind fun y16=>some (LO.norm (wi .i64 (s34.1 + 1),y16.Code,y16.Cluster.F,y16.Cluster.Bad,y16.Cluster.Replicas,y16.Cluster.Ledger,y16.Cluster.Requests))) (fun i17 s38=>some (LO.exit i17 (s34.1,s34.2.1,s34.2.2.1,s34.2.2.2.1,s34.2.2.2.2.1,s34.2.2.2.2.2.1,s34.2.2.2.2.2.2))) (fun s38=>some (LO.ret (s34.1,s34.2.1,s34.2.2.1,s34.2.2.2.1,s34.2.2.2.2.1,s34.2.2.2.2.2.1,s34.2.2.2.2.2.2))))
def Jf (a0:List U8) (s9:Bool×Int×Int×(List Int)×(List Af)×(List Ai)×(List Ag)):Option (LO (Bool×Int×Int×(List Int)×(List Af)×(List Ai)×(List Ag))):=( ( bif decide (s9.2.1 < 60) then some (LO.norm s9.1) else some (LO.norm false)).bind (Ak (fun s12=>bif s12 then some (LO.norm s12) else some (LO.exit 2 s12)) (fun i5 s12=>some (LO.exit i5 s12)) (fun s12=>some (LO.ret s12)))).bind (Ak (fun s13=>( (m9 a0 (wi .i64 (s9.2.1 + 9)) 4).bind fun y4=>(m9 a0 (wi .i64 (s9.2.1 + 20)) 3).bind fun y5=>(m9 a0 (wi .i64 (s9.2.1 + 30)) 6).bind fun y6=>(m9 a0 (wi .i64 (s9.2.1 + 40)) (wi .i64 ((s9.2.2.2.2.2.1.length:Int) + 1))).bind fun y7=>( (m9 a0 (wi .i64 (s9.2.1 + 50)) 14).bind fun y8=>( bif y8 == 0 then some (LO.norm (y8 == 0)) else some (LO.norm (y8 == 1))).bind (Ak (fun s17=>bif s17 then (m12 (⟨s9.2.2.1,s9.2.2.2.1,s9.2.2.2.2.1,s9.2.2.2.2.2.1,s9.2.2.2.2.2.2⟩:Ab) (wi .i64 (1 + y4)) (wi .i64 (1 + y5)) y6).bind fun y9=>some (LO.norm (y9.Code,y9.Cluster.F,y9.Cluster.Bad,y9.Cluster.Replicas,y9.Cluster.Ledger,y9.Cluster.Requests,s9.2.2.1,s9.2.2.2.1,s9.2.2.2.2.1,s9.2.2.2.2.2.1,s9.2.2.2.2.2.2)) else ( bif y8 == 2 then some (LO.norm (y8 == 2)) else bif y8 == 3 then some (LO.norm (y8 == 3)) else bif y8 == 4 then some (LO.norm (y8 == 4)) else some (LO.norm (y8 == 5))).bind (Ak (fun s19=>bif s19 then (AB (Ot y4) NN (0,s9.2.2.1,s9.2.2.2.1,s9.2.2.2.2.1,s9.2.2.2.2.2.1,s9.2.2.2.2.2.2)).bind (Ak (fun _=>none) (fun i12 s27=>if i12 = 5 then some (LO.norm (1,0,[],[],[],[],s27.2.1,s27.2.2.1,s27.2.2.2.1,s27.2.2.2.2.1,s27.2.2.2.2.2)) else if i12 = 4 then some (LO.norm (0,0,[],[],[],[],s27.2.1,s27.2.2.1,s27.2.2.2.1,s27.2.2.2.2.1,s27.2.2.2.2.2)) else some (LO.exit i12 (0,0,[],[],[],[],s27.2.1,s27.2.2.1,s27.2.2.2.1,s27.2.2.2.2.1,s27.2.2.2.2.2))) (fun s27=>some (LO.ret (0,0,[],[],[],[],s27.2.1,s27.2.2.1,s27.2.2.2.1,s27.2.2.2.2.1,s27.2.2.2.2.2)))) else ( bif y8 == 6 then some (LO.norm (y8 == 6)) else bif y8 == 7 then some (LO.norm (y8 == 7)) else some (LO.norm (y8 == 8))).bind (Ak (fun s29=>bif s29 then (AB (Oq y4 y5) NN (0,s9.2.2.1,s9.2.2.2.1,s9.2.2.2.2.1,s9.2.2.2.2.2.1,s9.2.2.2.2.2.2)).bind (Ak (fun _=>none) (fun i15 s33=>if i15 = 7 then some (LO.norm (1,0,[],[],[],[],s33.2.1,s33.2.2.1,s33.2.2.2.1,s33.2.2.2.2.1,s33.2.2.2.2.2)) else if i15 = 4 then some (LO.norm (0,0,[],[],[],[],s33.2.1,s33.2.2.1,s33.2.2.2.1,s33.2.2.2.2.1,s33.2.2.2.2.2)) else some (LO.exit i15 (0,0,[],[],[],[],s33.2.1,s33.2.2.1,s33.2.2.2.1,s33.2.2.2.2.1,s33.2.2.2.2.2))) (fun s33=>some (LO.ret (0,0,[],[],[],[],s33.2.1,s33.2.2.1,s33.2.2.2.1,s33.2.2.2.2.1,s33.2.2.2.2.2)))) else bif y8 == 9 then (m9 a0 (wi .i64 (s9.2.1 + 60)) 3).bind fun y12=>(m15 (⟨s9.2.2.1,s9.2.2.2.1,s9.2.2.2.2.1,s9.2.2.2.2.2.1,s9.2.2.2.2.2.2⟩:Ab) (wi .i64 (1 + y4)) (wi .i64 (1 + y12))).bind fun y13=>some (LO.norm (y13.Code,y13.Cluster.F,y13.Cluster.Bad,y13.Cluster.Replicas,y13.Cluster.Ledger,y13.Cluster.Requests,s9.2.2.1,s9.2.2.2.1,s9.2.2.2.2.1,s9.2.2.2.2.2.1,s9.2.2.2.2.2.2)) else bif y8 == 10 then (m16 (⟨s9.2.2.1,s9.2.2.2.1,s9.2.2.2.2.1,s9.2.2.2.2.2.1,s9.2.2.2.2.2.2⟩:Ab) (wi .i64 (1 + y4))).bind fun y14=>some (LO.norm (y14.Code,y14.Cluster.F,y14.Cluster.Bad,y14.Cluster.Replicas,y14.Cluster.Ledger,y14.Cluster.Requests,s9.2.2.1,s9.2.2.2.1,s9.2.2.2.2.1,s9.2.2.2.2.2.1,s9.2.2.2.2.2.2)) else bif y8 == 11 then (m17 (⟨s9.2.2.1,s9.2.2.2.1,s9.2.2.2.2.1,s9.2.2.2.2.2.1,s9.2.2.2.2.2.2⟩:Ab) (wi .i64 (1 + y4)) y7).bind fun y15=>(AB (Oo s9 y4) NN (0,y15.Code,y15.Cluster.F,y15.Cluster.Bad,y15.Cluster.Replicas,y15.Cluster.Ledger,y15.Cluster.Requests)).bind (Ak (fun _=>none) (fun i18 s39=>if i18 = 9 then some (LO.norm (s39.2.1,s39.2.2.1,s39.2.2.2.1,s39.2.2.2.2.1,s39.2.2.2.2.2.1,s39.2.2.2.2.2.2,s9.2.2.1,s9.2.2.2.1,s9.2.2.2.2.1,s9.2.2.2.2.2.1,s9.2.2.2.2.2.2)) else if i18 = 4 then some (LO.norm (s39.2.1,s39.2.2.1,s39.2.2.2.1,s39.2.2.2.2.1,s39.2.2.2.2.2.1,s39.2.2.2.2.2.2,s9.2.2.1,s9.2.2.2.1,s9.2.2.2.2.1,s9.2.2.2.2.2.1,s9.2.2.2.2.2.2)) else some (LO.exit i18 (s39.2.1,s39.2.2.1,s39.2.2.2.1,s39.2.2.2.2.1,s39.2.2.2.2.2.1,s39.2.2.2.2.2.2,s9.2.2.1,s9.2.2.2.1,s9.2.2.2.2.1,s9.2.2.2.2.2.1,s9.2.2.2.2.2.2))) (fun s39=>some (LO.ret (s39.2.1,s39.2.2.1,s39.2.2.2.1,s39.2.2.2.2.1,s39.2.2.2.2.2.1,s39.2.2.2.2.2.2,s9.2.2.1,s9.2.2.2.1,s9.2.2.2.2.1,s9.2.2.2.2.2.1,s9.2.2.2.2.2.2)))) else bif y8 == 12 then (m18 (⟨s9.2.2.1,s9.2.2.2.1,s9.2.2.2.2.1,s9.2.2.2.2.2.1,s9.2.2.2.2.2.2⟩:Ab) (wi .i64 (1 + y4))).bind fun y17=>some (LO.norm (y17.Code,y17.Cluster.F,y17.Cluster.Bad,y17.Cluster.Replicas,y17.Cluster.Ledger,y17.Cluster.Requests,s9.2.2.1,s9.2.2.2.1,s9.2.2.2.2.1,s9.2.2.2.2.2.1,s9.2.2.2.2.2.2)) else (m9 a0 (wi .i64 (s9.2.1 + 60)) 4).bind fun y18=>(m9 a0 (wi .i64 (s9.2.1 + 70)) 3).bind fun y19=>( bif (wi .i64 (1 + y18)) == 4 then (m9 a0 (wi .i64 (s9.2.1 + 80)) 2).bind fun y20=>bif y20 == 0 then some (LO.norm (4,wi .i64 (1 + y19),0,0,[(⟨wi .i64 (1 + y5),0,y6⟩:AP)])) else some (LO.norm (4,wi .i64 (1 + y19),0,0,[])) else some (LO.norm (wi .i64 (1 + y18),y19,wi .i64 (1 + y5),y6,[]))).bind (Ak (fun s41=>(m19 (⟨s9.2.2.1,s9.2.2.2.1,s9.2.2.2.2.1,s9.2.2.2.2.2.1,s9.2.2.2.2.2.2⟩:Ab) (⟨s41.1,s41.2.1,wi .i64 (1 + y4),s41.2.2.1,s41.2.2.2.1,s41.2.2.2.2,[]⟩:Ai)).bind fun y21=>some (LO.norm (y21.Code,y21.Cluster.F,y21.Cluster.Bad,y21.Cluster.Replicas,y21.Cluster.Ledger,y21.Cluster.Requests,s9.2.2.1,s9.2.2.2.1,s9.2.2.2.2.1,s9.2.2.2.2.2.1,s9.2.2.2.2.2.2))) (fun i19 s41=>if i19 = 4 then some (LO.norm (0,0,[],[],[],[],s9.2.2.1,s9.2.2.2.1,s9.2.2.2.2.1,s9.2.2.2.2.2.1,s9.2.2.2.2.2.2)) else some (LO.exit i19 (0,0,[],[],[],[],s9.2.2.1,s9.2.2.2.1,s9.2.2.2.2.1,s9.2.2.2.2.2.1,s9.2.2.2.2.2.2))) (fun s41=>some (LO.ret (0,0,[],[],[],[],s9.2.2.1,s9.2.2.2.1,s9.2.2.2.2.1,s9.2.2.2.2.2.1,s9.2.2.2.2.2.2))))) (fun i13 s29=>if i13 = 4 then some (LO.norm (0,0,[],[],[],[],s9.2.2.1,s9.2.2.2.1,s9.2.2.2.2.1,s9.2.2.2.2.2.1,s9.2.2.2.2.2.2)) else some (LO.exit i13 (0,0,[],[],[],[],s9.2.2.1,s9.2.2.2.1,s9.2.2.2.2.1,s9.2.2.2.2.2.1,s9.2.2.2.2.2.2))) (fun s29=>some (LO.ret (0,0,[],[],[],[],s9.2.2.1,s9.2.2.2.1,s9.2.2.2.2.1,s9.2.2.2.2.2.1,s9.2.2.2.2.2.2))))) (fun i8 s19=>if i8 = 4 then some (LO.norm (0,0,[],[],[],[],s9.2.2.1,s9.2.2.2.1,s9.2.2.2.2.1,s9.2.2.2.2.2.1,s9.2.2.2.2.2.2)) else some (LO.exit i8 (0,0,[],[],[],[],s9.2.2.1,s9.2.2.2.1,s9.2.2.2.2.1,s9.2.2.2.2.2.1,s9.2.2.2.2.2.2))) (fun s19=>some (LO.ret (0,0,[],[],[],[],s9.2.2.1,s9.2.2.2.1,s9.2.2.2.2.1,s9.2.2.2.2.2.1,s9.2.2.2.2.2.2))))) (fun i7 s17=>if i7 = 4 then some (LO.norm (0,0,[],[],[],[],s9.2.2.1,s9.2.2.2.1,s9.2.2.2.2.1,s9.2.2.2.2.2.1,s9.2.2.2.2.2.2)) else some (LO.exit i7 (0,0,[],[],[],[],s9.2.2.1,s9.2.2.2.1,s9.2.2.2.2.1,s9.2.2.2.2.2.1,s9.2.2.2.2.2.2))) (fun s17=>some (LO.ret (0,0,[],[],[],[],s9.2.2.1,s9.2.2.2.1,s9.2.2.2.2.1,s9.2.2.2.2.2.1,s9.2.2.2.2.2.2))))).bind (Ak (fun s42=>( bif s42.1 == 0 then some (LO.norm (s42.2.1,s42.2.2.1,s42.2.2.2.1,s42.2.2.2.2.1,s42.2.2.2.2.2.1)) else some (LO.norm (s42.2.2.2.2.2.2.1,s42.2.2.2.2.2.2.2.1,s42.2.2.2.2.2.2.2.2.1,s42.2.2.2.2.2.2.2.2.2.1,s42.2.2.2.2.2.2.2.2.2.2))).bind (Ak (fun s44=>(m20 (⟨s44.1,s44.2.1,s44.2.2.1,s44.2.2.2.1,s44.2.2.2.2⟩:Ab)).bind fun y22=>some (LO.norm (y22 == 0,s44.1,s44.2.1,s44.2.2.1,s44.2.2.2.1,s44.2.2.2.2))) (fun i21 s44=>if i21 = 3 then some (LO.norm (s9.1,s44.1,s44.2.1,s44.2.2.1,s44.2.2.2.1,s44.2.2.2.2)) else some (LO.exit i21 (s9.1,s44.1,s44.2.1,s44.2.2.1,s44.2.2.2.1,s44.2.2.2.2))) (fun s44=>some (LO.ret (s9.1,s44.1,s44.2.1,s44.2.2.1,s44.2.2.2.1,s44.2.2.2.2))))) (fun i20 s42=>if i20 = 3 then some (LO.norm (s9.1,s42.2.2.2.2.2.2.1,s42.2.2.2.2.2.2.2.1,s42.2.2.2.2.2.2.2.2.1,s42.2.2.2.2.2.2.2.2.2.1,s42.2.2.2.2.2.2.2.2.2.2)) else some (LO.exit i20 (s9.1,s42.2.2.2.2.2.2.1,s42.2.2.2.2.2.2.2.1,s42.2.2.2.2.2.2.2.2.1,s42.2.2.2.2.2.2.2.2.2.1,s42.2.2.2.2.2.2.2.2.2.2))) (fun s42=>some (LO.ret (s9.1,s42.2.2.2.2.2.2.1,s42.2.2.2.2.2.2.2.1,s42.2.2.2.2.2.2.2.2.1,s42.2.2.2.2.2.2.2.2.2.1,s42.2.2.2.2.2.2.2.2.2.2))))).bind (Ak (fun s45=>some (LO.norm (s45.1,wi .i64 (s9.2.1 + 1),s45.2.1,s45.2.2.1,s45.2.2.2.1,s45.2.2.2.2.1,s45.2.2.2.2.2))) (fun i22 s45=>some (LO.exit i22 (s45.1,s9.2.1,s45.2.1,s45.2.2.1,s45.2.2.2.1,s45.2.2.2.2.1,s45.2.2.2.2.2))) (fun s45=>some (LO.ret (s45.1,s9.2.1,s45.2.1,s45.2.2.1,s45.2.2.2.1,s45.2.2.2.2.1,s45.2.2.2.2.2))))) (fun i6 s13=>some (LO.exit i6 (s9.1,s9.2.1,s9.2.2.1,s9.2.2.2.1,s9.2.2.2.2.1,s9.2.2.2.2.2.1,s9.2.2.2.2.2.2))) (fun s13=>some (LO.ret (s9.1,s9.2.1,s9.2.2.1,s9.2.2.2.1,s9.2.2.2.2.1,s9.2.2.2.2.2.1,s9.2.2.2.2.2.2))))
def m5 (a0:List U8):Option (Ab×Bool):=( (m9 a0 0 6).bind fun y1=>bif decide (y1 > 0) then bif decide (y1 < 5) then (Bw 8 [] [y1]).bind fun z1=>some (LO.norm z1) else some (LO.norm []) else some (LO.norm [])).bind (Ak (fun s2=>(m10 1 s2).bind fun y2=>(AB (JW) NN ((wi .i64 ((y2.Cluster.Replicas.length:Int) + (s2.length:Int))) == 4,0,y2.Cluster.F,y2.Cluster.Bad,y2.Cluster.Replicas,y2.Cluster.Ledger,y2.Cluster.Requests)).bind (Ak (fun _=>none) (fun i4 s8=>if i4 = 0 then (AB (Jf a0) NN (s8.1,0,s8.2.2.1,s8.2.2.2.1,s8.2.2.2.2.1,s8.2.2.2.2.2.1,s8.2.2.2.2.2.2)).bind (Ak (fun _=>none) (fun i23 s46=>if i23 = 2 then some ((⟨s46.2.2.1,s46.2.2.2.1,s46.2.2.2.2.1,s46.2.2.2.2.2.1,s46.2.2.2.2.2.2⟩:Ab),s46.1) else none) (fun s46=>some ((⟨0,[],[],[],[]⟩:Ab),false))) else none) (fun s8=>some ((⟨0,[],[],[],[]⟩:Ab),false)))) (fun i1 s2=>none) (fun s2=>some ((⟨0,[],[],[],[]⟩:Ab),false)))
theorem w5 {d:Nat} (hd:441≤d) (k0:Bool) (a0:List U8):Fit (R NN d 5 [.rsl k0 false (a0.map (Enc.cs k0))] []) (m5 a0) (P0 (fun (t:Ab×Bool)=>AV.tup [.agg (Enc.cs false t.1),.bool t.2])):=by
  obtain ⟨d,rfl,g⟩:=up hd
  refine AD (t5 NN d _) ?_
  unfold b5 m5
  refine AE rfl fun b1=>q_q (fun _=>EU)<|DN (α:=Int) false<|DD (I:=(fun (s:(List Int)) l L=>∃ (v1:AV),l = [v1]∧L = [sl false v1 (s:List Int),bx b1 [iW 0,.rsl false true [],.rsl false true [],.rsl false true [],.rsl false true []]])) ?_ ?_ ?_ ?_
  ·refine A7 (aF3 As (Ad rfl) (Ad rfl) fun l0_ l1_ l2_=>w9 (by omega) l0_ a0 0 6) fun y1 hy1=>q_p fr<|q_k ?_ ?_
   ·exact q_p fr<|q_i (q_q (fun _=>F8)<|DO (ys:=[y1]) 0 rfl rfl (fun _ _=>rfl) fun v1 z1 hz1=>Ae 0 ⟨v1,rfl,rfl⟩)<|Ae 0 ⟨(.rsl false true []),rfl,rfl⟩
   ·first | refine CZ ?_ | skip
    exact Ae 0 ⟨(.rsl false true []),rfl,rfl⟩
  ·rintro s2 _ _ ⟨v2,rfl,rfl⟩
   refine A7 (aF2 (Ad rfl) (Il 0 rfl) fun l0_ l1_=>w10f (by omega) 1 l1_ s2) fun y2 hy2=>q_p fr<|AE rfl fun b2=>A6 0 rfl rfl rfl (by decide) rfl<|q_p fr<|Ao 0 rfl rfl<|AL<|JL 1 rfl<|q_p fr<|q_p fr<|q_p (fun _=>fD rfl)<|q_p (fun _=>Q5 rfl)<|q_p (fun _=>NC rfl) ?_
   refine q_p (fun _=>Ln rfl)<|q_p (fun _=>Xm rfl)<|q_e (fun _=>eW rfl)<|Cm (I:=(fun (s:Bool×Int×Int×(List Int)×(List Af)×(List Ai)×(List Ag)) l L=>∃ (fl1:Bool) (fl2:Bool) (fl3:Bool) (fl4:Bool),l = [.bool s.1,iW s.2.1]∧L = [bx b2 [iW s.2.2.1,.rsl false fl1 (s.2.2.2.1.map (Enc.cs false)),.rsl false fl2 (s.2.2.2.2.1.map (Enc.cs false)),.rsl false fl3 (s.2.2.2.2.2.1.map (Enc.cs false)),.rsl false fl4 (s.2.2.2.2.2.2.map (Enc.cs false))],sl false v2 (s2:List Int),bx b1 [iW 0,.rsl false true [],.rsl false true [],.rsl false true [],.rsl false true []]])) 0 ⟨false,false,false,false,rfl,rfl⟩ ?_ ?_ ?_
   ·rintro s3 _ _ ⟨fl1,fl2,fl3,fl4,rfl,rfl⟩
    unfold jE JW
    refine Bo (A:=fun (s:Bool)=>[.bool s]) (B:=fun s=>[bx b2 [iW s3.2.2.1,.rsl false fl1 (s3.2.2.2.1.map (Enc.cs false)),.rsl false fl2 (s3.2.2.2.2.1.map (Enc.cs false)),.rsl false fl3 (s3.2.2.2.2.2.1.map (Enc.cs false)),.rsl false fl4 (s3.2.2.2.2.2.2.map (Enc.cs false))],sl false v2 (s2:List Int),bx b1 [iW 0,.rsl false true [],.rsl false true [],.rsl false true [],.rsl false true []]]) ?_ ?_ ?_ ?_
    ·refine Bo (A:=fun (s:Bool)=>[.bool s]) (B:=fun s=>[bx b2 [iW s3.2.2.1,.rsl false fl1 (s3.2.2.2.1.map (Enc.cs false)),.rsl false fl2 (s3.2.2.2.2.1.map (Enc.cs false)),.rsl false fl3 (s3.2.2.2.2.2.1.map (Enc.cs false)),.rsl false fl4 (s3.2.2.2.2.2.2.map (Enc.cs false))],sl false v2 (s2:List Int),bx b1 [iW 0,.rsl false true [],.rsl false true [],.rsl false true [],.rsl false true []]]) ?_ ?_ ?_ ?_
     ·exact q_p fr<|q_k (Ae 0 rr)<|Ae 0 rr
     ·exact fun s6=>q_i (Ae 0 rr)<|Ax 0 rr
     ·exact fun i2 s6=>Ax 0 rr
     ·exact fun s6=>Ar 0 rr
    ·exact fun s7=>AE rfl fun b3=>A9 1 rfl rfl rfl<|q_p fr<|q_p fr<|q_p fr<|Bf (l:=false) (fl:=true) (xs:=([(⟨1,[],0,0,false,false⟩:TOp),(⟨3,([47,97]:Str),7,0,false,false⟩:TOp),(⟨5,([47,97]:Str),9,(-1),false,false⟩:TOp),(⟨3,([47,97,47,98]:Str),1,0,true,true⟩:TOp),(⟨6,([47,97]:Str),0,0,false,false⟩:TOp)]:List TOp)) rfl fun x1 hx1=>q_p fr<|q_e (fun _=>eX rfl)<|q_p (fun _=>NB rfl)<|A7 (aF2 (A8 (Aa (Ad rfl) (Aa As (Aa As (Aa As (Aa As Ah)))))) (A8 (Aa (Ad rfl) (Aa (Ad rfl) (Aa (Ad rfl) (Aa (As (α:=TOp) (l0:=false) (fl:=true) (xs:=[x1])) Ah))))) fun l0_ l1_=>w11 (by omega) l0_ (⟨s3.2.2.1,s3.2.2.2.1,s3.2.2.2.2.1,s3.2.2.2.2.2.1,s3.2.2.2.2.2.2⟩:Ab) l1_ (⟨wi .i64 (1 + (wi .i64 (Int.tdiv s3.2.1 3))),wi .i64 (s3.2.1 + 1),s3.2.1,[x1]⟩:Ag)) fun y3 hy3=>A6 0 rfl rfl rfl (by decide) rfl<|q_p fr<|Ao 0 rfl rfl<|q_p fr<|q_p fr<|A9 0 rfl rfl rfl<|A6 1 rfl rfl rfl (by decide) rfl<|q_p fr<|Ae 1 ⟨false,false,false,false,rfl,rfl⟩
    ·exact fun i3 s7=>Ax 0 ⟨fl1,fl2,fl3,fl4,rfl,rfl⟩
    ·exact fun s7=>Ar 0 ⟨fl1,fl2,fl3,fl4,rfl,rfl⟩
   ·rintro i4 s8 _ _ ⟨fl5,fl6,fl7,fl8,rfl,rfl⟩
    refine q_n ?_ ?_
    ·refine Cm (I:=(fun (s:Bool×Int×Int×(List Int)×(List Af)×(List Ai)×(List Ag)) l L=>∃ (fl9:Bool) (fl10:Bool) (fl11:Bool) (fl12:Bool),l = [.bool s.1,iW s.2.1]∧L = [bx b2 [iW s.2.2.1,.rsl false fl9 (s.2.2.2.1.map (Enc.cs false)),.rsl false fl10 (s.2.2.2.2.1.map (Enc.cs false)),.rsl false fl11 (s.2.2.2.2.2.1.map (Enc.cs false)),.rsl false fl12 (s.2.2.2.2.2.2.map (Enc.cs false))],sl false v2 (s2:List Int),bx b1 [iW 0,.rsl false true [],.rsl false true [],.rsl false true [],.rsl false true []]])) 0 ⟨fl5,fl6,fl7,fl8,rfl,rfl⟩ ?_ ?_ ?_
     ·rintro s9 _ _ ⟨fl9,fl10,fl11,fl12,rfl,rfl⟩
      unfold jA Jf
      refine Bo (A:=fun (s:Bool)=>[.bool s]) (B:=fun s=>[bx b2 [iW s9.2.2.1,.rsl false fl9 (s9.2.2.2.1.map (Enc.cs false)),.rsl false fl10 (s9.2.2.2.2.1.map (Enc.cs false)),.rsl false fl11 (s9.2.2.2.2.2.1.map (Enc.cs false)),.rsl false fl12 (s9.2.2.2.2.2.2.map (Enc.cs false))],sl false v2 (s2:List Int),bx b1 [iW 0,.rsl false true [],.rsl false true [],.rsl false true [],.rsl false true []]]) ?_ ?_ ?_ ?_
      ·refine Bo (A:=fun (s:Bool)=>[.bool s]) (B:=fun s=>[bx b2 [iW s9.2.2.1,.rsl false fl9 (s9.2.2.2.1.map (Enc.cs false)),.rsl false fl10 (s9.2.2.2.2.1.map (Enc.cs false)),.rsl false fl11 (s9.2.2.2.2.2.1.map (Enc.cs false)),.rsl false fl12 (s9.2.2.2.2.2.2.map (Enc.cs false))],sl false v2 (s2:List Int),bx b1 [iW 0,.rsl false true [],.rsl false true [],.rsl false true [],.rsl false true []]]) ?_ ?_ ?_ ?_
       ·exact q_p fr<|q_k (Ae 0 rr)<|Ae 0 rr
       ·exact fun s12=>q_i (Ae 0 rr)<|Ax 0 rr
       ·exact fun i5 s12=>Ax 0 rr
       ·exact fun s12=>Ar 0 rr
      ·intro s13
       refine DD (I:=(fun (s:Bool×Int×(List Int)×(List Af)×(List Ai)×(List Ag)) l L=>∃ (fl13:Bool) (fl14:Bool) (fl15:Bool) (fl16:Bool),l = [.bool s.1]∧L = [bx b2 [iW s.2.1,.rsl false fl13 (s.2.2.1.map (Enc.cs false)),.rsl false fl14 (s.2.2.2.1.map (Enc.cs false)),.rsl false fl15 (s.2.2.2.2.1.map (Enc.cs false)),.rsl false fl16 (s.2.2.2.2.2.map (Enc.cs false))],sl false v2 (s2:List Int),bx b1 [iW 0,.rsl false true [],.rsl false true [],.rsl false true [],.rsl false true []]])) ?_ ?_ ?_ ?_
       ·refine q_p fr<|A7 (aF3 As (Ad rfl) (Ad rfl) fun l0_ l1_ l2_=>w9 (by omega) l0_ a0 (wi .i64 (s9.2.1 + 9)) 4) fun y4 hy4=>q_p fr<|q_p fr<|A7 (aF3 As (Ad rfl) (Ad rfl) fun l0_ l1_ l2_=>w9 (by omega) l0_ a0 (wi .i64 (s9.2.1 + 20)) 3) fun y5 hy5=>q_p fr<|q_p fr<|A7 (aF3 As (Ad rfl) (Ad rfl) fun l0_ l1_ l2_=>w9 (by omega) l0_ a0 (wi .i64 (s9.2.1 + 30)) 6) fun y6 hy6=>q_p fr<|q_p fr<|Ao 0 rfl rfl<|AL<|q_p fr ?_
        refine A7 (aF3 As (Ad rfl) (Ad rfl) fun l0_ l1_ l2_=>w9 (by omega) l0_ a0 (wi .i64 (s9.2.1 + 40)) (wi .i64 ((s9.2.2.2.2.2.1.length:Int) + 1))) fun y7 hy7=>q_p (fun _=>bd48 rfl)<|AE rfl fun b4=>A6 0 rfl rfl rfl (by decide) rfl<|DD (I:=(fun (s:Int×Int×(List Int)×(List Af)×(List Ai)×(List Ag)×Int×(List Int)×(List Af)×(List Ai)×(List Ag)) l L=>∃ (fl13:Bool) (fl14:Bool) (fl15:Bool) (fl16:Bool) (fl17:Bool) (fl18:Bool) (fl19:Bool) (fl20:Bool),l = []∧L = [bx b4 [iW s.1,iW s.2.1,.rsl false fl13 (s.2.2.1.map (Enc.cs false)),.rsl false fl14 (s.2.2.2.1.map (Enc.cs false)),.rsl false fl15 (s.2.2.2.2.1.map (Enc.cs false)),.rsl false fl16 (s.2.2.2.2.2.1.map (Enc.cs false))],bx b2 [iW s.2.2.2.2.2.2.1,.rsl false fl17 (s.2.2.2.2.2.2.2.1.map (Enc.cs false)),.rsl false fl18 (s.2.2.2.2.2.2.2.2.1.map (Enc.cs false)),.rsl false fl19 (s.2.2.2.2.2.2.2.2.2.1.map (Enc.cs false)),.rsl false fl20 (s.2.2.2.2.2.2.2.2.2.2.map (Enc.cs false))],sl false v2 (s2:List Int),bx b1 [iW 0,.rsl false true [],.rsl false true [],.rsl false true [],.rsl false true []]])) ?_ ?_ ?_ ?_
        ·refine q_p fr<|A7 (aF3 As (Ad rfl) (Ad rfl) fun l0_ l1_ l2_=>w9 (by omega) l0_ a0 (wi .i64 (s9.2.1 + 50)) 14) fun y8 hy8=>Bo (A:=fun (s:Bool)=>[.bool s]) (B:=fun s=>[bx b4 [iW 0,iW 0,.rsl false true [],.rsl false true [],.rsl false true [],.rsl false true []],bx b2 [iW s9.2.2.1,.rsl false fl9 (s9.2.2.2.1.map (Enc.cs false)),.rsl false fl10 (s9.2.2.2.2.1.map (Enc.cs false)),.rsl false fl11 (s9.2.2.2.2.2.1.map (Enc.cs false)),.rsl false fl12 (s9.2.2.2.2.2.2.map (Enc.cs false))],sl false v2 (s2:List Int),bx b1 [iW 0,.rsl false true [],.rsl false true [],.rsl false true [],.rsl false true []]]) ?_ ?_ ?_ ?_
         ·exact q_p fr<|q_i (Ae 0 rr)<|q_p fr<|Ae 0 rr
         ·intro s17
          refine q_i ?_ ?_
          ·exact A9 1 rfl rfl rfl<|A7 (fun S hS=>FM (A8 (Aa (Ad rfl) (Aa As (Aa As (Aa As (Aa As Ah)))))) (Ad rfl) (Ad rfl) (Ad rfl) hS fun l0_ l1_ l2_ l3_=>w12 (by omega) l0_ (⟨s9.2.2.1,s9.2.2.2.1,s9.2.2.2.2.1,s9.2.2.2.2.2.1,s9.2.2.2.2.2.2⟩:Ab) (wi .i64 (1 + y4)) (wi .i64 (1 + y5)) y6) fun y9 hy9=>A6 0 rfl rfl rfl (by decide) rfl<|Ae 0 ⟨false,false,false,false,fl9,fl10,fl11,fl12,rfl,rfl⟩
          ·refine Bo (A:=fun (s:Bool)=>[.bool s]) (B:=fun s=>[bx b4 [iW 0,iW 0,.rsl false true [],.rsl false true [],.rsl false true [],.rsl false true []],bx b2 [iW s9.2.2.1,.rsl false fl9 (s9.2.2.2.1.map (Enc.cs false)),.rsl false fl10 (s9.2.2.2.2.1.map (Enc.cs false)),.rsl false fl11 (s9.2.2.2.2.2.1.map (Enc.cs false)),.rsl false fl12 (s9.2.2.2.2.2.2.map (Enc.cs false))],sl false v2 (s2:List Int),bx b1 [iW 0,.rsl false true [],.rsl false true [],.rsl false true [],.rsl false true []]]) ?_ ?_ ?_ ?_
           ·exact q_p fr<|q_i (Ae 0 rr)<|q_p fr<|q_i (Ae 0 rr)<|q_p fr<|q_i (Ae 0 rr)<|q_p fr<|Ae 0 rr
           ·intro s19
            refine q_i ?_ ?_
            ·refine Cm (I:=(fun (s:Int×Int×(List Int)×(List Af)×(List Ai)×(List Ag)) l L=>∃ (fl13:Bool) (fl14:Bool) (fl15:Bool) (fl16:Bool),l = [iW s.1]∧L = [bx b4 [iW 0,iW 0,.rsl false true [],.rsl false true [],.rsl false true [],.rsl false true []],bx b2 [iW s.2.1,.rsl false fl13 (s.2.2.1.map (Enc.cs false)),.rsl false fl14 (s.2.2.2.1.map (Enc.cs false)),.rsl false fl15 (s.2.2.2.2.1.map (Enc.cs false)),.rsl false fl16 (s.2.2.2.2.2.map (Enc.cs false))],sl false v2 (s2:List Int),bx b1 [iW 0,.rsl false true [],.rsl false true [],.rsl false true [],.rsl false true []]])) 0 ⟨fl9,fl10,fl11,fl12,rfl,rfl⟩ ?_ ?_ ?_
             ·rintro s20 _ _ ⟨fl13,fl14,fl15,fl16,rfl,rfl⟩
              unfold jD Ot
              refine Bo (A:=fun (s:Bool)=>[.bool s]) (B:=fun s=>[bx b4 [iW 0,iW 0,.rsl false true [],.rsl false true [],.rsl false true [],.rsl false true []],bx b2 [iW s20.2.1,.rsl false fl13 (s20.2.2.1.map (Enc.cs false)),.rsl false fl14 (s20.2.2.2.1.map (Enc.cs false)),.rsl false fl15 (s20.2.2.2.2.1.map (Enc.cs false)),.rsl false fl16 (s20.2.2.2.2.2.map (Enc.cs false))],sl false v2 (s2:List Int),bx b1 [iW 0,.rsl false true [],.rsl false true [],.rsl false true [],.rsl false true []]]) ?_ ?_ ?_ ?_
              ·refine Bo (A:=fun (s:Bool)=>[.bool s]) (B:=fun s=>[bx b4 [iW 0,iW 0,.rsl false true [],.rsl false true [],.rsl false true [],.rsl false true []],bx b2 [iW s20.2.1,.rsl false fl13 (s20.2.2.1.map (Enc.cs false)),.rsl false fl14 (s20.2.2.2.1.map (Enc.cs false)),.rsl false fl15 (s20.2.2.2.2.1.map (Enc.cs false)),.rsl false fl16 (s20.2.2.2.2.2.map (Enc.cs false))],sl false v2 (s2:List Int),bx b1 [iW 0,.rsl false true [],.rsl false true [],.rsl false true [],.rsl false true []]]) ?_ ?_ ?_ ?_
               ·exact q_p fr<|Ao 1 rfl rfl<|AL<|q_p fr<|q_k (q_p fr<|Ao 0 rfl rfl<|q_p fr<|Ae 0 rr)<|Ae 0 rr
               ·exact fun s23=>q_i (Ae 0 rr)<|Ax 0 rr
               ·exact fun i9 s23=>Ax 0 rr
               ·exact fun s23=>Ar 0 rr
              ·intro s24
               refine DD (I:=(fun (s:Int×(List Int)×(List Af)×(List Ai)×(List Ag)) l L=>∃ (fl17:Bool) (fl18:Bool) (fl19:Bool) (fl20:Bool),l = []∧L = [bx b4 [iW 0,iW 0,.rsl false true [],.rsl false true [],.rsl false true [],.rsl false true []],bx b2 [iW s.1,.rsl false fl17 (s.2.1.map (Enc.cs false)),.rsl false fl18 (s.2.2.1.map (Enc.cs false)),.rsl false fl19 (s.2.2.2.1.map (Enc.cs false)),.rsl false fl20 (s.2.2.2.2.map (Enc.cs false))],sl false v2 (s2:List Int),bx b1 [iW 0,.rsl false true [],.rsl false true [],.rsl false true [],.rsl false true []]])) ?_ ?_ ?_ ?_
               ·exact q_p fr<|Ao 1 rfl rfl<|Bf rfl fun x2 hx2=>q_p fr<|q_p fr<|q_p fr<|q_i (A9 1 rfl rfl rfl<|A7 (aF3 (A8 (Aa (Ad rfl) (Aa As (Aa As (Aa As (Aa As Ah)))))) (Ad rfl) (Ad rfl) fun l0_ l1_ l2_=>w13 (by omega) l0_ (⟨s20.2.1,s20.2.2.1,s20.2.2.2.1,s20.2.2.2.2.1,s20.2.2.2.2.2⟩:Ab) (wi .i64 (1 + y4)) s20.1) fun y10 hy10=>AE rfl fun b5=>A6 0 rfl rfl rfl (by decide) rfl<|q_p fr<|Ao 0 rfl rfl<|q_p fr<|q_i (q_p fr<|A9 0 rfl rfl rfl<|A6 2 rfl rfl rfl (by decide) rfl<|Ae 1 ⟨false,false,false,false,rfl,rfl⟩)<|Ae 1 ⟨fl13,fl14,fl15,fl16,rfl,rfl⟩)<|Ae 0 ⟨fl13,fl14,fl15,fl16,rfl,rfl⟩
               ·rintro s26 _ _ ⟨fl17,fl18,fl19,fl20,rfl,rfl⟩
                exact q_p fr<|Ae 0 ⟨fl17,fl18,fl19,fl20,rfl,rfl⟩
               ·rintro i11 s26 _ _ ⟨fl21,fl22,fl23,fl24,rfl,rfl⟩
                exact Ax 0 ⟨fl21,fl22,fl23,fl24,rfl,rfl⟩
               ·rintro s26 _ _ ⟨fl25,fl26,fl27,fl28,rfl,rfl⟩
                exact Ar 0 ⟨fl25,fl26,fl27,fl28,rfl,rfl⟩
              ·exact fun i10 s24=>Ax 0 ⟨fl13,fl14,fl15,fl16,rfl,rfl⟩
              ·exact fun s24=>Ar 0 ⟨fl13,fl14,fl15,fl16,rfl,rfl⟩
             ·rintro i12 s27 _ _ ⟨fl29,fl30,fl31,fl32,rfl,rfl⟩
              exact q_n (q_p fr<|A6 0 rfl rfl rfl (by decide) rfl<|Ae 0 ⟨true,true,true,true,fl29,fl30,fl31,fl32,rfl,rfl⟩)<|q_n (Ae 0 ⟨true,true,true,true,fl29,fl30,fl31,fl32,rfl,rfl⟩)<|Ax 0 ⟨true,true,true,true,fl29,fl30,fl31,fl32,rfl,rfl⟩
             ·rintro s27 _ _ ⟨fl33,fl34,fl35,fl36,rfl,rfl⟩
              exact Ar 0 ⟨true,true,true,true,fl33,fl34,fl35,fl36,rfl,rfl⟩
            ·refine Bo (A:=fun (s:Bool)=>[.bool s]) (B:=fun s=>[bx b4 [iW 0,iW 0,.rsl false true [],.rsl false true [],.rsl false true [],.rsl false true []],bx b2 [iW s9.2.2.1,.rsl false fl9 (s9.2.2.2.1.map (Enc.cs false)),.rsl false fl10 (s9.2.2.2.2.1.map (Enc.cs false)),.rsl false fl11 (s9.2.2.2.2.2.1.map (Enc.cs false)),.rsl false fl12 (s9.2.2.2.2.2.2.map (Enc.cs false))],sl false v2 (s2:List Int),bx b1 [iW 0,.rsl false true [],.rsl false true [],.rsl false true [],.rsl false true []]]) ?_ ?_ ?_ ?_
             ·exact q_p fr<|q_i (Ae 0 rr)<|q_p fr<|q_i (Ae 0 rr)<|q_p fr<|Ae 0 rr
             ·intro s29
              refine q_i ?_ ?_
              ·refine Cm (I:=(fun (s:Int×Int×(List Int)×(List Af)×(List Ai)×(List Ag)) l L=>∃ (fl37:Bool) (fl38:Bool) (fl39:Bool) (fl40:Bool),l = [iW s.1]∧L = [bx b4 [iW 0,iW 0,.rsl false true [],.rsl false true [],.rsl false true [],.rsl false true []],bx b2 [iW s.2.1,.rsl false fl37 (s.2.2.1.map (Enc.cs false)),.rsl false fl38 (s.2.2.2.1.map (Enc.cs false)),.rsl false fl39 (s.2.2.2.2.1.map (Enc.cs false)),.rsl false fl40 (s.2.2.2.2.2.map (Enc.cs false))],sl false v2 (s2:List Int),bx b1 [iW 0,.rsl false true [],.rsl false true [],.rsl false true [],.rsl false true []]])) 0 ⟨fl9,fl10,fl11,fl12,rfl,rfl⟩ ?_ ?_ ?_
               ·rintro s30 _ _ ⟨fl37,fl38,fl39,fl40,rfl,rfl⟩
                unfold jC Oq
                refine q_p fr<|q_i ?_ ?_
                ·refine DD (I:=(fun (s:Int×(List Int)×(List Af)×(List Ai)×(List Ag)) l L=>∃ (fl41:Bool) (fl42:Bool) (fl43:Bool) (fl44:Bool),l = []∧L = [bx b4 [iW 0,iW 0,.rsl false true [],.rsl false true [],.rsl false true [],.rsl false true []],bx b2 [iW s.1,.rsl false fl41 (s.2.1.map (Enc.cs false)),.rsl false fl42 (s.2.2.1.map (Enc.cs false)),.rsl false fl43 (s.2.2.2.1.map (Enc.cs false)),.rsl false fl44 (s.2.2.2.2.map (Enc.cs false))],sl false v2 (s2:List Int),bx b1 [iW 0,.rsl false true [],.rsl false true [],.rsl false true [],.rsl false true []]])) ?_ ?_ ?_ ?_
                 ·exact A9 1 rfl rfl rfl<|A7 (fun S hS=>FM (A8 (Aa (Ad rfl) (Aa As (Aa As (Aa As (Aa As Ah)))))) (Ad rfl) (Ad rfl) (Ad rfl) hS fun l0_ l1_ l2_ l3_=>w14 (by omega) l0_ (⟨s30.2.1,s30.2.2.1,s30.2.2.2.1,s30.2.2.2.2.1,s30.2.2.2.2.2⟩:Ab) (wi .i64 (1 + y4)) (wi .i64 (1 + y5)) s30.1) fun y11 hy11=>AE rfl fun b6=>A6 0 rfl rfl rfl (by decide) rfl<|q_p fr<|Ao 0 rfl rfl<|q_p fr<|q_i (q_p fr<|A9 0 rfl rfl rfl<|A6 2 rfl rfl rfl (by decide) rfl<|Ae 1 ⟨false,false,false,false,rfl,rfl⟩)<|Ae 1 ⟨fl37,fl38,fl39,fl40,rfl,rfl⟩
                 ·rintro s32 _ _ ⟨fl41,fl42,fl43,fl44,rfl,rfl⟩
                  exact q_p fr<|Ae 0 ⟨fl41,fl42,fl43,fl44,rfl,rfl⟩
                 ·rintro i14 s32 _ _ ⟨fl45,fl46,fl47,fl48,rfl,rfl⟩
                  exact Ax 0 ⟨fl45,fl46,fl47,fl48,rfl,rfl⟩
                 ·rintro s32 _ _ ⟨fl49,fl50,fl51,fl52,rfl,rfl⟩
                  exact Ar 0 ⟨fl49,fl50,fl51,fl52,rfl,rfl⟩
                ·exact Ax 0 ⟨fl37,fl38,fl39,fl40,rfl,rfl⟩
               ·rintro i15 s33 _ _ ⟨fl53,fl54,fl55,fl56,rfl,rfl⟩
                exact q_n (q_p fr<|A6 0 rfl rfl rfl (by decide) rfl<|Ae 0 ⟨true,true,true,true,fl53,fl54,fl55,fl56,rfl,rfl⟩)<|q_n (Ae 0 ⟨true,true,true,true,fl53,fl54,fl55,fl56,rfl,rfl⟩)<|Ax 0 ⟨true,true,true,true,fl53,fl54,fl55,fl56,rfl,rfl⟩
               ·rintro s33 _ _ ⟨fl57,fl58,fl59,fl60,rfl,rfl⟩
                exact Ar 0 ⟨true,true,true,true,fl57,fl58,fl59,fl60,rfl,rfl⟩
              ·refine q_p fr<|q_i ?_ ?_
               ·exact A9 1 rfl rfl rfl<|q_p fr<|A7 (aF3 As (Ad rfl) (Ad rfl) fun l0_ l1_ l2_=>w9 (by omega) l0_ a0 (wi .i64 (s9.2.1 + 60)) 3) fun y12 hy12=>q_p fr<|A7 (aF3 (A8 (Aa (Ad rfl) (Aa As (Aa As (Aa As (Aa As Ah)))))) (Ad rfl) (Ad rfl) fun l0_ l1_ l2_=>w15 (by omega) l0_ (⟨s9.2.2.1,s9.2.2.2.1,s9.2.2.2.2.1,s9.2.2.2.2.2.1,s9.2.2.2.2.2.2⟩:Ab) (wi .i64 (1 + y4)) (wi .i64 (1 + y12))) fun y13 hy13=>A6 0 rfl rfl rfl (by decide) rfl<|Ae 0 ⟨false,false,false,false,fl9,fl10,fl11,fl12,rfl,rfl⟩
               ·refine q_p fr<|q_i ?_ ?_
                ·exact A9 1 rfl rfl rfl<|A7 (aF2 (A8 (Aa (Ad rfl) (Aa As (Aa As (Aa As (Aa As Ah)))))) (Ad rfl) fun l0_ l1_=>w16 (by omega) l0_ (⟨s9.2.2.1,s9.2.2.2.1,s9.2.2.2.2.1,s9.2.2.2.2.2.1,s9.2.2.2.2.2.2⟩:Ab) (wi .i64 (1 + y4))) fun y14 hy14=>A6 0 rfl rfl rfl (by decide) rfl<|Ae 0 ⟨false,false,false,false,fl9,fl10,fl11,fl12,rfl,rfl⟩
                ·refine q_p fr<|q_i ?_ ?_
                 ·refine A9 1 rfl rfl rfl<|A7 (aF3 (A8 (Aa (Ad rfl) (Aa As (Aa As (Aa As (Aa As Ah)))))) (Ad rfl) (Ad rfl) fun l0_ l1_ l2_=>w17 (by omega) l0_ (⟨s9.2.2.1,s9.2.2.2.1,s9.2.2.2.2.1,s9.2.2.2.2.2.1,s9.2.2.2.2.2.2⟩:Ab) (wi .i64 (1 + y4)) y7) fun y15 hy15=>A6 0 rfl rfl rfl (by decide) rfl<|Cm (I:=(fun (s:Int×Int×Int×(List Int)×(List Af)×(List Ai)×(List Ag)) l L=>∃ (fl61:Bool) (fl62:Bool) (fl63:Bool) (fl64:Bool),l = [iW s.1]∧L = [bx b4 [iW s.2.1,iW s.2.2.1,.rsl false fl61 (s.2.2.2.1.map (Enc.cs false)),.rsl false fl62 (s.2.2.2.2.1.map (Enc.cs false)),.rsl false fl63 (s.2.2.2.2.2.1.map (Enc.cs false)),.rsl false fl64 (s.2.2.2.2.2.2.map (Enc.cs false))],bx b2 [iW s9.2.2.1,.rsl false fl9 (s9.2.2.2.1.map (Enc.cs false)),.rsl false fl10 (s9.2.2.2.2.1.map (Enc.cs false)),.rsl false fl11 (s9.2.2.2.2.2.1.map (Enc.cs false)),.rsl false fl12 (s9.2.2.2.2.2.2.map (Enc.cs false))],sl false v2 (s2:List Int),bx b1 [iW 0,.rsl false true [],.rsl false true [],.rsl false true [],.rsl false true []]])) 0 ⟨false,false,false,false,rfl,rfl⟩ ?_ ?_ ?_
                  ·rintro s34 _ _ ⟨fl61,fl62,fl63,fl64,rfl,rfl⟩
                   unfold jB Oo
                   refine Bo (A:=fun (s:Bool)=>[.bool s]) (B:=fun s=>[bx b4 [iW s34.2.1,iW s34.2.2.1,.rsl false fl61 (s34.2.2.2.1.map (Enc.cs false)),.rsl false fl62 (s34.2.2.2.2.1.map (Enc.cs false)),.rsl false fl63 (s34.2.2.2.2.2.1.map (Enc.cs false)),.rsl false fl64 (s34.2.2.2.2.2.2.map (Enc.cs false))],bx b2 [iW s9.2.2.1,.rsl false fl9 (s9.2.2.2.1.map (Enc.cs false)),.rsl false fl10 (s9.2.2.2.2.1.map (Enc.cs false)),.rsl false fl11 (s9.2.2.2.2.2.1.map (Enc.cs false)),.rsl false fl12 (s9.2.2.2.2.2.2.map (Enc.cs false))],sl false v2 (s2:List Int),bx b1 [iW 0,.rsl false true [],.rsl false true [],.rsl false true [],.rsl false true []]]) ?_ ?_ ?_ ?_
                   ·refine Bo (A:=fun (s:Bool)=>[.bool s]) (B:=fun s=>[bx b4 [iW s34.2.1,iW s34.2.2.1,.rsl false fl61 (s34.2.2.2.1.map (Enc.cs false)),.rsl false fl62 (s34.2.2.2.2.1.map (Enc.cs false)),.rsl false fl63 (s34.2.2.2.2.2.1.map (Enc.cs false)),.rsl false fl64 (s34.2.2.2.2.2.2.map (Enc.cs false))],bx b2 [iW s9.2.2.1,.rsl false fl9 (s9.2.2.2.1.map (Enc.cs false)),.rsl false fl10 (s9.2.2.2.2.1.map (Enc.cs false)),.rsl false fl11 (s9.2.2.2.2.2.1.map (Enc.cs false)),.rsl false fl12 (s9.2.2.2.2.2.2.map (Enc.cs false))],sl false v2 (s2:List Int),bx b1 [iW 0,.rsl false true [],.rsl false true [],.rsl false true [],.rsl false true []]]) ?_ ?_ ?_ ?_
                    ·exact q_p fr<|Ao 1 rfl rfl<|AL<|q_p fr<|q_k (q_p fr<|Ao 0 rfl rfl<|q_p fr<|Ae 0 rr)<|Ae 0 rr
                    ·exact fun s37=>q_i (Ae 0 rr)<|Ax 0 rr
                    ·exact fun i16 s37=>Ax 0 rr
                    ·exact fun s37=>Ar 0 rr
                   ·exact fun s38=>A9 1 rfl rfl rfl<|A7 (aF3 (A8 (Aa (Ad rfl) (Aa As (Aa As (Aa As (Aa As Ah)))))) (Ad rfl) (Ad rfl) fun l0_ l1_ l2_=>w17 (by omega) l0_ (⟨s9.2.2.1,s9.2.2.2.1,s9.2.2.2.2.1,s9.2.2.2.2.2.1,s9.2.2.2.2.2.2⟩:Ab) (wi .i64 (1 + y4)) s34.1) fun y16 hy16=>A6 0 rfl rfl rfl (by decide) rfl<|q_p fr<|Ae 0 ⟨false,false,false,false,rfl,rfl⟩
                   ·exact fun i17 s38=>Ax 0 ⟨fl61,fl62,fl63,fl64,rfl,rfl⟩
                   ·exact fun s38=>Ar 0 ⟨fl61,fl62,fl63,fl64,rfl,rfl⟩
                  ·rintro i18 s39 _ _ ⟨fl65,fl66,fl67,fl68,rfl,rfl⟩
                   exact q_n (Ae 0 ⟨fl65,fl66,fl67,fl68,fl9,fl10,fl11,fl12,rfl,rfl⟩)<|q_n (Ae 0 ⟨fl65,fl66,fl67,fl68,fl9,fl10,fl11,fl12,rfl,rfl⟩)<|Ax 0 ⟨fl65,fl66,fl67,fl68,fl9,fl10,fl11,fl12,rfl,rfl⟩
                  ·rintro s39 _ _ ⟨fl69,fl70,fl71,fl72,rfl,rfl⟩
                   exact Ar 0 ⟨fl69,fl70,fl71,fl72,fl9,fl10,fl11,fl12,rfl,rfl⟩
                 ·refine q_p fr<|q_i ?_ ?_
                  ·exact A9 1 rfl rfl rfl<|A7 (aF2 (A8 (Aa (Ad rfl) (Aa As (Aa As (Aa As (Aa As Ah)))))) (Ad rfl) fun l0_ l1_=>w18 (by omega) l0_ (⟨s9.2.2.1,s9.2.2.2.1,s9.2.2.2.2.1,s9.2.2.2.2.2.1,s9.2.2.2.2.2.2⟩:Ab) (wi .i64 (1 + y4))) fun y17 hy17=>A6 0 rfl rfl rfl (by decide) rfl<|Ae 0 ⟨false,false,false,false,fl9,fl10,fl11,fl12,rfl,rfl⟩
                  ·refine q_p fr<|A7 (aF3 As (Ad rfl) (Ad rfl) fun l0_ l1_ l2_=>w9 (by omega) l0_ a0 (wi .i64 (s9.2.1 + 60)) 4) fun y18 hy18=>q_p fr<|q_p fr<|A7 (aF3 As (Ad rfl) (Ad rfl) fun l0_ l1_ l2_=>w9 (by omega) l0_ a0 (wi .i64 (s9.2.1 + 70)) 3) fun y19 hy19=>q_p (fun _=>G8 rfl)<|AE rfl fun b7=>A6 0 rfl rfl rfl (by decide) rfl<|DD (I:=(fun (s:Int×Int×Int×Int×(List AP)) l L=>∃ (fl73:Bool),l = []∧L = [bx b7 [iW s.1,iW s.2.1,iW (wi .i64 (1 + y4)),iW s.2.2.1,iW s.2.2.2.1,.rsl false fl73 (s.2.2.2.2.map (Enc.cs false)),.rsl false true []],bx b4 [iW 0,iW 0,.rsl false true [],.rsl false true [],.rsl false true [],.rsl false true []],bx b2 [iW s9.2.2.1,.rsl false fl9 (s9.2.2.2.1.map (Enc.cs false)),.rsl false fl10 (s9.2.2.2.2.1.map (Enc.cs false)),.rsl false fl11 (s9.2.2.2.2.2.1.map (Enc.cs false)),.rsl false fl12 (s9.2.2.2.2.2.2.map (Enc.cs false))],sl false v2 (s2:List Int),bx b1 [iW 0,.rsl false true [],.rsl false true [],.rsl false true [],.rsl false true []]])) ?_ ?_ ?_ ?_
                   ·exact q_p fr<|Ao 0 rfl rfl<|q_p fr<|q_i (q_p fr<|Ao 0 rfl rfl<|q_p fr<|q_p (fun _=>Q3 rfl)<|A6 0 rfl rfl rfl (by decide) rfl<|q_p fr<|A7 (aF3 As (Ad rfl) (Ad rfl) fun l0_ l1_ l2_=>w9 (by omega) l0_ a0 (wi .i64 (s9.2.1 + 80)) 2) fun y20 hy20=>q_p fr<|q_i (q_p (fun _=>HB rfl)<|q_e (fun _=>Xi rfl)<|q_p fr<|A6 0 rfl rfl rfl (by decide) rfl<|Ae 0 ⟨true,rfl,rfl⟩)<|Ae 0 ⟨true,rfl,rfl⟩)<|Ae 0 ⟨true,rfl,rfl⟩
                   ·rintro s41 _ _ ⟨fl73,rfl,rfl⟩
                    exact A9 2 rfl rfl rfl<|A9 0 rfl rfl rfl<|A7 (aF2 (A8 (Aa (Ad rfl) (Aa As (Aa As (Aa As (Aa As Ah)))))) (A8 (Aa (Ad rfl) (Aa (Ad rfl) (Aa (Ad rfl) (Aa (Ad rfl) (Aa (Ad rfl) (Aa As (Aa (As (α:=Int) (l0:=false) (fl:=true) (xs:=[])) Ah)))))))) fun l0_ l1_=>w19 (by omega) l0_ (⟨s9.2.2.1,s9.2.2.2.1,s9.2.2.2.2.1,s9.2.2.2.2.2.1,s9.2.2.2.2.2.2⟩:Ab) l1_ (⟨s41.1,s41.2.1,wi .i64 (1 + y4),s41.2.2.1,s41.2.2.2.1,s41.2.2.2.2,[]⟩:Ai)) fun y21 hy21=>A6 1 rfl rfl rfl (by decide) rfl<|Ae 1 ⟨false,false,false,false,fl9,fl10,fl11,fl12,rfl,rfl⟩
                   ·rintro i19 s41 _ _ ⟨fl74,rfl,rfl⟩
                    exact q_n (Ae 1 ⟨true,true,true,true,fl9,fl10,fl11,fl12,rfl,rfl⟩)<|Ax 1 ⟨true,true,true,true,fl9,fl10,fl11,fl12,rfl,rfl⟩
                   ·rintro s41 _ _ ⟨fl75,rfl,rfl⟩
                    exact Ar 1 ⟨true,true,true,true,fl9,fl10,fl11,fl12,rfl,rfl⟩
             ·exact fun i13 s29=>q_n (Ae 0 ⟨true,true,true,true,fl9,fl10,fl11,fl12,rfl,rfl⟩)<|Ax 0 ⟨true,true,true,true,fl9,fl10,fl11,fl12,rfl,rfl⟩
             ·exact fun s29=>Ar 0 ⟨true,true,true,true,fl9,fl10,fl11,fl12,rfl,rfl⟩
           ·exact fun i8 s19=>q_n (Ae 0 ⟨true,true,true,true,fl9,fl10,fl11,fl12,rfl,rfl⟩)<|Ax 0 ⟨true,true,true,true,fl9,fl10,fl11,fl12,rfl,rfl⟩
           ·exact fun s19=>Ar 0 ⟨true,true,true,true,fl9,fl10,fl11,fl12,rfl,rfl⟩
         ·exact fun i7 s17=>q_n (Ae 0 ⟨true,true,true,true,fl9,fl10,fl11,fl12,rfl,rfl⟩)<|Ax 0 ⟨true,true,true,true,fl9,fl10,fl11,fl12,rfl,rfl⟩
         ·exact fun s17=>Ar 0 ⟨true,true,true,true,fl9,fl10,fl11,fl12,rfl,rfl⟩
        ·rintro s42 _ _ ⟨fl76,fl77,fl78,fl79,fl80,fl81,fl82,fl83,rfl,rfl⟩
         refine DD (I:=(fun (s:Int×(List Int)×(List Af)×(List Ai)×(List Ag)) l L=>∃ (fl84:Bool) (fl85:Bool) (fl86:Bool) (fl87:Bool),l = []∧L = [bx b4 [iW s42.1,iW s42.2.1,.rsl false fl76 (s42.2.2.1.map (Enc.cs false)),.rsl false fl77 (s42.2.2.2.1.map (Enc.cs false)),.rsl false fl78 (s42.2.2.2.2.1.map (Enc.cs false)),.rsl false fl79 (s42.2.2.2.2.2.1.map (Enc.cs false))],bx b2 [iW s.1,.rsl false fl84 (s.2.1.map (Enc.cs false)),.rsl false fl85 (s.2.2.1.map (Enc.cs false)),.rsl false fl86 (s.2.2.2.1.map (Enc.cs false)),.rsl false fl87 (s.2.2.2.2.map (Enc.cs false))],sl false v2 (s2:List Int),bx b1 [iW 0,.rsl false true [],.rsl false true [],.rsl false true [],.rsl false true []]])) ?_ ?_ ?_ ?_
         ·exact q_p fr<|Ao 0 rfl rfl<|q_p fr<|q_i (q_p fr<|A9 0 rfl rfl rfl<|A6 1 rfl rfl rfl (by decide) rfl<|Ae 0 ⟨fl76,fl77,fl78,fl79,rfl,rfl⟩)<|Ae 0 ⟨fl80,fl81,fl82,fl83,rfl,rfl⟩
         ·rintro s44 _ _ ⟨fl84,fl85,fl86,fl87,rfl,rfl⟩
          exact A9 1 rfl rfl rfl<|A7 (aF1 (A8 (Aa (Ad rfl) (Aa As (Aa As (Aa As (Aa As Ah)))))) fun l0_=>w20 (by omega) l0_ (⟨s44.1,s44.2.1,s44.2.2.1,s44.2.2.2.1,s44.2.2.2.2⟩:Ab)) fun y22 hy22=>q_p fr<|Ae 1 ⟨fl84,fl85,fl86,fl87,rfl,rfl⟩
         ·rintro i21 s44 _ _ ⟨fl88,fl89,fl90,fl91,rfl,rfl⟩
          exact q_n (Ae 1 ⟨fl88,fl89,fl90,fl91,rfl,rfl⟩)<|Ax 1 ⟨fl88,fl89,fl90,fl91,rfl,rfl⟩
         ·rintro s44 _ _ ⟨fl92,fl93,fl94,fl95,rfl,rfl⟩
          exact Ar 1 ⟨fl92,fl93,fl94,fl95,rfl,rfl⟩
        ·rintro i20 s42 _ _ ⟨fl96,fl97,fl98,fl99,fl100,fl101,fl102,fl103,rfl,rfl⟩
         exact q_n (Ae 1 ⟨fl100,fl101,fl102,fl103,rfl,rfl⟩)<|Ax 1 ⟨fl100,fl101,fl102,fl103,rfl,rfl⟩
        ·rintro s42 _ _ ⟨fl104,fl105,fl106,fl107,fl108,fl109,fl110,fl111,rfl,rfl⟩
         exact Ar 1 ⟨fl108,fl109,fl110,fl111,rfl,rfl⟩
       ·rintro s45 _ _ ⟨fl112,fl113,fl114,fl115,rfl,rfl⟩
        exact q_p fr<|Ae 0 ⟨fl112,fl113,fl114,fl115,rfl,rfl⟩
       ·rintro i22 s45 _ _ ⟨fl116,fl117,fl118,fl119,rfl,rfl⟩
        exact Ax 0 ⟨fl116,fl117,fl118,fl119,rfl,rfl⟩
       ·rintro s45 _ _ ⟨fl120,fl121,fl122,fl123,rfl,rfl⟩
        exact Ar 0 ⟨fl120,fl121,fl122,fl123,rfl,rfl⟩
      ·exact fun i6 s13=>Ax 0 ⟨fl9,fl10,fl11,fl12,rfl,rfl⟩
      ·exact fun s13=>Ar 0 ⟨fl9,fl10,fl11,fl12,rfl,rfl⟩
     ·rintro i23 s46 _ _ ⟨fl124,fl125,fl126,fl127,rfl,rfl⟩
      exact q_n (A9 0 rfl rfl rfl<|A6 2 rfl rfl rfl (by decide) rfl<|AI (fun S hS=>Dq (hS.lda 2 rfl rfl) rfl) (Dl (Aa (A8 (Aa (Ad rfl) (Aa As (Aa As (Aa As (Aa As Ah)))))) (Aa (Ad rfl) Ah))) rfl)<|A4
     ·rintro s46 _ _ ⟨fl128,fl129,fl130,fl131,rfl,rfl⟩
      exact AI (fun S hS=>Dq (hS.lda 2 rfl rfl) rfl) (Dl (Aa (A8 (Aa (Ad rfl) (Aa (As (α:=Int) (l0:=false) (fl:=true) (xs:=[])) (Aa (As (α:=Af) (l0:=false) (fl:=true) (xs:=[])) (Aa (As (α:=Ai) (l0:=false) (fl:=true) (xs:=[])) (Aa (As (α:=Ag) (l0:=false) (fl:=true) (xs:=[])) Ah)))))) (Aa (Ad rfl) Ah))) rfl
    ·exact A4
   ·rintro s8 _ _ ⟨fl132,fl133,fl134,fl135,rfl,rfl⟩
    exact AI (fun S hS=>Dq (hS.lda 2 rfl rfl) rfl) (Dl (Aa (A8 (Aa (Ad rfl) (Aa (As (α:=Int) (l0:=false) (fl:=true) (xs:=[])) (Aa (As (α:=Af) (l0:=false) (fl:=true) (xs:=[])) (Aa (As (α:=Ai) (l0:=false) (fl:=true) (xs:=[])) (Aa (As (α:=Ag) (l0:=false) (fl:=true) (xs:=[])) Ah)))))) (Aa (Ad rfl) Ah))) rfl
  ·rintro i1 s2 _ _ ⟨v3,rfl,rfl⟩
   exact A4
  ·rintro s2 _ _ ⟨v4,rfl,rfl⟩
   exact AI (fun S hS=>Dq (hS.lda 1 rfl rfl) rfl) (Dl (Aa (A8 (Aa (Ad rfl) (Aa (As (α:=Int) (l0:=false) (fl:=true) (xs:=[])) (Aa (As (α:=Af) (l0:=false) (fl:=true) (xs:=[])) (Aa (As (α:=Ai) (l0:=false) (fl:=true) (xs:=[])) (Aa (As (α:=Ag) (l0:=false) (fl:=true) (xs:=[])) Ah)))))) (Aa (Ad rfl) Ah))) rfl
def m21 (a0:Ab) (a1:Int):Option (Int):=(m20 a0).bind fun y1=>bif y1 != 0 then some y1 else (m23 a0 a1).bind fun y2=>FZ y2 ( some 4) fun r1=>some 0
theorem w21 {d:Nat} (hd:144≤d) (k0:Bool) (a0:Ab) (a1:Int):Fit (R NN d 21 [.agg (Enc.cs k0 a0),iW a1] []) (m21 a0 a1) PI:=by
  obtain ⟨d,rfl,g⟩:=up hd
  refine AD (t21 NN d _ _) ?_
  unfold b21 m21
  refine AG (n:=5) rfl rfl (by decide) fun b1=>A9 0 rfl rfl rfl<|A7 (aF1 (A8 (Aq (l0:=k0) (x:=a0))) fun l0_=>w20 (by omega) l0_ a0) fun y1 hy1=>q_p fr<|q_i ?_ ?_
  ·exact Am (Ad rfl) rfl
  ·refine HN (mg:=m23 a0 a1) (v0:=fun _=>AV.nilp) (v1:=fun x r=>AV.rp x (Enc.cs x r)) (fun _=>rfl) (fun _ _=>rfl) (gB (by omega) _ k0 a0 _ a1) (fun x1=>?_) (fun r1 x1 hy2=>?_)
   ·refine q_p (fun _=>Fj) ?_
    first | refine BW ?_ | skip
    exact Am (Ad rfl) rfl
   ·refine q_p (fun _=>c7 _ _) ?_
    first | refine CZ ?_ | skip
    exact Am (Ad rfl) rfl
def m51 (a0:Ab) (a1:Af):Option ((List Int)):=(m47 a0.F a0.Ledger).bind fun y1=>(EL y1 0 a1.Done).bind fun ys1=>some ys1
theorem w51 {d:Nat} (hd:138≤d) (k0:Bool) (a0:Ab) (k1:Bool) (a1:Af):Fit (R NN d 51 [.rp k0 (Enc.cs k0 a0),.rp k1 (Enc.cs k1 a1)] []) (m51 a0 a1) (P0 (fun (t:List Int)=>AV.rsl false false (t.map (Enc.cs false)))):=by
  obtain ⟨d,rfl,g⟩:=up hd
  refine AD (t51 NN d _ _) ?_
  unfold b51 m51
  exact q_q fr<|q_p fr<|q_p fr<|q_q fr<|q_p fr<|q_p fr<|A7 (aF2 (Ad rfl) As fun l0_ l1_=>w47 (by omega) a0.F l1_ a0.Ledger) fun y1 hy1=>q_q fr<|q_p fr<|q_p fr<|NX rfl (.inr ⟨rfl,rfl⟩) (.inl rfl) fun fl1 ys1 hys1=>Am As rfl
def m89 (a0:List Az) (a1:List Az):Unit:=()
theorem w89 {d:Nat} (hd:1≤d) (k0:Bool) (a0:List Az) (k1:Bool) (a1:List Az):Fit (R NN d 89 [.rsl k0 false (a0.map (Enc.cs k0)),.rsl k1 false (a1.map (Enc.cs k1))] []) (some (m89 a0 a1)) (P0 (fun _=>und)):=by
  obtain ⟨d,rfl,g⟩:=up hd
  refine AD (t89 NN d _ _) ?_
  unfold b89 m89
  exact Am (Dl Ah) rfl
def Lt (a0:Int):AQ:=(⟨[(⟨([47]:Str),0,0,0,0⟩:Az)],[],a0,[]⟩:AQ)
theorem w126 {d:Nat} (hd:1≤d) (a0:Int):Fit (R NN d 126 [iW a0] []) (some (Lt a0)) (P0 (fun (t:AQ)=>AV.agg (Enc.cs false t))):=by
  obtain ⟨d,rfl,g⟩:=up hd
  refine AD (t126 NN d _) ?_
  unfold mP Lt
  exact AE rfl fun b1=>q_p (fun _=>fC rfl)<|q_e (fun _=>Qy rfl)<|q_p (fun _=>Xp rfl)<|A6 0 rfl rfl rfl (by decide) rfl<|AI (fun S hS=>hS.lda 0 rfl rfl) (A8 (Aa (As (α:=Az) (l0:=false) (fl:=true) (xs:=[(⟨([47]:Str),0,0,0,0⟩:Az)])) (Aa (As (α:=Au) (l0:=false) (fl:=true) (xs:=[])) (Aa (Ad rfl) (Aa (As (α:=B7) (l0:=false) (fl:=true) (xs:=[])) Ah))))) rfl
def Wi (a0:List B7):Option (List B7):=Bw 48 [] a0
theorem w151 {d:Nat} (hd:1≤d) (k0:Bool) (a0:List B7):Fit (R NN d 151 [.rsl k0 false (a0.map (Enc.cs k0))] []) (Wi a0) (P0 (fun (t:List B7)=>AV.rsl false false (t.map (Enc.cs false)))):=by
  obtain ⟨d,rfl,g⟩:=up hd
  rw [iR]
  refine (?_:Okh [] (fun S=>fN (cfg NN) (R NN d) (.rsl k0 false (a0.map (Enc.cs k0))) S) _ _) [] HP.nil
  unfold fN Wi
  refine Hq (e:=78) Zt (fun h S=>?_) ?_
  · subst h
    refine Eq.symm (show pq (AN (A3 _ _ _ _ S) S) _ = _ from ?_)
    rw [PG]; rfl
  refine q_q (fun _=>PG) ?_
  refine DN (α:=B7) false ?_
  rw [show Bw 48 ([]:List B7) a0 = (Bw 48 [] a0).bind some from by cases Bw 48 ([]:List B7) a0 <;> rfl]
  refine DO (ys:=a0) 0 rfl rfl (fun _ _=>rfl) fun v1 z1 hz1=>?_
  exact Am (Il 0 rfl) rfl
theorem gM {d:Nat} (hd:1≤d) (v:AV) (S:St):R NN d 151 [v] S = pk (Ec Tryz.prog 36 v) S fun r1=>ifA r1 (some (AV.rsl false true [],S)) (pq (AN (A3 Tryz.prog 36 0 [] S) S) fun r2=>pe (BJ 5 48 r2 v S) fun r3 S3=>some (r3,S3)):=by
  obtain ⟨d,rfl,g⟩:=up hd
  exact iR NN d v S
def Ls (a0:List Az):Option (List Az):=Bw 48 [] a0
theorem bS {d:Nat} (hd:1≤d) (k0:Bool) (a0:List Az):Fit (R NN d 152 [.rsl k0 false (a0.map (Enc.cs k0))] []) (Ls a0) (P1 (T:=List Az) Lr):=by
  obtain ⟨d,rfl,g⟩:=up hd
  rw [iQ]
  refine (?_:Okh [] (fun S=>fK (cfg NN) (R NN d) (.rsl k0 false (a0.map (Enc.cs k0))) S) _ _) [] HP.nil
  unfold fK Ls
  refine Hq (e:=72) Zv (fun h S=>?_) ?_
  · subst h
    refine Eq.symm (show pq (AN (A3 _ _ _ _ S) S) _ = _ from ?_)
    rw [PK]; rfl
  refine q_q (fun _=>PK) ?_
  refine DN (α:=Az) false ?_
  rw [show Bw 48 ([]:List Az) a0 = (Bw 48 [] a0).bind some from by cases Bw 48 ([]:List Az) a0 <;> rfl]
  refine DO (ys:=a0) 0 rfl rfl (fun _ _=>rfl) fun v1 z1 hz1=>?_
  exact IZ (JA 0 rfl jP) rfl
theorem gK {d:Nat} (hd:1≤d) (k0:Bool) (a0:List Az):Fit (R NN d 152 [.rsl k0 false (a0.map (Enc.cs k0))] []) (Ls a0) (P0 (fun (t:List Az)=>AV.rsl false false (t.map (Enc.cs false)))):=ZU (bS hd k0 a0)
theorem gL {d:Nat} (hd:1≤d) (v:AV) (S:St):R NN d 152 [v] S = pk (Ec Tryz.prog 34 v) S fun r1=>ifA r1 (some (AV.rsl false true [],S)) (pq (AN (A3 Tryz.prog 34 0 [] S) S) fun r2=>pe (BJ 5 48 r2 v S) fun r3 S3=>some (r3,S3)):=by
  obtain ⟨d,rfl,g⟩:=up hd
  exact iQ NN d v S
def Np (a0:List Au):Option (List Au):=Bw 16 [] a0
theorem gJ {d:Nat} (hd:1≤d) (k0:Bool) (a0:List Au):Fit (R NN d 153 [.rsl k0 false (a0.map (Enc.cs k0))] []) (Np a0) (P1 (T:=List Au) Lr):=by
  obtain ⟨d,rfl,g⟩:=up hd
  rw [iP]
  refine (?_:Okh [] (fun S=>fJ (cfg NN) (R NN d) (.rsl k0 false (a0.map (Enc.cs k0))) S) _ _) [] HP.nil
  unfold fJ Np
  refine Hq (e:=75) Zu (fun h S=>?_) ?_
  · subst h
    refine Eq.symm (show pq (AN (A3 _ _ _ _ S) S) _ = _ from ?_)
    rw [PH]; rfl
  refine q_q (fun _=>PH) ?_
  refine DN (α:=Au) false ?_
  rw [show Bw 16 ([]:List Au) a0 = (Bw 16 [] a0).bind some from by cases Bw 16 ([]:List Au) a0 <;> rfl]
  refine DO (ys:=a0) 0 rfl rfl (fun _ _=>rfl) fun v1 z1 hz1=>?_
  exact IZ (JA 0 rfl jO) rfl
theorem Zr {d:Nat} (hd:1≤d) (k0:Bool) (a0:List Au):Fit (R NN d 153 [.rsl k0 false (a0.map (Enc.cs k0))] []) (Np a0) (P0 (fun (t:List Au)=>AV.rsl false false (t.map (Enc.cs false)))):=ZU (gJ hd k0 a0)
theorem gI {d:Nat} (hd:1≤d) (v:AV) (S:St):R NN d 153 [v] S = pk (Ec Tryz.prog 35 v) S fun r1=>ifA r1 (some (AV.rsl false true [],S)) (pq (AN (A3 Tryz.prog 35 0 [] S) S) fun r2=>pe (BJ 2 16 r2 v S) fun r3 S3=>some (r3,S3)):=by
  obtain ⟨d,rfl,g⟩:=up hd
  exact iP NN d v S
def PZ (a0:AQ):Option (AQ):=(Ls a0.Nodes).bind fun y1=>(Np a0.Sessions).bind fun y2=>(Wi a0.Marks).bind fun y3=>some (⟨y1,y2,a0.Now,y3⟩:AQ)
theorem gW {d:Nat} (hd:2≤d) (k0:Bool) (a0:AQ):Fit (R NN d 128 [.agg (Enc.cs k0 a0)] []) (PZ a0) (P0 (fun (t:AQ)=>AV.agg (Enc.cs false t))):=by
  obtain ⟨d,rfl,g⟩:=up hd
  refine AD (t128 NN d _) ?_
  unfold mN PZ
  exact AG (n:=4) rfl rfl (by decide) fun b1=>AE rfl fun b2=>q_p fr<|Ao 1 rfl rfl<|A7 (aF1 As fun l0_=>gK (by omega) l0_ a0.Nodes) fun y1 hy1=>q_p fr<|Ao 1 rfl rfl<|A7 (aF1 As fun l0_=>Zr (by omega) l0_ a0.Sessions) fun y2 hy2=>q_p fr<|Ao 1 rfl rfl<|q_p fr<|Ao 1 rfl rfl<|A7 (aF1 As fun l0_=>w151 (by omega) l0_ a0.Marks) fun y3 hy3=>q_p (fun _=>ND rfl)<|A6 0 rfl rfl rfl (by decide) rfl<|AI (fun S hS=>hS.lda 0 rfl rfl) (A8 (Aa As (Aa As (Aa (Ad rfl) (Aa As Ah))))) rfl
def Rr (a0:List B7) (a1:B7→Option (Bool)) (s1:Int×Int):Option (LO (Int×Int)):=bif decide (s1.2 < (a0.length:Int)) then (Av a0 s1.2).bind fun x1=>(a1 x1).bind fun y1=>bif y1 then some (LO.ret (s1.2,s1.2)) else some (LO.norm (s1.1,wi .i64 (s1.2 + 1))) else some (LO.exit 0 (s1.1,s1.2))
def dS (a0:List B7) (a1:B7→Option (Bool)):Option (Int):=(AB (Rr a0 a1) NN (0,0)).bind (Ak (fun _=>none) (fun i1 s2=>if i1 = 0 then some (-1) else none) (fun s2=>some s2.1))
theorem w171 {Dc:Nat} {d:Nat} (hd:Dc + 1≤d) (k0:Bool) (a0:List B7) (c1:Bool→AV) (hc1:∀ l,CV 8 [] false (c1 l) c1) (a1:B7→Option (Bool)) (tc1:∀ (d:Nat),Dc≤d→∀ (l:Bool) (q0:Bool) (x0:B7) (S:St) (t:Bool),a1 x0 = some t→AH (cfg NN) (R NN d) 171 (c1 l) [.agg (Enc.cs q0 x0)] S = some ((fun (t:Bool)=>AV.bool t) t,S)) (k1:Bool):Fit (R NN d 171 [.rsl k0 false (a0.map (Enc.cs k0)),c1 k1] []) (dS a0 a1) PI:=by
  obtain ⟨d,rfl,g⟩:=up hd
  refine AD (t171 NN d _ _) ?_
  unfold lP dS
  refine AL<|CU (A:=fun (s:Int×Int)=>[iW s.1,iW s.2]) (B:=fun s=>[]) 0 rr ?_ ?_ ?_
  ·intro s1
   unfold UI Rr
   exact q_p fr<|q_i (Bf rfl fun x1 hx1=>q_p fr<|Jn (mg:=a1 x1) (E:=(fun (t:Bool)=>AV.bool t)) (fun S t ht=>tc1 d (by omega) k1 k0 x1 S t ht) fun y1 hy1=>q_i (Ar 0 rr)<|q_p fr<|Ae 0 rr)<|Ax 0 rr
  ·exact fun i1 s2=>q_n (Am (Ad rfl) rfl)<|A4
  ·exact fun s2=>Am (Ad rfl) rfl
def We (a0:B7) (a1:Int) (a2:Int):Bool:=bif a0.Client == a1 then a0.Number == a2 else false
theorem w172 {d:Nat} (hd:1≤d) (k0:Bool) (a0:B7) (k1:Bool) (a1:Int) (k2:Bool) (a2:Int):Fit (R NN d 172 [.agg (Enc.cs k0 a0),.rp k1 (Enc.cs k1 a1),.rp k2 (Enc.cs k2 a2)] []) (some (We a0 a1 a2)) PB:=by
  obtain ⟨d,rfl,g⟩:=up hd
  refine AD (t172 NN d _ _ _) ?_
  unfold lO We
  exact AG (n:=5) rfl rfl (by decide) fun b1=>q_p fr<|Ao 0 rfl rfl<|q_p fr<|q_p fr<|Vu (fun h1=>q_p fr<|Ao 0 rfl rfl<|q_p fr<|q_p fr<|Am (Ad rfl) rfl) fun h1=>Am (Ad rfl) rfl
def dZ (a0:List B7) (a1:Int) (a2:Int):Option (Int):=(dS a0 (fun x0_=>some (We x0_ a1 a2))).bind fun y1=>some y1
theorem w146 {d:Nat} (hd:3≤d) (k0:Bool) (a0:List B7) (a1:Int) (a2:Int):Fit (R NN d 146 [.rsl k0 false (a0.map (Enc.cs k0)),iW a1,iW a2] []) (dZ a0 a1 a2) PI:=by
  obtain ⟨d,rfl,g⟩:=up hd
  refine AD (t146 NN d _ _ _) ?_
  unfold lY dZ
  exact AG (n:=1) rfl rfl (by decide) fun b1=>AG (n:=1) rfl rfl (by decide) fun b2=>A7 (aF2 As (BC (Aa (B9 1 rfl (Aq (l0:=false) (x:=a1))) (Aa (B9 0 rfl (Aq (l0:=false) (x:=a2))) Ah))) fun l0_ l1_=>w171 (Dc:=1) (by omega) l0_ a0 (fun l=>.fn 172 [.rp l (Enc.cs l a1),.rp l (Enc.cs l a2)]) (fun l=>BC (Aa (AZ (Aq (l0:=l) (x:=a1)) (fun _ _ _ h=>Enc.frz _ a1 _ _ _ h)) (Aa (AZ (Aq (l0:=l) (x:=a2)) (fun _ _ _ h=>Enc.frz _ a2 _ _ _ h)) Ah))) (fun x0_=>some (We x0_ a1 a2)) (fun d hd l q0_ x0_ S t ht=>(TP _ _ _ _).trans (BR (E:=(fun (t:Bool)=>AV.bool t)) (mg:=some (We x0_ a1 a2)) (Xu (M:=fun a=>Fit (R NN d 172 a []) _ _) (A8 (Aq (l0:=q0_) (x:=x0_))) (AZ (Aq (l0:=l) (x:=a1)) (fun _ _ _ h=>Enc.frz _ a1 _ _ _ h)) (AZ (Aq (l0:=l) (x:=a2)) (fun _ _ _ h=>Enc.frz _ a2 _ _ _ h)) HP.nil fun u0_ v0_ v1_=>w172 hd u0_ x0_ v0_ a1 v1_ a2) ht)) l1_) fun y1 hy1=>Am (Ad rfl) rfl
def Rq (a0:List Au) (s1:Int×Int):Option (LO (Int×Int)):=bif decide (s1.2 < (a0.length:Int)) then ( (Av a0 s1.2).bind fun x1=>( bif !(m81 x1.Id) then some (LO.ret 3) else bif !(m56 x1.Until 0 9999) then some (LO.ret 3) else some (LO.norm s1.1)).bind (Ak (fun s4=>bif decide (s1.2 > 0) then (Av a0 (wi .i64 (s1.2 - 1))).bind fun x2=>bif decide (x1.Id≤x2.Id) then some (LO.ret 1) else some (LO.norm s4) else some (LO.norm s4)) (fun i1 s4=>if i1 = 1 then some (LO.norm s4) else some (LO.exit i1 s4)) (fun s4=>some (LO.ret s4)))).bind (Ak (fun s5=>some (LO.norm (s5,wi .i64 (s1.2 + 1)))) (fun i2 s5=>some (LO.exit i2 (s5,s1.2))) (fun s5=>some (LO.ret (s5,s1.2)))) else some (LO.exit 0 (s1.1,s1.2))
def dN (a0:List Au):Option (Int):=bif decide ((a0.length:Int) > 6) then some 2 else (AB (Rq a0) NN (0,0)).bind (Ak (fun _=>none) (fun i3 s6=>if i3 = 0 then some 0 else none) (fun s6=>some s6.1))
theorem w199 {d:Nat} (hd:3≤d) (k0:Bool) (a0:List Au):Fit (R NN d 199 [.rsl k0 false (a0.map (Enc.cs k0))] []) (dN a0) PI:=by
  obtain ⟨d,rfl,g⟩:=up hd
  refine AD (t199 NN d _) ?_
  unfold lB dN
  refine AL<|q_p fr<|q_i ?_ ?_
  ·exact Am (Ad rfl) rfl
  ·refine AL<|CU (A:=fun (s:Int×Int)=>[iW s.1,iW s.2]) (B:=fun s=>[]) 0 rr ?_ ?_ ?_
   ·intro s1
    unfold UH Rq
    refine q_p fr<|q_i ?_ ?_
    ·refine Bo (A:=fun (s:Int)=>[iW s]) (B:=fun s=>[]) ?_ ?_ ?_ ?_
     ·refine Bf rfl fun x1 hx1=>q_p fr<|AE rfl fun b1=>A6 0 rfl rfl rfl (by decide) rfl<|Bo (A:=fun (s:Int)=>[iW s]) (B:=fun s=>[bx b1 [iW x1.Id,iW x1.Until]]) ?_ ?_ ?_ ?_
      ·refine q_p fr<|Ao 0 rfl rfl<|AS (aF1 (Ad rfl) fun l0_=>w81 (by omega) x1.Id)<|q_p fr<|q_j ?_ ?_
       ·first | refine BW ?_ | skip
        exact Ar 0 rr
       ·exact q_p fr<|Ao 0 rfl rfl<|AS (aF3 (Ad rfl) (Ad rfl) (Ad rfl) fun l0_ l1_ l2_=>w56 (by omega) x1.Until 0 9999)<|q_p fr<|q_i (Ar 0 rr)<|Ae 0 rr
      ·intro s4
       refine q_p fr<|q_k ?_ ?_
       ·exact q_p fr<|Ao 0 rfl rfl<|q_p fr<|Bf rfl fun x2 hx2=>q_p fr<|q_p fr<|q_p fr<|q_i (Ar 1 rr)<|Ae 1 rr
       ·first | refine CZ ?_ | skip
        exact Ae 1 rr
      ·exact fun i1 s4=>q_n (Ae 1 rr)<|Ax 1 rr
      ·exact fun s4=>Ar 1 rr
     ·exact fun s5=>q_p fr<|Ae 0 rr
     ·exact fun i2 s5=>Ax 0 rr
     ·exact fun s5=>Ar 0 rr
    ·exact Ax 0 rr
   ·exact fun i3 s6=>q_n (Am (Ad rfl) rfl)<|A4
   ·exact fun s6=>Am (Ad rfl) rfl
def Wc (a0:List Au) (a1:Int) (a2:Int):Option (Int):=(dN a0).bind fun y1=>bif y1 != 0 then some y1 else ( bif !(m81 a1) then some (LO.ret 3) else bif !(m82 a2) then some (LO.ret 3) else some (LO.norm 0)).bind (Ak (fun s2=>some 0) (fun i1 s2=>none) (fun s2=>some s2))
theorem bR {d:Nat} (hd:4≤d) (k0:Bool) (a0:List Au) (a1:Int) (a2:Int):Fit (R NN d 173 [.rsl k0 false (a0.map (Enc.cs k0)),iW a1,iW a2] []) (Wc a0 a1 a2) PI:=by
  obtain ⟨d,rfl,g⟩:=up hd
  refine AD (t173 NN d _ _ _) ?_
  unfold lN Wc
  refine A7 (aF1 As fun l0_=>w199 (by omega) l0_ a0) fun y1 hy1=>q_p fr<|q_i ?_ ?_
  ·exact Am (Ad rfl) rfl
  ·refine Bo (A:=fun (s:Int)=>[iW s]) (B:=fun s=>[]) ?_ ?_ ?_ ?_
   ·refine AS (aF1 (Ad rfl) fun l0_=>w81 (by omega) a1)<|q_p fr<|q_j ?_ ?_
    ·first | refine BW ?_ | skip
     exact Ar 0 rr
    ·exact AS (aF1 (Ad rfl) fun l0_=>w82 (by omega) a2)<|q_p fr<|q_i (Ar 0 rr)<|Ae 0 rr
   ·exact fun s2=>Am (Ad rfl) rfl
   ·exact fun i1 s2=>A4
   ·exact fun s2=>Am (Ad rfl) rfl
def Ru (a0:List Au) (a1:Int) (s1:Int×(List Int)×(List Au)):Option (LO (Int×(List Int)×(List Au))):=bif decide (s1.1 < (a0.length:Int)) then ( (Av a0 s1.1).bind fun x1=>bif decide (x1.Until ≥ a1) then (Bw 16 s1.2.2 [x1]).bind fun z1=>some (LO.norm (s1.2.1,z1)) else (Bw 8 s1.2.1 [x1.Id]).bind fun z2=>some (LO.norm (z2,s1.2.2))).bind (Ak (fun s3=>some (LO.norm (wi .i64 (s1.1 + 1),s3.1,s3.2))) (fun i1 s3=>some (LO.exit i1 (s1.1,s3.1,s3.2))) (fun s3=>some (LO.ret (s1.1,s3.1,s3.2)))) else some (LO.exit 0 (s1.1,s1.2.1,s1.2.2))
def dY (a0:List Au) (a1:Int):Option (BZ):=(Wc a0 1 a1).bind fun y1=>bif y1 != 0 then some (⟨y1,[],[]⟩:BZ) else (AB (Ru a0 a1) NN (0,[],[])).bind (Ak (fun _=>none) (fun i2 s4=>if i2 = 0 then some (⟨0,s4.2.2,s4.2.1⟩:BZ) else none) (fun s4=>some (⟨0,[],[]⟩:BZ)))
theorem w147 {d:Nat} (hd:5≤d) (k0:Bool) (a0:List Au) (a1:Int):Fit (R NN d 147 [.rsl k0 false (a0.map (Enc.cs k0)),iW a1] []) (dY a0 a1) (P0 (fun (t:BZ)=>AV.agg (Enc.cs false t))):=by
  obtain ⟨d,rfl,g⟩:=up hd
  refine AD (t147 NN d _ _) ?_
  unfold lX dY
  refine AE rfl fun b1=>A7 (aF3 As (Ad rfl) (Ad rfl) fun l0_ l1_ l2_=>bR (by omega) l0_ a0 1 a1) fun y1 hy1=>q_p fr<|q_i ?_ ?_
  ·exact q_p (fun _=>Zf rfl)<|A6 0 rfl rfl rfl (by decide) rfl<|AI (fun S hS=>hS.lda 0 rfl rfl) (A8 (Aa (Ad rfl) (Aa (As (α:=Au) (l0:=false) (fl:=true) (xs:=[])) (Aa (As (α:=Int) (l0:=false) (fl:=true) (xs:=[])) Ah)))) rfl
  ·refine q_p (fun _=>kM rfl)<|AE rfl fun b2=>A6 0 rfl rfl rfl (by decide) rfl<|AL<|DN (α:=Au) false<|DN (α:=Int) false<|Cm (I:=(fun (s:Int×(List Int)×(List Au)) l L=>∃ (v1:AV) (v2:AV),l = [iW s.1]∧L = [sl false v1 (s.2.1:List Int),sl false v2 (s.2.2:List Au),bx b2 [iW 0,v2,v1],bx b1 [iW 0,.rsl false true [],.rsl false true []]])) 0 ⟨(.rsl false true []),(.rsl false true []),rfl,rfl⟩ ?_ ?_ ?_
   ·rintro s1 _ _ ⟨v1,v2,rfl,rfl⟩
    unfold UO Ru
    refine q_p fr<|q_i ?_ ?_
    ·refine DD (I:=(fun (s:(List Int)×(List Au)) l L=>∃ (v3:AV) (v4:AV),l = []∧L = [sl false v3 (s.1:List Int),sl false v4 (s.2:List Au),bx b2 [iW 0,v4,v3],bx b1 [iW 0,.rsl false true [],.rsl false true []]])) ?_ ?_ ?_ ?_
     ·exact Bf rfl fun x1 hx1=>q_p fr<|AE rfl fun b3=>A6 0 rfl rfl rfl (by decide) rfl<|q_p fr<|Ao 0 rfl rfl<|q_p fr<|q_i (q_p fr<|Ao 3 rfl rfl<|A9 0 rfl rfl rfl<|q_e (fun _=>Xj rfl)<|DO (ys:=[x1]) 2 rfl rfl (fun _ _=>rfl) fun v3 z1 hz1=>q_p fr<|F9 3 rfl (fun S hS=>(HP.cell1 hS 2 rfl)) rfl<|Ae 1 ⟨v1,v3,rfl,rfl⟩)<|q_p fr<|Ao 3 rfl rfl<|q_p fr<|Ao 0 rfl rfl<|q_q (fun _=>F8)<|DO (ys:=[x1.Id]) 1 rfl rfl (fun _ _=>rfl) fun v4 z2 hz2=>q_p fr<|F9 3 rfl (fun S hS=>(HP.cell1 hS 1 rfl)) rfl<|Ae 1 ⟨v4,v2,rfl,rfl⟩
     ·rintro s3 _ _ ⟨v5,v6,rfl,rfl⟩
      exact q_p fr<|Ae 0 ⟨v5,v6,rfl,rfl⟩
     ·rintro i1 s3 _ _ ⟨v7,v8,rfl,rfl⟩
      exact Ax 0 ⟨v7,v8,rfl,rfl⟩
     ·rintro s3 _ _ ⟨v9,v10,rfl,rfl⟩
      exact Ar 0 ⟨v9,v10,rfl,rfl⟩
    ·exact Ax 0 ⟨v1,v2,rfl,rfl⟩
   ·rintro i2 s4 _ _ ⟨v11,v12,rfl,rfl⟩
    exact q_n (A9 2 rfl rfl rfl<|A6 3 rfl rfl rfl (by decide) rfl<|AI (fun S hS=>hS.lda 3 rfl rfl) (A8 (Aa (Ad rfl) (Aa (Il 1 rfl) (Aa (Il 0 rfl) Ah)))) rfl)<|A4
   ·rintro s4 _ _ ⟨v13,v14,rfl,rfl⟩
    exact AI (fun S hS=>hS.lda 3 rfl rfl) (A8 (Aa (Ad rfl) (Aa (As (α:=Au) (l0:=false) (fl:=true) (xs:=[])) (Aa (As (α:=Int) (l0:=false) (fl:=true) (xs:=[])) Ah)))) rfl
def Wb (a0:Az) (a1:List Int):Option (Bool):=bif a0.Owner != 0 then (m58 a1 a0.Owner).bind fun y1=>some y1 else some false
theorem w175 {d:Nat} (hd:3≤d) (k0:Bool) (a0:Az) (k1:Bool) (a1:List Int):Fit (R NN d 175 [.agg (Enc.cs k0 a0),.rp k1 (Enc.cs k1 a1)] []) (Wb a0 a1) PB:=by
  obtain ⟨d,rfl,g⟩:=up hd
  refine AD (t175 NN d _ _) ?_
  unfold lL Wb
  exact AG (n:=5) rfl rfl (by decide) fun b1=>q_p fr<|Ao 0 rfl rfl<|q_p fr<|q_k (q_p fr<|q_p fr<|Ao 0 rfl rfl<|A7 (aF2 As (Ad rfl) fun l0_ l1_=>w58 (by omega) l0_ a1 a0.Owner) fun y1 hy1=>Am (Ad rfl) rfl)<|Am (Ad rfl) rfl
def Ro (a0:List Az) (a1:Az→Option (Bool)) (s1:Int×Int):Option (LO (Int×Int)):=bif decide (s1.2 < (a0.length:Int)) then (Av a0 s1.2).bind fun x1=>(a1 x1).bind fun y1=>bif y1 then some (LO.ret (s1.2,s1.2)) else some (LO.norm (s1.1,wi .i64 (s1.2 + 1))) else some (LO.exit 0 (s1.1,s1.2))
def dM (a0:List Az) (a1:Az→Option (Bool)):Option (Int):=(AB (Ro a0 a1) NN (0,0)).bind (Ak (fun _=>none) (fun i1 s2=>if i1 = 0 then some (-1) else none) (fun s2=>some s2.1))
theorem w200 {Dc:Nat} {d:Nat} (hd:Dc + 1≤d) (k0:Bool) (a0:List Az) (c1:Bool→AV) (hc1:∀ l,CV 8 [] false (c1 l) c1) (a1:Az→Option (Bool)) (tc1:∀ (d:Nat),Dc≤d→∀ (l:Bool) (q0:Bool) (x0:Az) (S:St) (t:Bool),a1 x0 = some t→AH (cfg NN) (R NN d) 200 (c1 l) [.agg (Enc.cs q0 x0)] S = some ((fun (t:Bool)=>AV.bool t) t,S)) (k1:Bool):Fit (R NN d 200 [.rsl k0 false (a0.map (Enc.cs k0)),c1 k1] []) (dM a0 a1) PI:=by
  obtain ⟨d,rfl,g⟩:=up hd
  refine AD (t200 NN d _ _) ?_
  unfold k9 dM
  refine AL<|CU (A:=fun (s:Int×Int)=>[iW s.1,iW s.2]) (B:=fun s=>[]) 0 rr ?_ ?_ ?_
  ·intro s1
   unfold UG Ro
   exact q_p fr<|q_i (Bf rfl fun x1 hx1=>q_p fr<|Jn (mg:=a1 x1) (E:=(fun (t:Bool)=>AV.bool t)) (fun S t ht=>tc1 d (by omega) k1 k0 x1 S t ht) fun y1 hy1=>q_i (Ar 0 rr)<|q_p fr<|Ae 0 rr)<|Ax 0 rr
  ·exact fun i1 s2=>q_n (Am (Ad rfl) rfl)<|A4
  ·exact fun s2=>Am (Ad rfl) rfl
def Yz (a0:List Az) (a1_0:List Int):Option ((List Az)):=(dM a0 (fun x0_=>Wb x0_ a1_0)).bind fun y1=>bif y1 == (-1) then some a0 else none
theorem w174 {d:Nat} (hd:5≤d) (L0:List En) (i0_:List Nat) (v0_:AV) (a0:List Az) (b1_:Nat) (k1_0:Bool) (a1_0:List Int):Okh (tr i0_ [v0_] (a0:List Az)::bx b1_ [.rsl k1_0 false (a1_0.map (Enc.cs k1_0))]::L0) (fun S=>R NN d 174 [v0_,.fn 175 [.bp b1_ 0 0 1 1]] S) (Yz a0 a1_0) (P5 (fun (x:List Nat×AV) (t:List Az)=>x.2) (fun (x:List Nat×AV) (t:List Az)=>tr x.1 [x.2] t::bx b1_ [.rsl k1_0 false (a1_0.map (Enc.cs k1_0))]::L0)):=by
  obtain ⟨d,rfl,g⟩:=up hd
  refine Do (t174 NN d _ _) ?_
  unfold lM Yz
  exact A7 (aF2 (Cb 0 rfl) (BC (Aa (B9 1 rfl (Aq (l0:=k1_0) (x:=a1_0))) Ah)) fun l0_ l1_=>w200 (Dc:=3) (by omega) l0_ a0 (fun l=>.fn 175 [.rp l (Enc.cs l a1_0)]) (fun l=>BC (Aa (AZ (Aq (l0:=l) (x:=a1_0)) (fun _ _ _ h=>Enc.frz _ a1_0 _ _ _ h)) Ah)) (fun x0_=>Wb x0_ a1_0) (fun d hd l q0_ x0_ S t ht=>(TO _ _ _ _).trans (BR (E:=(fun (t:Bool)=>AV.bool t)) (mg:=Wb x0_ a1_0) (Hg (M:=fun a=>Fit (R NN d 175 a []) _ _) (A8 (Aq (l0:=q0_) (x:=x0_))) (AZ (Aq (l0:=l) (x:=a1_0)) (fun _ _ _ h=>Enc.frz _ a1_0 _ _ _ h)) HP.nil fun u0_ v0_=>w175 hd u0_ x0_ v0_ a1_0) ht)) l1_) fun y1 hy1=>q_p fr<|q_i (AU (i0_,v0_) 0 rfl rfl)<|q_p fr<|A4
def dX (a0:List Az) (a1:List Int):Option ((List Az)):=(Ls a0).bind fun y1=>(Yz y1 a1).bind fun y2=>some y2
theorem w148 {d:Nat} (hd:9≤d) (k0:Bool) (a0:List Az) (k1:Bool) (a1:List Int):Fit (R NN d 148 [.rsl k0 false (a0.map (Enc.cs k0)),.rsl k1 false (a1.map (Enc.cs k1))] []) (dX a0 a1) (P0 (fun (t:List Az)=>AV.rsl false false (t.map (Enc.cs false)))):=by
  obtain ⟨d,rfl,g⟩:=up hd
  refine AD (t148 NN d _ _) ?_
  unfold lW dX
  exact AG (n:=1) rfl rfl (by decide) fun b1=>Ha (mg:=Ls a0) (aF1 As fun l0_=>bS (by omega) l0_ a0) fun y1 hy1 i1 v1=>D5 (mg:=Yz y1 a1) (fun S=>rfl) (w174 (by omega) _ i1 v1 y1 b1 k1 a1) fun y2 hy2 ⟨i2,v2⟩=>Am (Cb 0 rfl) rfl
def Rn (a0:List Au) (a1:Int) (a2:Au→Int→Option (Int)) (s1:Int×Int):Option (LO (Int×Int)):=bif decide (s1.1 < s1.2) then (Av a0 (wi .i64 (I0 .u64 (wi .u64 (wi .i64 (s1.1 + s1.2))) 1))).bind fun x1=>(a2 x1 a1).bind fun y1=>bif decide (y1 < 0) then some (LO.norm (wi .i64 ((wi .i64 (I0 .u64 (wi .u64 (wi .i64 (s1.1 + s1.2))) 1)) + 1),s1.2)) else some (LO.norm (s1.1,wi .i64 (I0 .u64 (wi .u64 (wi .i64 (s1.1 + s1.2))) 1))) else some (LO.exit 0 (s1.1,s1.2))
def dL (a0:List Au) (a1:Int) (a2:Au→Int→Option (Int)):Option (Int×Bool):=(AB (Rn a0 a1 a2) NN (0,(a0.length:Int))).bind (Ak (fun _=>none) (fun i1 s2=>if i1 = 0 then bif decide (s2.1 < (a0.length:Int)) then (Av a0 s2.1).bind fun x2=>(a2 x2 a1).bind fun y2=>some (s2.1,y2 == 0) else some (s2.1,false) else none) (fun s2=>some (0,false)))
theorem w201 {Dc:Nat} {d:Nat} (hd:Dc + 1≤d) (k0:Bool) (a0:List Au) (a1:Int) (c2:Bool→AV) (hc2:∀ l,CV 8 [] false (c2 l) c2) (a2:Au→Int→Option (Int)) (tc2:∀ (d:Nat),Dc≤d→∀ (l:Bool) (q0:Bool) (x0:Au) (x1:Int) (S:St) (t:Int),a2 x0 x1 = some t→AH (cfg NN) (R NN d) 201 (c2 l) [.agg (Enc.cs q0 x0),iW x1] S = some ((fun (t:Int)=>AV.int .i64 t) t,S)) (k2:Bool):Fit (R NN d 201 [.rsl k0 false (a0.map (Enc.cs k0)),iW a1,c2 k2] []) (dL a0 a1 a2) (P0 (fun (t:Int×Bool)=>AV.tup [iW t.1,.bool t.2])):=by
  obtain ⟨d,rfl,g⟩:=up hd
  refine AD (t201 NN d _ _ _) ?_
  unfold k7 dL
  refine AL<|CU (A:=fun (s:Int×Int)=>[iW s.1,iW s.2]) (B:=fun s=>[]) 0 rr ?_ ?_ ?_
  ·intro s1
   unfold UF Rn
   exact q_p fr<|q_i (q_p fr<|q_p (fun _=>KY _ _)<|q_p fr<|q_p (fun _=>OF _ _)<|Bf rfl fun x1 hx1=>q_p fr<|Jn (mg:=a2 x1 a1) (E:=(fun (t:Int)=>AV.int .i64 t)) (fun S t ht=>tc2 d (by omega) k2 k0 x1 a1 S t ht) fun y1 hy1=>q_p fr<|q_i (q_p fr<|Ae 0 rr)<|Ae 0 rr)<|Ax 0 rr
  ·exact fun i1 s2=>q_n (q_p fr<|q_k (Bf rfl fun x2 hx2=>q_p fr<|Jn (mg:=a2 x2 a1) (E:=(fun (t:Int)=>AV.int .i64 t)) (fun S t ht=>tc2 d (by omega) k2 k0 x2 a1 S t ht) fun y2 hy2=>q_p fr<|Am (Dl (Aa (Ad rfl) (Aa (Ad rfl) Ah))) rfl)<|Am (Dl (Aa (Ad rfl) (Aa (Ad rfl) Ah))) rfl)<|A4
  ·exact fun s2=>Am (Dl (Aa (Ad rfl) (Aa (Ad rfl) Ah))) rfl
def VY (a0:Au) (a1:Int):Int:=wi .i64 (a0.Id - a1)
theorem w202 {d:Nat} (hd:1≤d) (k0:Bool) (a0:Au) (a1:Int):Fit (R NN d 202 [.agg (Enc.cs k0 a0),iW a1] []) (some (VY a0 a1)) PI:=by
  obtain ⟨d,rfl,g⟩:=up hd
  refine AD (t202 NN d _ _) ?_
  unfold k6 VY
  exact AG (n:=2) rfl rfl (by decide) fun b1=>q_p fr<|Ao 0 rfl rfl<|q_p fr<|Am (Ad rfl) rfl
def Wa (a0:List Au) (a1:Int):Option (Int×Bool):=(dL a0 a1 (fun x0_ x1_=>some (VY x0_ x1_))).bind fun y1=>some (y1.1,y1.2)
theorem bQ {d:Nat} (hd:3≤d) (k0:Bool) (a0:List Au) (a1:Int):Fit (R NN d 177 [.rsl k0 false (a0.map (Enc.cs k0)),iW a1] []) (Wa a0 a1) (P0 (fun (t:Int×Bool)=>AV.tup [iW t.1,.bool t.2])):=by
  obtain ⟨d,rfl,g⟩:=up hd
  refine AD (t177 NN d _ _) ?_
  unfold lJ Wa
  exact A7 (aF3 As (Ad rfl) (BC Ah) fun l0_ l1_ l2_=>w201 (Dc:=1) (by omega) l0_ a0 a1 (fun l=>.fn 202 []) (fun l=>BC Ah) (fun x0_ x1_=>some (VY x0_ x1_)) (fun d hd l q0_ x0_ x1_ S t ht=>(TN _ _ _ _).trans (BR (E:=(fun (t:Int)=>AV.int .i64 t)) (mg:=some (VY x0_ x1_)) (Hg (M:=fun a=>Fit (R NN d 202 a []) _ _) (A8 (Aq (l0:=q0_) (x:=x0_))) (Ad rfl) HP.nil fun u0_ u1_=>w202 hd u0_ x0_ x1_) ht)) l2_) fun y1 hy1=>q_q fr<|q_q fr<|Am (Dl (Aa (Ad rfl) (Aa (Ad rfl) Ah))) rfl
def Yy (a0:List Au) (a1:Int) (a2:Int):Option (Bool):=(Wa a0 a1).bind fun y1=>bif y1.2 then (Av a0 y1.1).bind fun x1=>some (decide (x1.Until ≥ a2)) else some false
theorem gH {d:Nat} (hd:4≤d) (k0:Bool) (a0:List Au) (a1:Int) (a2:Int):Fit (R NN d 176 [.rsl k0 false (a0.map (Enc.cs k0)),iW a1,iW a2] []) (Yy a0 a1 a2) PB:=by
  obtain ⟨d,rfl,g⟩:=up hd
  refine AD (t176 NN d _ _ _) ?_
  unfold lK Yy
  exact A7 (aF2 As (Ad rfl) fun l0_ l1_=>bQ (by omega) l0_ a0 a1) fun y1 hy1=>q_q fr<|q_q fr<|q_k (Bf rfl fun x1 hx1=>q_p fr<|q_p fr<|q_p fr<|Am (Ad rfl) rfl)<|Am (Ad rfl) rfl
def dW (a0:List Au) (a1:Int) (a2:Int):Option (AX):=(Wc a0 a1 a2).bind fun y1=>bif y1 != 0 then some (⟨y1,[]⟩:AX) else (Yy a0 a1 a2).bind fun y2=>bif !y2 then some (⟨9,[]⟩:AX) else (Np a0).bind fun y3=>(Wa y3 a1).bind fun y4=>(Av y3 y4.1).bind fun x1=>Lu (y3.set (Int.toNat y4.1) ({ x1 with Until:=wi .i64 (a2 + 10) })) fun z1=>some (⟨0,z1⟩:AX)
theorem w149 {d:Nat} (hd:5≤d) (k0:Bool) (a0:List Au) (a1:Int) (a2:Int):Fit (R NN d 149 [.rsl k0 false (a0.map (Enc.cs k0)),iW a1,iW a2] []) (dW a0 a1 a2) (P0 (fun (t:AX)=>AV.agg (Enc.cs false t))):=by
  obtain ⟨d,rfl,g⟩:=up hd
  refine AD (t149 NN d _ _ _) ?_
  unfold lV dW
  refine AE rfl fun b1=>A7 (aF3 As (Ad rfl) (Ad rfl) fun l0_ l1_ l2_=>bR (by omega) l0_ a0 a1 a2) fun y1 hy1=>q_p fr<|q_i ?_ ?_
  ·exact q_p (fun _=>Ir rfl)<|A6 0 rfl rfl rfl (by decide) rfl<|AI (fun S hS=>hS.lda 0 rfl rfl) (A8 (Aa (Ad rfl) (Aa (As (α:=Au) (l0:=false) (fl:=true) (xs:=[])) Ah))) rfl
  ·refine A7 (aF3 As (Ad rfl) (Ad rfl) fun l0_ l1_ l2_=>gH (by omega) l0_ a0 a1 a2) fun y2 hy2=>q_p fr<|q_i ?_ ?_
   ·exact q_p (fun _=>Ir rfl)<|A6 0 rfl rfl rfl (by decide) rfl<|AI (fun S hS=>hS.lda 0 rfl rfl) (A8 (Aa (Ad rfl) (Aa (As (α:=Au) (l0:=false) (fl:=true) (xs:=[])) Ah))) rfl
   ·refine Ha (mg:=Np a0) (aF1 As fun l0_=>gJ (by omega) l0_ a0) fun y3 hy3 i1 v1=>A7 (aF2 (Cb 0 rfl) (Ad rfl) fun l0_ l1_=>bQ (by omega) l0_ y3 a1) fun y4 hy4=>q_q fr<|q_q fr<|q_p fr<|NY 0 rfl rfl fun x1 hx1=>EJ 0 rfl hx1 (by decide)<|IY 0 rfl rfl hx1 rfl (Pm (wi .i64 (a2 + 10))) fun z1 hz1=>GU (fun S hS=>RX (by simp only [Bq,plc,gd,List.getD_cons_zero,List.getD_cons_succ,List.getElem?_cons_zero,List.getElem?_cons_succ,hS.cell1t 0 rfl]; rfl)) ?_
    exact A6 1 rfl rfl rfl (by decide) rfl<|AI (fun S hS=>hS.lda 1 rfl rfl) (A8 (Aa (Ad rfl) (Aa (Cb 0 rfl) Ah))) rfl
def Yw (a0:List Au) (a1:Int) (a2:List Au):Option (List Au):=YB 16 a0 a1 a2
theorem w203 {d:Nat} (hd:1≤d) (L0:List En) (i0_:List Nat) (v0_:AV) (a0:List Au) (a1:Int) (k2 f2_:Bool) (a2:List Au):Okh (wla i0_ v0_ a0::L0) (fun S=>R NN d 203 [v0_,iW a1,.rsl k2 f2_ (a2.map (Enc.cs k2))] S) (Yw a0 a1 a2) (P5 (fun (x:List Nat×AV) (t:List Au)=>x.2) (fun (x:List Nat×AV) (t:List Au)=>wla x.1 x.2 t::L0)):=by
  obtain ⟨d,rfl,g⟩:=up hd
  refine Do (t203 NN d _ _ _) ?_
  unfold kZ Yw
  exact ZR rfl rfl (fun _ _=>rfl)
def dR (a0:List Au) (a1:Int) (a2:Int):Option (AX):=(Wc a0 a1 a2).bind fun y1=>bif y1 != 0 then some (⟨y1,[]⟩:AX) else (Wa a0 a1).bind fun y2=>bif y2.2 then some (⟨6,[]⟩:AX) else bif (a0.length:Int) == 6 then some (⟨2,[]⟩:AX) else (Np a0).bind fun z1=>(Yw z1 y2.1 [(⟨a1,wi .i64 (a2 + 10)⟩:Au)]).bind fun z2=>some (⟨0,z2⟩:AX)
theorem w178 {d:Nat} (hd:5≤d) (k0:Bool) (a0:List Au) (a1:Int) (a2:Int):Fit (R NN d 178 [.rsl k0 false (a0.map (Enc.cs k0)),iW a1,iW a2] []) (dR a0 a1 a2) (P0 (fun (t:AX)=>AV.agg (Enc.cs false t))):=by
  obtain ⟨d,rfl,g⟩:=up hd
  refine AD (t178 NN d _ _ _) ?_
  unfold lI dR
  refine AE rfl fun b1=>A7 (aF3 As (Ad rfl) (Ad rfl) fun l0_ l1_ l2_=>bR (by omega) l0_ a0 a1 a2) fun y1 hy1=>q_p fr<|q_i ?_ ?_
  ·exact q_p (fun _=>Ir rfl)<|A6 0 rfl rfl rfl (by decide) rfl<|AI (fun S hS=>hS.lda 0 rfl rfl) (A8 (Aa (Ad rfl) (Aa (As (α:=Au) (l0:=false) (fl:=true) (xs:=[])) Ah))) rfl
  ·refine A7 (aF2 As (Ad rfl) fun l0_ l1_=>bQ (by omega) l0_ a0 a1) fun y2 hy2=>q_q fr<|q_q fr<|q_i ?_ ?_
   ·exact q_p (fun _=>Ir rfl)<|A6 0 rfl rfl rfl (by decide) rfl<|AI (fun S hS=>hS.lda 0 rfl rfl) (A8 (Aa (Ad rfl) (Aa (As (α:=Au) (l0:=false) (fl:=true) (xs:=[])) Ah))) rfl
   ·refine AL<|q_p fr<|q_i ?_ ?_
    ·exact q_p (fun _=>Ir rfl)<|A6 0 rfl rfl rfl (by decide) rfl<|AI (fun S hS=>hS.lda 0 rfl rfl) (A8 (Aa (Ad rfl) (Aa (As (α:=Au) (l0:=false) (fl:=true) (xs:=[])) Ah))) rfl
    ·refine Vo (l:=k0) (fl:=false) (xs:=a0)<|QR (mg:=Np a0) (fun S=>gI (by omega) _ S) Zu PH rfl rfl fun z1 hz1 i1 v1=>q_p fr<|q_p (fun _=>Xl rfl)<|q_e (fun _=>Xj rfl)<|D5 (mg:=Yw z1 y2.1 [(⟨a1,wi .i64 (a2 + 10)⟩:Au)]) (fun S=>rfl) (w203 (by omega) _ i1 v1 z1 y2.1 false true [(⟨a1,wi .i64 (a2 + 10)⟩:Au)]) fun z2 hz2 ⟨i2,v2⟩=>GU (fun S hS=>RX (by simp only [Bq,plc,gd,List.getD_cons_zero,List.getD_cons_succ,List.getElem?_cons_zero,List.getElem?_cons_succ,hS.cellw 0 rfl]; rfl)) ?_
     exact A6 1 rfl rfl rfl (by decide) rfl<|AI (fun S hS=>hS.lda 1 rfl rfl) (A8 (Aa (Ad rfl) (Aa (Qs (α:=Au) 0 rfl (fun _=>rfl)) Ah))) rfl
def m180 (a0:Au) (a1:Int):Bool:=a0.Id == a1
def Rm (a0:List Az) (a1:Str) (a2:Az→Str→Option (Int)) (s1:Int×Int):Option (LO (Int×Int)):=bif decide (s1.1 < s1.2) then (Av a0 (wi .i64 (I0 .u64 (wi .u64 (wi .i64 (s1.1 + s1.2))) 1))).bind fun x1=>(a2 x1 a1).bind fun y1=>bif decide (y1 < 0) then some (LO.norm (wi .i64 ((wi .i64 (I0 .u64 (wi .u64 (wi .i64 (s1.1 + s1.2))) 1)) + 1),s1.2)) else some (LO.norm (s1.1,wi .i64 (I0 .u64 (wi .u64 (wi .i64 (s1.1 + s1.2))) 1))) else some (LO.exit 0 (s1.1,s1.2))
def dK (a0:List Az) (a1:Str) (a2:Az→Str→Option (Int)):Option (Int×Bool):=(AB (Rm a0 a1 a2) NN (0,(a0.length:Int))).bind (Ak (fun _=>none) (fun i1 s2=>if i1 = 0 then bif decide (s2.1 < (a0.length:Int)) then (Av a0 s2.1).bind fun x2=>(a2 x2 a1).bind fun y2=>some (s2.1,y2 == 0) else some (s2.1,false) else none) (fun s2=>some (0,false)))
theorem w213 {Dc:Nat} {d:Nat} (hd:Dc + 1≤d) (k0:Bool) (a0:List Az) (a1:Str) (c2:Bool→AV) (hc2:∀ l,CV 8 [] false (c2 l) c2) (a2:Az→Str→Option (Int)) (tc2:∀ (d:Nat),Dc≤d→∀ (l:Bool) (q0:Bool) (x0:Az) (x1:Str) (S:St) (t:Int),a2 x0 x1 = some t→AH (cfg NN) (R NN d) 213 (c2 l) [.agg (Enc.cs q0 x0),AY x1] S = some ((fun (t:Int)=>AV.int .i64 t) t,S)) (k2:Bool):Fit (R NN d 213 [.rsl k0 false (a0.map (Enc.cs k0)),AY a1,c2 k2] []) (dK a0 a1 a2) (P0 (fun (t:Int×Bool)=>AV.tup [iW t.1,.bool t.2])):=by
  obtain ⟨d,rfl,g⟩:=up hd
  refine AD (t213 NN d _ _ _) ?_
  unfold kU dK
  refine AL<|CU (A:=fun (s:Int×Int)=>[iW s.1,iW s.2]) (B:=fun s=>[]) 0 rr ?_ ?_ ?_
  ·intro s1
   unfold UE Rm
   exact q_p fr<|q_i (q_p fr<|q_p (fun _=>KY _ _)<|q_p fr<|q_p (fun _=>OF _ _)<|Bf rfl fun x1 hx1=>q_p fr<|Jn (mg:=a2 x1 a1) (E:=(fun (t:Int)=>AV.int .i64 t)) (fun S t ht=>tc2 d (by omega) k2 k0 x1 a1 S t ht) fun y1 hy1=>q_p fr<|q_i (q_p fr<|Ae 0 rr)<|Ae 0 rr)<|Ax 0 rr
  ·exact fun i1 s2=>q_n (q_p fr<|q_k (Bf rfl fun x2 hx2=>q_p fr<|Jn (mg:=a2 x2 a1) (E:=(fun (t:Int)=>AV.int .i64 t)) (fun S t ht=>tc2 d (by omega) k2 k0 x2 a1 S t ht) fun y2 hy2=>q_p fr<|Am (Dl (Aa (Ad rfl) (Aa (Ad rfl) Ah))) rfl)<|Am (Dl (Aa (Ad rfl) (Aa (Ad rfl) Ah))) rfl)<|A4
  ·exact fun s2=>Am (Dl (Aa (Ad rfl) (Aa (Ad rfl) Ah))) rfl
def jX (a0 a1:Str):Option Int:=some (Lib.compareBytes a0 a1)
theorem w225 {d:Nat} (hd:1≤d) (a0 a1:Str):Fit (R NN d 225 [AY a0,AY a1] []) (jX a0 a1) PI:=by
  obtain ⟨d,rfl,g⟩:=up hd
  exact YJ (R:=R NN (d + 1)) (fun _ _ _=>t225 _ _ _ _ _) a0 a1
def VW (a0:Az) (a1:Str):Option (Int):=(jX a0.Path a1).bind fun y1=>some y1
theorem w214 {d:Nat} (hd:2≤d) (k0:Bool) (a0:Az) (a1:Str):Fit (R NN d 214 [.agg (Enc.cs k0 a0),AY a1] []) (VW a0 a1) PI:=by
  obtain ⟨d,rfl,g⟩:=up hd
  refine AD (t214 NN d _ _) ?_
  unfold kT VW
  exact AG (n:=5) rfl rfl (by decide) fun b1=>q_p fr<|Ao 0 rfl rfl<|A7 (aF2 (Ad rfl) (Ad rfl) fun l0_ l1_=>w225 (by omega) a0.Path a1) fun y1 hy1=>Am (Ad rfl) rfl
def Nn (a0:List Az) (a1:Str):Option (Int×Bool):=(dK a0 a1 (fun x0_ x1_=>VW x0_ x1_)).bind fun y1=>some (y1.1,y1.2)
theorem Pi {d:Nat} (hd:4≤d) (k0:Bool) (a0:List Az) (a1:Str):Fit (R NN d 184 [.rsl k0 false (a0.map (Enc.cs k0)),AY a1] []) (Nn a0 a1) (P0 (fun (t:Int×Bool)=>AV.tup [iW t.1,.bool t.2])):=by
  obtain ⟨d,rfl,g⟩:=up hd
  refine AD (t184 NN d _ _) ?_
  unfold lF Nn
  exact A7 (aF3 As (Ad rfl) (BC Ah) fun l0_ l1_ l2_=>w213 (Dc:=2) (by omega) l0_ a0 a1 (fun l=>.fn 214 []) (fun l=>BC Ah) (fun x0_ x1_=>VW x0_ x1_) (fun d hd l q0_ x0_ x1_ S t ht=>(TM _ _ _ _).trans (BR (E:=(fun (t:Int)=>AV.int .i64 t)) (mg:=VW x0_ x1_) (Hg (M:=fun a=>Fit (R NN d 214 a []) _ _) (A8 (Aq (l0:=q0_) (x:=x0_))) (Ad rfl) HP.nil fun u0_ u1_=>w214 hd u0_ x0_ x1_) ht)) l2_) fun y1 hy1=>q_q fr<|q_q fr<|Am (Dl (Aa (Ad rfl) (Aa (Ad rfl) Ah))) rfl
def Rj (a0:Str) (a1:Int) (s1:Int×Int):Option (LO (Int×Int)):=bif decide (s1.2 ≥ 0) then (Av a0 s1.2).bind fun c1=>bif (c1.toNat:Int) == a1 then some (LO.ret (s1.2,s1.2)) else some (LO.norm (s1.1,wi .i64 (s1.2 - 1))) else some (LO.exit 0 (s1.1,s1.2))
def dG (a0:Str) (a1:Int):Option (Int):=(AB (Rj a0 a1) NN (0,wi .i64 ((a0.length:Int) - 1))).bind (Ak (fun _=>none) (fun i1 s2=>if i1 = 0 then some (-1) else none) (fun s2=>some s2.1))
theorem w229 {d:Nat} (hd:1≤d) (a0:Str) (a1:Int):Fit (R NN d 229 [AY a0,.int .u8 a1] []) (dG a0 a1) PI:=by
  obtain ⟨d,rfl,g⟩:=up hd
  refine AD (t229 NN d _ _) ?_
  unfold kP dG
  refine DX<|q_p fr<|CU (A:=fun (s:Int×Int)=>[iW s.1,iW s.2]) (B:=fun s=>[]) 0 rr ?_ ?_ ?_
  ·intro s1
   unfold UB Rj
   exact q_p fr<|q_i (I6 fun c1 hc1=>q_p fr<|q_i (Ar 0 rr)<|q_p fr<|Ae 0 rr)<|Ax 0 rr
  ·exact fun i1 s2=>q_n (Am (Ad rfl) rfl)<|A4
  ·exact fun s2=>Am (Ad rfl) rfl
def Re (a0:Str) (s1:Int×Int):Option (LO (Int×Int)):=bif decide (s1.2 ≥ 0) then (Av a0 s1.2).bind fun c1=>some (LO.norm (wi .u32 ((wi .u32 (s1.1 * 16777619)) + (wi .u32 (c1.toNat:Int))),wi .i64 (s1.2 - 1))) else some (LO.exit 0 (s1.1,s1.2))
def Rb (s3:Int×Int×Int):Option (LO (Int×Int×Int)):=bif decide (s3.2.2 > 0) then ( ( bif (andI .i64 s3.2.2 1) != 0 then some (LO.norm (wi .u32 (s3.1 * s3.2.1))) else some (LO.norm s3.1)).bind (Ak (fun s6=>some (LO.norm (s6,wi .u32 (s3.2.1 * s3.2.1)))) (fun i2 s6=>if i2 = 3 then some (LO.norm (s6,s3.2.1)) else some (LO.exit i2 (s6,s3.2.1))) (fun s6=>some (LO.ret (s6,s3.2.1))))).bind (Ak (fun s7=>some (LO.norm (s7.1,s7.2,I0 .i64 s3.2.2 1))) (fun i3 s7=>some (LO.exit i3 (s7.1,s7.2,s3.2.2))) (fun s7=>some (LO.ret (s7.1,s7.2,s3.2.2)))) else some (LO.exit 2 (s3.1,s3.2.1,s3.2.2))
def dE (a0:Str):Option (Int×Int):=(AB (Re a0) NN (0,wi .i64 ((a0.length:Int) - 1))).bind (Ak (fun _=>none) (fun i1 s2=>if i1 = 0 then (AB (Rb) NN (1,16777619,(a0.length:Int))).bind (Ak (fun _=>none) (fun i4 s8=>if i4 = 2 then some (s2.1,s8.1) else none) (fun s8=>some (0,0))) else none) (fun s2=>some (0,0)))
theorem w234 {d:Nat} (hd:1≤d) (a0:Str):Fit (R NN d 234 [AY a0] []) (dE a0) (P0 (fun (t:Int×Int)=>AV.tup [.int .u32 t.1,.int .u32 t.2])):=by
  obtain ⟨d,rfl,g⟩:=up hd
  refine AD (t234 NN d _) ?_
  unfold kN dE
  refine DX<|q_p fr<|CU (A:=fun (s:Int×Int)=>[.int .u32 s.1,iW s.2]) (B:=fun s=>[]) 0 rr ?_ ?_ ?_
  ·intro s1
   unfold U7 Re
   exact q_p fr<|q_i (q_p fr<|I6 fun c1 hc1=>q_p (fun _=>Ik _ _)<|q_p fr<|q_p fr<|Ae 0 rr)<|Ax 0 rr
  ·intro i1 s2
   refine q_n ?_ ?_
   ·refine DX<|CU (A:=fun (s:Int×Int×Int)=>[.int .u32 s.1,.int .u32 s.2.1,iW s.2.2]) (B:=fun s=>[]) 0 rr ?_ ?_ ?_
    ·intro s3
     unfold U6 Rb
     refine q_p fr<|q_i ?_ ?_
     ·refine Bo (A:=fun (s:Int×Int)=>[.int .u32 s.1,.int .u32 s.2]) (B:=fun s=>[]) ?_ ?_ ?_ ?_
      ·refine Bo (A:=fun (s:Int)=>[.int .u32 s]) (B:=fun s=>[]) ?_ ?_ ?_ ?_
       ·exact q_p fr<|q_p fr<|q_i (q_p fr<|Ae 0 rr)<|Ae 0 rr
       ·exact fun s6=>q_p fr<|Ae 0 rr
       ·exact fun i2 s6=>q_n (Ae 0 rr)<|Ax 0 rr
       ·exact fun s6=>Ar 0 rr
      ·exact fun s7=>q_p fr<|Ae 0 rr
      ·exact fun i3 s7=>Ax 0 rr
      ·exact fun s7=>Ar 0 rr
     ·exact Ax 0 rr
    ·exact fun i4 s8=>q_n (Am (Dl (Aa (Ad rfl) (Aa (Ad rfl) Ah))) rfl)<|A4
    ·exact fun s8=>Am (Dl (Aa (Ad rfl) (Aa (Ad rfl) Ah))) rfl
   ·exact A4
  ·exact fun s2=>Am (Dl (Aa (Ad rfl) (Aa (Ad rfl) Ah))) rfl
def Ri (a0:Str) (a1:Str) (s1:Int×Int):Option (LO (Int×Int)):=bif decide (s1.2 ≥ (wi .i64 ((a0.length:Int) - (a1.length:Int)))) then (Av a0 s1.2).bind fun c1=>some (LO.norm (wi .u32 ((wi .u32 (s1.1 * 16777619)) + (wi .u32 (c1.toNat:Int))),wi .i64 (s1.2 - 1))) else some (LO.exit 0 (s1.1,s1.2))
def Rh (a0:Str) (a1:Str) (y1:Int×Int) (s5:Int×Int×Int):Option (LO (Int×Int×Int)):=bif decide (s5.2.2 ≥ 0) then ( (Av a0 s5.2.2).bind fun c2=>(Av a0 (wi .i64 (s5.2.2 + (a1.length:Int)))).bind fun c3=>bif (wi .u32 ((wi .u32 ((wi .u32 (s5.2.1 * 16777619)) + (wi .u32 (c2.toNat:Int)))) - (wi .u32 (y1.2 * (wi .u32 (c3.toNat:Int)))))) == y1.1 then (EL a0 s5.2.2 (wi .i64 (s5.2.2 + (a1.length:Int)))).bind fun t2=>bif t2 == a1 then some (LO.ret (s5.2.2,wi .u32 ((wi .u32 ((wi .u32 (s5.2.1 * 16777619)) + (wi .u32 (c2.toNat:Int)))) - (wi .u32 (y1.2 * (wi .u32 (c3.toNat:Int))))))) else some (LO.norm (s5.1,wi .u32 ((wi .u32 ((wi .u32 (s5.2.1 * 16777619)) + (wi .u32 (c2.toNat:Int)))) - (wi .u32 (y1.2 * (wi .u32 (c3.toNat:Int))))))) else some (LO.norm (s5.1,wi .u32 ((wi .u32 ((wi .u32 (s5.2.1 * 16777619)) + (wi .u32 (c2.toNat:Int)))) - (wi .u32 (y1.2 * (wi .u32 (c3.toNat:Int)))))))).bind (Ak (fun s7=>some (LO.norm (s7.1,s7.2,wi .i64 (s5.2.2 - 1)))) (fun i3 s7=>some (LO.exit i3 (s7.1,s7.2,s5.2.2))) (fun s7=>some (LO.ret (s7.1,s7.2,s5.2.2)))) else some (LO.exit 2 (s5.1,s5.2.1,s5.2.2))
def dF (a0:Str) (a1:Str):Option (Int):=(dE a1).bind fun y1=>(AB (Ri a0 a1) NN (0,wi .i64 ((a0.length:Int) - 1))).bind (Ak (fun _=>none) (fun i1 s2=>if i1 = 0 then ( bif s2.1 == y1.1 then (EL a0 (wi .i64 ((a0.length:Int) - (a1.length:Int))) (a0.length:Int)).bind fun t1=>bif t1 == a1 then some (LO.ret (wi .i64 ((a0.length:Int) - (a1.length:Int)))) else some (LO.norm 0) else some (LO.norm 0)).bind (Ak (fun s4=>(AB (Rh a0 a1 y1) NN (s4,s2.1,wi .i64 ((wi .i64 ((a0.length:Int) - (a1.length:Int))) - 1))).bind (Ak (fun _=>none) (fun i4 s8=>if i4 = 2 then some (-1) else none) (fun s8=>some s8.1))) (fun i2 s4=>none) (fun s4=>some s4)) else none) (fun s2=>some 0))
theorem w230 {d:Nat} (hd:2≤d) (a0:Str) (a1:Str):Fit (R NN d 230 [AY a0,AY a1] []) (dF a0 a1) PI:=by
  obtain ⟨d,rfl,g⟩:=up hd
  refine AD (t230 NN d _ _) ?_
  unfold kO dF
  refine A7 (aF1 (Ad rfl) fun l0_=>w234 (by omega) a1) fun y1 hy1=>q_q fr<|q_q fr<|DX<|DX<|q_p fr<|DX<|q_p fr<|CU (A:=fun (s:Int×Int)=>[.int .u32 s.1,iW s.2]) (B:=fun s=>[]) 0 rr ?_ ?_ ?_
  ·intro s1
   unfold UA Ri
   exact q_p fr<|q_i (q_p fr<|I6 fun c1 hc1=>q_p (fun _=>Ik _ _)<|q_p fr<|q_p fr<|Ae 0 rr)<|Ax 0 rr
  ·intro i1 s2
   refine q_n ?_ ?_
   ·refine Bo (A:=fun (s:Int)=>[iW s]) (B:=fun s=>[]) ?_ ?_ ?_ ?_
    ·refine q_p fr<|q_k ?_ ?_
     ·exact I7 (.inl rfl) (.inr ⟨rfl,rfl⟩) fun t1 ht1=>q_p (fun _=>JD)<|q_i (Ar 0 rr)<|Ae 0 rr
     ·first | refine CZ ?_ | skip
      exact Ae 0 rr
    ·intro s4
     refine q_p fr<|CU (A:=fun (s:Int×Int×Int)=>[iW s.1,.int .u32 s.2.1,iW s.2.2]) (B:=fun s=>[]) 0 rr ?_ ?_ ?_
     ·intro s5
      unfold U9 Rh
      refine q_p fr<|q_i ?_ ?_
      ·refine Bo (A:=fun (s:Int×Int)=>[iW s.1,.int .u32 s.2]) (B:=fun s=>[]) ?_ ?_ ?_ ?_
       ·refine q_p fr<|I6 fun c2 hc2=>q_p (fun _=>Ik _ _)<|q_p fr<|q_p fr<|I6 fun c3 hc3=>q_p (fun _=>Ik _ _)<|q_p fr<|q_p fr<|q_p fr<|q_k ?_ ?_
        ·exact q_p fr<|I7 (.inl rfl) (.inl rfl) fun t2 ht2=>q_p (fun _=>JD)<|q_i (Ar 0 rr)<|Ae 0 rr
        ·first | refine CZ ?_ | skip
         exact Ae 0 rr
       ·exact fun s7=>q_p fr<|Ae 0 rr
       ·exact fun i3 s7=>Ax 0 rr
       ·exact fun s7=>Ar 0 rr
      ·exact Ax 0 rr
     ·exact fun i4 s8=>q_n (Am (Ad rfl) rfl)<|A4
     ·exact fun s8=>Am (Ad rfl) rfl
    ·exact fun i2 s4=>A4
    ·exact fun s4=>Am (Ad rfl) rfl
   ·exact A4
  ·exact fun s2=>Am (Ad rfl) rfl
def dI (a0:Str) (a1:Str):Option (Int):=bif (a1.length:Int) == 0 then some (a0.length:Int) else bif (a1.length:Int) == 1 then (Av a1 0).bind fun c1=>(dG a0 (c1.toNat:Int)).bind fun y1=>some y1 else bif (a1.length:Int) == (a0.length:Int) then bif a1 == a0 then some 0 else some (-1) else bif decide ((a1.length:Int) > (a0.length:Int)) then some (-1) else (dF a0 a1).bind fun y2=>some y2
theorem w222 {d:Nat} (hd:3≤d) (a0:Str) (a1:Str):Fit (R NN d 222 [AY a0,AY a1] []) (dI a0 a1) PI:=by
  obtain ⟨d,rfl,g⟩:=up hd
  refine AD (t222 NN d _ _) ?_
  unfold kR dI
  exact DX<|q_p fr<|q_i (DX<|Am (Ad rfl) rfl)<|q_p fr<|q_i (I6 fun c1 hc1=>A7 (aF2 (Ad rfl) (Ad rfl) fun l0_ l1_=>w229 (by omega) a0 (c1.toNat:Int)) fun y1 hy1=>Am (Ad rfl) rfl)<|DX<|q_p fr<|q_i (q_p (fun _=>JD)<|q_i (Am (Ad rfl) rfl)<|Am (Ad rfl) rfl)<|DX<|q_p fr<|q_i (Am (Ad rfl) rfl)<|A7 (aF2 (Ad rfl) (Ad rfl) fun l0_ l1_=>w230 (by omega) a0 a1) fun y2 hy2=>Am (Ad rfl) rfl
def Yu (a0:Str):Option (Str×Str):=(dI a0 ([47]:Str)).bind fun y1=>(EL a0 0 (Kq y1 1)).bind fun t1=>(EL a0 (wi .i64 (y1 + 1)) (a0.length:Int)).bind fun t2=>some (t1,t2)
theorem gC {d:Nat} (hd:4≤d) (a0:Str):Fit (R NN d 207 [AY a0] []) (Yu a0) (P0 (fun (t:Str×Str)=>AV.tup [AY t.1,AY t.2])):=by
  obtain ⟨d,rfl,g⟩:=up hd
  refine AD (t207 NN d _) ?_
  unfold kW Yu
  exact A7 (aF2 (Ad rfl) (Ad rfl) fun l0_ l1_=>w222 (by omega) a0 ([47]:Str)) fun y1 hy1=>q_p (fun _=>aJ)<|I7 (.inr ⟨rfl,rfl⟩) (.inl rfl) fun t1 ht1=>q_p fr<|I7 (.inl rfl) (.inr ⟨rfl,rfl⟩) fun t2 ht2=>Am (Dl (Aa (Ad rfl) (Aa (Ad rfl) Ah))) rfl
def Yv (a0:Int):Bool:=(m56 a0 0 9)
theorem gD {d:Nat} (hd:2≤d) (a0:Int):Fit (R NN d 206 [iW a0] []) (some (Yv a0)) PB:=by
  obtain ⟨d,rfl,g⟩:=up hd
  refine AD (t206 NN d _) ?_
  unfold kX Yv
  exact AS (aF3 (Ad rfl) (Ad rfl) (Ad rfl) fun l0_ l1_ l2_=>w56 (by omega) a0 0 9)<|Am (Ad rfl) rfl
def dH (a0:Az):Option (Int):=(Wn a0.Path).bind fun y1=>bif y1 != 0 then some y1 else ( ( bif !(Tu a0.Data) then some (LO.norm true) else bif !(m56 a0.Version 0 999) then some (LO.norm true) else bif !(Yv a0.Owner) then some (LO.norm true) else some (LO.norm (!(m56 a0.Next 0 100)))).bind (Ak (fun s3=>bif s3 then some (LO.ret 3) else some (LO.norm 0)) (fun i1 s3=>some (LO.exit i1 0)) (fun s3=>some (LO.ret 0)))).bind (Ak (fun s4=>some 0) (fun i2 s4=>none) (fun s4=>some s4))
theorem w228 {d:Nat} (hd:5≤d) (k0:Bool) (a0:Az):Fit (R NN d 228 [.agg (Enc.cs k0 a0)] []) (dH a0) PI:=by
  obtain ⟨d,rfl,g⟩:=up hd
  refine AD (t228 NN d _) ?_
  unfold kQ dH
  refine AG (n:=5) rfl rfl (by decide) fun b1=>q_p fr<|Ao 0 rfl rfl<|A7 (aF1 (Ad rfl) fun l0_=>bT (by omega) a0.Path) fun y1 hy1=>q_p fr<|q_i ?_ ?_
  ·exact Am (Ad rfl) rfl
  ·refine Bo (A:=fun (s:Int)=>[iW s]) (B:=fun s=>[bx b1 [AY a0.Path,iW a0.Data,iW a0.Version,iW a0.Owner,iW a0.Next]]) ?_ ?_ ?_ ?_
   ·refine Bo (A:=fun (s:Bool)=>[.bool s]) (B:=fun s=>[bx b1 [AY a0.Path,iW a0.Data,iW a0.Version,iW a0.Owner,iW a0.Next]]) ?_ ?_ ?_ ?_
    ·exact q_p fr<|Ao 0 rfl rfl<|AS (aF1 (Ad rfl) fun l0_=>XP (by omega) a0.Data)<|q_p fr<|q_j (Ae 0 rr)<|q_p fr<|Ao 0 rfl rfl<|AS (aF3 (Ad rfl) (Ad rfl) (Ad rfl) fun l0_ l1_ l2_=>w56 (by omega) a0.Version 0 999)<|q_p fr<|q_j (Ae 0 rr)<|q_p fr<|Ao 0 rfl rfl<|AS (aF1 (Ad rfl) fun l0_=>gD (by omega) a0.Owner)<|q_p fr<|q_j (Ae 0 rr)<|q_p fr<|Ao 0 rfl rfl<|AS (aF3 (Ad rfl) (Ad rfl) (Ad rfl) fun l0_ l1_ l2_=>w56 (by omega) a0.Next 0 100)<|q_p fr<|Ae 0 rr
    ·exact fun s3=>q_i (Ar 0 rr)<|Ae 0 rr
    ·exact fun i1 s3=>Ax 0 rr
    ·exact fun s3=>Ar 0 rr
   ·exact fun s4=>Am (Ad rfl) rfl
   ·exact fun i2 s4=>A4
   ·exact fun s4=>Am (Ad rfl) rfl
end
end Go.Proofs.YthbiabieiopobaaGreatDoor
