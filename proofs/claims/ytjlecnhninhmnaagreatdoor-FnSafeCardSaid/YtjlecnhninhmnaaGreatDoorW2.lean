/- Plain functions, and that the evaluator computes them. -/
import Derived.Test.YtjlecnhninhmnaaGreatDoorW1
namespace Go.Proofs.YtjlecnhninhmnaaGreatDoor
open Go Go.Rf
set_option linter.unusedVariables false
set_option linter.unusedSimpArgs false
noncomputable section
def m37 (a0:Aa) (a1_0:Int) (a1_1_0:Int) (a1_1_1:Int):Option (Ac):=(m22 a0).bind fun y1=>bif y1 != 0 then some (⟨y1,(⟨0,[],[],[],[]⟩:Aa)⟩:Ac) else (m76 a0).bind fun y2=>(m77 y2 a1_0 a1_1_0 a1_1_1).bind fun y3=>bif y3.1 != 0 then some (⟨y3.1,(⟨0,[],[],[],[]⟩:Aa)⟩:Ac) else (m76 y3.2).bind fun y4=>some (⟨0,y4⟩:Ac)
theorem w37 {d:Nat} (hd:144≤d) (k0:Bool) (a0:Aa) (k1_0:Bool) (a1_0:Int) (k1_1:Bool) (k1_1_0:Bool) (a1_1_0:Int) (k1_1_1:Bool) (a1_1_1:Int):Fit (R NN d 37 [.agg (Enc.cs k0 a0),.fn 77 [.rp k1_0 (Enc.cs k1_0 a1_0),.rp k1_1 [.fn 79 [.rp k1_1_0 (Enc.cs k1_1_0 a1_1_0),.rp k1_1_1 (Enc.cs k1_1_1 a1_1_1)]]]] []) (m37 a0 a1_0 a1_1_0 a1_1_1) (P1 (T:=Ac) AV.agg):=by
  obtain ⟨d,rfl,g⟩:=up hd
  refine A8 (t37 NN d _ _) ?_
  unfold b37 m37
  refine AD (n:=5) rfl rfl (by decide) fun b1=>AT rfl fun b2=>AB 1 rfl rfl rfl<|A5 (aF1 (AS (Ar (l0:=k0) (x:=a0))) fun l0_=>w22 (by omega) l0_ a0) fun y1 hy1=>q_p fr<|q_i ?_ ?_
  ·exact q_p (fun _=>CQ rfl)<|AN 0 rfl rfl rfl (by decide) rfl<|Bi (fun S hS=>hS.lda 0 rfl rfl) (Bf (α:=Ac) (β:=Int×Aa) (f:=fun x=>(x.Code,x.Cluster)) (x:=(⟨y1,(⟨0,[],[],[],[]⟩:Aa)⟩:Ac)) rfl (An (AH (n:=y1)) (Bf (α:=Aa) (β:=Int×(List Int)×(List Af)×(List Ah)×(List Ag)) (f:=fun x=>(x.F,x.Bad,x.Replicas,x.Ledger,x.Requests)) (x:=(⟨0,[],[],[],[]⟩:Aa)) rfl (An (AH (n:=0)) (An (A4 (α:=Int) (fl:=true)) (An (A4 (α:=Af) (fl:=true)) (An (A4 (α:=Ah) (fl:=true)) (A4 (α:=Ag) (fl:=true))))))))) rfl
  ·refine AB 1 rfl rfl rfl<|I6 (mg:=m76 a0) (aF1 (AS (Ar (l0:=k0) (x:=a0))) fun l0_=>w76 (by omega) l0_ a0) fun y2 hy2 i1 cs1 hq_=>EE (fun S hS=>E8 (hS.get (k:=0) rfl)) fun hcs_=>?_
   obtain ⟨v1,v2,v3,v4,rfl⟩:=hcs_
   refine I3 (x:=(y2.F,y2.Bad,y2.Replicas,y2.Ledger,y2.Requests)) hq_ rfl (fun _ h=>h) fun i2 i3 i4 i5=>AT rfl fun b3=>AN 0 rfl rfl rfl (by decide) rfl<|DL (mg:=m77 y2 a1_0 a1_1_0 a1_1_1) (fun S=>ZA _ _ _ _) (w77 (by omega) _ b3 i2 i3 i4 i5 v1 v2 v3 v4 y2 k1_0 a1_0 k1_1 k1_1_0 a1_1_0 k1_1_1 a1_1_1) fun y3 hy3 ⟨i6,i7,v5,v6⟩=>q_p fr<|q_i ?_ ?_
   ·exact q_p (fun _=>CQ rfl)<|AN 5 rfl rfl rfl (by decide) rfl<|Bi (fun S hS=>hS.lda 5 rfl rfl) (Bf (α:=Ac) (β:=Int×Aa) (f:=fun x=>(x.Code,x.Cluster)) (x:=(⟨y3.1,(⟨0,[],[],[],[]⟩:Aa)⟩:Ac)) rfl (An (AH (n:=y3.1)) (Bf (α:=Aa) (β:=Int×(List Int)×(List Af)×(List Ah)×(List Ag)) (f:=fun x=>(x.F,x.Bad,x.Replicas,x.Ledger,x.Requests)) (x:=(⟨0,[],[],[],[]⟩:Aa)) rfl (An (AH (n:=0)) (An (A4 (α:=Int) (fl:=true)) (An (A4 (α:=Af) (fl:=true)) (An (A4 (α:=Ah) (fl:=true)) (A4 (α:=Ag) (fl:=true))))))))) rfl
   ·refine AB 0 rfl rfl rfl<|Gq (W:=AV.agg) (mg:=m76 y3.2) CY (aF1 (AS (Ab (Ae rfl) (Ab (CU 1 rfl) (Ab (CU 2 rfl) (Ab (CG (α:=Ah) 3 rfl) (Ab (EG (α:=Ag) 4 rfl) Ao)))))) fun l0_=>NH (by omega) l0_ y3.2) fun y4 hy4 i8 cs2=>EE (fun S hS=>E8 (hS.get (k:=0) rfl)) fun hcs_=>?_
    obtain ⟨v7,v8,v9,v10,rfl⟩:=hcs_
    exact q_p (fun _=>FL rfl)<|AN 6 rfl rfl rfl (by decide) rfl<|Bi (fun S hS=>hS.lda 6 rfl rfl) (Bf (α:=Ac) (β:=Int×Aa) (f:=fun x=>(x.Code,x.Cluster)) (x:=(⟨0,y4⟩:Ac)) rfl (An (AH (n:=0)) (Do 0 rfl))) rfl
def m40 (a0:Aa) (a1:Int) (a2_0:Int) (a2_1:Int):Option (Ac):=(m37 a0 a1 a2_0 a2_1).bind fun y1=>some y1
theorem w40 {d:Nat} (hd:156≤d) (k0:Bool) (a0:Aa) (a1:Int) (k2_0:Bool) (a2_0:Int) (k2_1:Bool) (a2_1:Int):Fit (R NN d 40 [.agg (Enc.cs k0 a0),iW a1,.fn 79 [.rp k2_0 (Enc.cs k2_0 a2_0),.rp k2_1 (Enc.cs k2_1 a2_1)]] []) (m40 a0 a1 a2_0 a2_1) (P1 (T:=Ac) AV.agg):=by
  obtain ⟨d,rfl,g⟩:=up hd
  refine A8 (t40 NN d _ _ _) ?_
  unfold b40 m40
  refine AD (n:=5) rfl rfl (by decide) fun b1=>AD (n:=1) rfl rfl (by decide) fun b2=>AD (n:=1) rfl rfl (by decide) fun b3=>AT rfl fun b4=>AB 3 rfl rfl rfl<|Gq (W:=AV.agg) (mg:=m37 a0 a1 a2_0 a2_1) CY (aF2 (AS (Ar (l0:=k0) (x:=a0))) (BJ (Ab (Bv 2 rfl (Ar (l0:=false) (x:=a1))) (Ab (Bv 1 rfl (Ab (BJ (Ab (Bc (Ar (l0:=k2_0) (x:=a2_0)) (fun _ _ _ h=>Enc.frz k2_0 a2_0 _ _ _ h)) (Ab (Bc (Ar (l0:=k2_1) (x:=a2_1)) (fun _ _ _ h=>Enc.frz k2_1 a2_1 _ _ _ h)) Ao))) Ao)) Ao))) fun l0_ l1_=>w37 (by omega) l0_ a0 l1_ a1 l1_ l1_ a2_0 l1_ a2_1) fun y1 hy1 i1 cs1=>EE (fun S hS=>K5 (hS.get (k:=0) rfl)) fun hcs_=>?_
  obtain ⟨v1,v2,v3,v4,rfl⟩:=hcs_
  exact AN 1 rfl rfl rfl (by decide) rfl<|Bi (fun S hS=>hS.lda 1 rfl rfl) (Do 0 rfl) rfl
theorem w40f {d:Nat} (hd:156≤d) (k0:Bool) (a0:Aa) (a1:Int) (k2_0:Bool) (a2_0:Int) (k2_1:Bool) (a2_1:Int):Fit (R NN d 40 [.agg (Enc.cs k0 a0),iW a1,.fn 79 [.rp k2_0 (Enc.cs k2_0 a2_0),.rp k2_1 (Enc.cs k2_1 a2_1)]] []) (m40 a0 a1 a2_0 a2_1) (P0 (fun (t:Ac)=>AV.agg (Enc.cs false t))):=Ff (w40 hd k0 a0 a1 k2_0 a2_0 k2_1 a2_1)
def m41 (a0:Int) (a1:Int):Int×Int:=(a0,a1)
theorem w41 {d:Nat} (hd:10≤d) (a0:Int) (a1:Int):Fit (R NN d 41 [iW a0,iW a1] []) (some (m41 a0 a1)) (P0 (fun (t:Int×Int)=>AV.fn 79 [.rp false (Enc.cs false t.1),.rp false (Enc.cs false t.2)])):=by
  obtain ⟨d,rfl,g⟩:=up hd
  refine A8 (t41 NN d _ _) ?_
  unfold b41 m41
  exact AD (n:=1) rfl rfl (by decide) fun b1=>AD (n:=1) rfl rfl (by decide) fun b2=>Ak (BJ (Ab (LX 1 rfl rfl) (Ab (LX 0 rfl rfl) Ao))) rfl
def m14 (a0:Aa) (a1:Int) (a2:Int) (a3:Int):Option (Ac):=(m40 a0 a1 ((m41 a2 a3).1) ((m41 a2 a3).2)).bind fun y1=>some y1
theorem w14 {d:Nat} (hd:167≤d) (k0:Bool) (a0:Aa) (a1:Int) (a2:Int) (a3:Int):Fit (R NN d 14 [.agg (Enc.cs k0 a0),iW a1,iW a2,iW a3] []) (m14 a0 a1 a2 a3) (P0 (fun (t:Ac)=>AV.agg (Enc.cs false t))):=by
  obtain ⟨d,rfl,g⟩:=up hd
  refine A8 (t14 NN d _ _ _ _) ?_
  unfold b14 m14
  exact AD (n:=5) rfl rfl (by decide) fun b1=>AT rfl fun b2=>AB 1 rfl rfl rfl<|AA (aF2 (Ae rfl) (Ae rfl) fun l0_ l1_=>w41 (by omega) a2 a3)<|A5 (aF3 (AS (Ar (l0:=k0) (x:=a0))) (Ae rfl) (BJ (Ab (Bc (Ar (l0:=false) (x:=(m41 a2 a3).1)) (fun _ _ _ h=>Enc.frz false ((m41 a2 a3).1) _ _ _ h)) (Ab (Bc (Ar (l0:=false) (x:=(m41 a2 a3).2)) (fun _ _ _ h=>Enc.frz false ((m41 a2 a3).2) _ _ _ h)) Ao))) fun l0_ l1_ l2_=>w40f (by omega) l0_ a0 a1 l2_ ((m41 a2 a3).1) l2_ ((m41 a2 a3).2)) fun y1 hy1=>AN 0 rfl rfl rfl (by decide) rfl<|CZ (fun S hS=>hS.lda 0 rfl rfl) (AS (Ar (l0:=false) (x:=y1))) rfl
def Xf (a0:Int) (a1:List Ah) (a2:Int) (a3:Int):Option (Bool):=bif !(m63 a2 0 (wi .i64 ((a1.length:Int) - 1))) then some false else (Aq a1 a2).bind fun x1=>( bif x1.Kind != 1 then some (LO.ret false) else (NY a0 x1.View).bind fun y1=>bif x1.From != y1 then some (LO.ret false) else some (LO.norm false)).bind (Ai (fun s2=>bif x1.View == 0 then bif a3 == (-1) then some (decide (x1.Value > 0)) else some false else ( (m93 a0 a1 a3).bind fun y2=>bif !y2 then some (LO.ret false) else (Aq a1 a3).bind fun x2=>bif x2.View != x1.View then some (LO.ret false) else some (LO.norm s2)).bind (Ai (fun s4=>(Aq a1 a3).bind fun x3=>(Un a1 x3.Refs).bind fun y3=>bif decide (x1.Slot≤(y3.length:Int)) then (Aq y3 (wi .i64 (x1.Slot - 1))).bind fun x4=>some (x1.Value == x4) else some (decide (x1.Value > 0))) (fun i2 s4=>none) (fun s4=>some s4))) (fun i1 s2=>none) (fun s2=>some s2))
theorem w131 {d:Nat} (hd:142≤d) (a0:Int) (k1:Bool) (a1:List Ah) (a2:Int) (a3:Int):Fit (R NN d 131 [iW a0,.rsl k1 false (a1.map (Enc.cs k1)),iW a2,iW a3] []) (Xf a0 a1 a2 a3) PB:=by
  obtain ⟨d,rfl,g⟩:=up hd
  refine A8 (t131 NN d _ _ _ _) ?_
  unfold nU Xf
  refine A7<|q_p fr<|AA (aF3 (Ae rfl) (Ae rfl) (Ae rfl) fun l0_ l1_ l2_=>w63 (by omega) a2 0 (wi .i64 ((a1.length:Int) - 1)))<|q_p fr<|q_i ?_ ?_
  ·exact Ak (Ae rfl) rfl
  ·refine Bd rfl fun x1 hx1=>q_p fr<|AT rfl fun b1=>AN 0 rfl rfl rfl (by decide) rfl<|AY (A:=fun (s:Bool)=>[.bool s]) (B:=fun s=>[bx b1 [iW x1.Kind,iW x1.View,iW x1.From,iW x1.Slot,iW x1.Value,.rsl k1 false (x1.Certs.map (Enc.cs k1)),.rsl k1 false (x1.Refs.map (Enc.cs k1))]]) ?_ ?_ ?_ ?_
   ·refine q_p fr<|Au 0 rfl rfl<|q_p fr<|q_j ?_ ?_
    ·first | refine BL ?_ | skip
     exact Am 0 rr
    ·exact q_p fr<|Au 0 rfl rfl<|q_p fr<|Au 0 rfl rfl<|A5 (aF2 (Ae rfl) (Ae rfl) fun l0_ l1_=>YD (by omega) a0 x1.View) fun y1 hy1=>q_p fr<|q_i (Am 0 rr)<|Ad 0 rr
   ·intro s2
    refine q_p fr<|Au 0 rfl rfl<|q_p fr<|q_i ?_ ?_
    ·exact q_p fr<|q_k (q_p fr<|Au 0 rfl rfl<|q_p fr<|Ak (Ae rfl) rfl)<|Ak (Ae rfl) rfl
    ·refine AY (A:=fun (s:Bool)=>[.bool s]) (B:=fun s=>[bx b1 [iW x1.Kind,iW x1.View,iW x1.From,iW x1.Slot,iW x1.Value,.rsl k1 false (x1.Certs.map (Enc.cs k1)),.rsl k1 false (x1.Refs.map (Enc.cs k1))]]) ?_ ?_ ?_ ?_
     ·refine A5 (aF3 (Ae rfl) A3 (Ae rfl) fun l0_ l1_ l2_=>w93 (by omega) a0 l1_ a1 a3) fun y2 hy2=>q_p fr<|q_j ?_ ?_
      ·first | refine BL ?_ | skip
       exact Am 0 rr
      ·exact Bd rfl fun x2 hx2=>q_p fr<|q_p fr<|q_p fr<|Au 0 rfl rfl<|q_p fr<|q_i (Am 0 rr)<|Ad 0 rr
     ·exact fun s4=>Bd rfl fun x3 hx3=>q_p fr<|q_p fr<|A5 (aF2 A3 A3 fun l0_ l1_=>iE (by omega) l0_ a1 l1_ x3.Refs) fun y3 hy3=>q_p fr<|Au 0 rfl rfl<|A7<|q_p fr<|q_i (q_p fr<|Au 0 rfl rfl<|q_p fr<|Au 0 rfl rfl<|q_p fr<|Bd rfl fun x4 hx4=>q_p fr<|q_p fr<|Ak (Ae rfl) rfl)<|q_p fr<|Au 0 rfl rfl<|q_p fr<|Ak (Ae rfl) rfl
     ·exact fun i2 s4=>As
     ·exact fun s4=>Ak (Ae rfl) rfl
   ·exact fun i1 s2=>As
   ·exact fun s2=>Ak (Ae rfl) rfl
def m84 (a0:Af) (a1:Int) (a2:List Ah) (a3:Int):Option (Int):=( (Xf a1 a2 a3 a0.Start).bind fun y1=>bif !y1 then some (LO.ret 1) else (Aq a2 a3).bind fun x1=>bif x1.View != a0.View then some (LO.ret 1) else some (LO.norm 0)).bind (Ai (fun s2=>(Aq a2 a3).bind fun x2=>(Pj a0 a2 2 x2.Slot).bind fun y2=>bif y2 then some 6 else some 0) (fun i1 s2=>none) (fun s2=>some s2))
theorem w84 {d:Nat} (hd:143≤d) (k0:Bool) (a0:Af) (a1:Int) (k2:Bool) (a2:List Ah) (a3:Int):Fit (R NN d 84 [.rp k0 (Enc.cs k0 a0),iW a1,.rsl k2 false (a2.map (Enc.cs k2)),iW a3] []) (m84 a0 a1 a2 a3) PI:=by
  obtain ⟨d,rfl,g⟩:=up hd
  refine A8 (t84 NN d _ _ _ _) ?_
  unfold b84 m84
  refine AY (A:=fun (s:Int)=>[iW s]) (B:=fun s=>[]) ?_ ?_ ?_ ?_
  ·refine q_q fr<|q_p fr<|q_p fr<|A5 (fun S hS=>ET (Ae rfl) A3 (Ae rfl) (Ae rfl) hS fun l0_ l1_ l2_ l3_=>w131 (by omega) a1 l1_ a2 a3 a0.Start) fun y1 hy1=>q_p fr<|q_j ?_ ?_
   ·first | refine BL ?_ | skip
    exact Am 0 rr
   ·exact Bd rfl fun x1 hx1=>q_p fr<|q_p fr<|q_q fr<|q_p fr<|q_p fr<|q_p fr<|q_i (Am 0 rr)<|Ad 0 rr
  ·exact fun s2=>Bd rfl fun x2 hx2=>q_p fr<|q_p fr<|A5 (fun S hS=>ET (Bc (Ar (l0:=k0) (x:=a0)) (fun _ _ _ h=>Enc.frz k0 a0 _ _ _ h)) A3 (Ae rfl) (Ae rfl) hS fun l0_ l1_ l2_ l3_=>YC (by omega) l0_ a0 l1_ a2 2 x2.Slot) fun y2 hy2=>q_i (Ak (Ae rfl) rfl)<|Ak (Ae rfl) rfl
  ·exact fun i1 s2=>As
  ·exact fun s2=>Ak (Ae rfl) rfl
def m83 (a0:Aa) (a1:Int) (a2:Int):Option (Int×Aa):=(Aq a0.Replicas a1).bind fun x1=>(m84 x1 a0.F a0.Ledger a2).bind fun y1=>bif y1 != 0 then some (y1,a0) else (Aq a0.Ledger a2).bind fun x2=>bif !(m81 a0 x2.Value) then some (4,a0) else (m82 a0 a1 2 x2.Slot x2.Value).bind fun y2=>some (y2.1,y2.2)
theorem w83 {d:Nat} (hd:144≤d) (L0:List En) (b0_:Nat) (i0_1 i0_2 i0_3 i0_4:List Nat) (v0_1 v0_2 v0_3 v0_4:AV) (a0:Aa) (a1:Int) (k2:Bool) (a2:Int):Okh (bx b0_ [iW a0.F,v0_1,v0_2,v0_3,v0_4]::tr i0_1 [v0_1] (a0.Bad:List Int)::tr i0_2 [v0_2] (a0.Replicas:List Af)::wls i0_3 v0_3 (a0.Ledger:List Ah)::wla i0_4 v0_4 (a0.Requests:List Ag)::L0) (fun S=>R NN d 83 [.bp b0_ 0 0 5 1,elP 4 v0_2 (Int.toNat a1),.rp k2 (Enc.cs k2 a2)] S) (m83 a0 a1 a2) (P5 (fun (x:List Nat×List Nat×AV×AV) (t:Int×Aa)=>AV.int .i64 t.1) (fun (x:List Nat×List Nat×AV×AV) (t:Int×Aa)=>bx b0_ [iW t.2.F,v0_1,v0_2,x.2.2.1,x.2.2.2]::tr i0_1 [v0_1] (t.2.Bad:List Int)::tr i0_2 [v0_2] (t.2.Replicas:List Af)::wls x.1 x.2.2.1 (t.2.Ledger:List Ah)::wla x.2.1 x.2.2.2 (t.2.Requests:List Ag)::L0)):=by
  obtain ⟨d,rfl,g⟩:=up hd
  refine D9 (t83 NN d _ _ _) ?_
  unfold b83 m83
  refine q_q fr<|q_p fr<|Au 0 rfl rfl<|q_q fr<|q_p fr<|Au 0 rfl rfl<|q_p fr<|BZ fun x1 hx1=>A5 (fun S hS=>ET (PT 2 rfl rfl hx1) (Ae rfl) (CG (α:=Ah) 3 rfl) (Ae rfl) hS fun l0_ l1_ l2_ l3_=>w84 (by omega) l0_ x1 a0.F l2_ a0.Ledger a2) fun y1 hy1=>q_p fr<|q_i ?_ ?_
  ·exact AX (i0_3,i0_4,v0_3,v0_4) 0 rfl rfl
  ·refine AT rfl fun b1=>q_q fr<|q_p fr<|Au 1 rfl rfl<|q_p fr<|bH 4 rfl rfl fun x2 hx2=>dY 4 rfl rfl hx2 fun cs1 hcs_ hcs2_=>?_
   obtain ⟨v1,v2,rfl⟩:=j5 hcs_ hcs2_
   exact AN 0 rfl rfl rfl (by decide) rfl<|q_p fr<|Au 0 rfl rfl<|AA (aF2 (Bv 1 rfl (Ab (Ae rfl) (Ab (CU 2 rfl) (Ab (CU 3 rfl) (Ab (CG (α:=Ah) 4 rfl) (Ab (EG (α:=Ag) 5 rfl) Ao)))))) (Ae rfl) fun l0_ l1_=>w81 (by omega) l0_ a0 x2.Value)<|q_p fr<|q_i (AX (i0_3,i0_4,v0_3,v0_4) 1 rfl rfl)<|q_p fr<|Au 0 rfl rfl<|q_p fr<|Au 0 rfl rfl<|Dx 6 [1,2,3,4,5,0] (by decide) (by decide)<|DL (mg:=m82 a0 a1 2 x2.Slot x2.Value) (fun S=>rfl) (w82 (by omega) _ b0_ i0_1 i0_2 i0_3 i0_4 v0_1 v0_2 v0_3 v0_4 a0 a1 2 x2.Slot x2.Value) fun y2 hy2 ⟨i1,i2,v3,v4⟩=>Dx 6 [5,0,1,2,3,4] (by decide) (by decide)<|AX (i1,i2,v3,v4) 1 rfl rfl
def m42 (a0:Int):Int:=a0
theorem w42 {d:Nat} (hd:145≤d) (a0:Int):Fit (R NN d 42 [iW a0] []) (some (m42 a0)) (P0 (fun (t:Int)=>AV.fn 83 [.rp false (Enc.cs false t)])):=by
  obtain ⟨d,rfl,g⟩:=up hd
  refine A8 (t42 NN d _) ?_
  unfold b42 m42
  exact AD (n:=1) rfl rfl (by decide) fun b1=>Ak (BJ (Ab (LX 0 rfl rfl) Ao)) rfl
def L9 (a0:Aa) (a1:Int) (a2_0:Int):Option (Int×Aa):=(G4 a0 a1).bind fun y1=>HW y1 ( some (4,a0)) fun r1=>(Aq a0.Replicas r1).bind fun x2=>(m83 a0 r1 a2_0).bind fun y2=>some (y2.1,y2.2)
theorem c7 {d:Nat} (hd:145≤d) (L0:List En) (b0_:Nat) (i0_1 i0_2 i0_3 i0_4:List Nat) (v0_1 v0_2 v0_3 v0_4:AV) (a0:Aa) (a1:Int) (k2_0:Bool) (a2_0:Int):Okh (bx b0_ [iW a0.F,v0_1,v0_2,v0_3,v0_4]::tr i0_1 [v0_1] (a0.Bad:List Int)::tr i0_2 [v0_2] (a0.Replicas:List Af)::wls i0_3 v0_3 (a0.Ledger:List Ah)::wla i0_4 v0_4 (a0.Requests:List Ag)::L0) (fun S=>R NN d 78 [.bp b0_ 0 0 5 1,iW a1,.fn 83 [.rp k2_0 (Enc.cs k2_0 a2_0)]] S) (L9 a0 a1 a2_0) (P5 (fun (x:List Nat×List Nat×AV×AV) (t:Int×Aa)=>AV.int .i64 t.1) (fun (x:List Nat×List Nat×AV×AV) (t:Int×Aa)=>bx b0_ [iW t.2.F,v0_1,v0_2,x.2.2.1,x.2.2.2]::tr i0_1 [v0_1] (t.2.Bad:List Int)::tr i0_2 [v0_2] (t.2.Replicas:List Af)::wls x.1 x.2.2.1 (t.2.Ledger:List Ah)::wla x.2.1 x.2.2.2 (t.2.Requests:List Ag)::L0)):=by
  obtain ⟨d,rfl,g⟩:=up hd
  refine D9 (t78 NN d _ _ _) ?_
  unfold b78 L9
  refine KE (mg:=G4 a0 a1) (v0:=fun _=>AV.nilp) (v1:=fun x r=>elP 4 v0_2 (Int.toNat r)) (fun _=>rfl) (fun _ _=>rfl) (Qo (by omega) _ b0_ i0_1 i0_2 i0_3 i0_4 v0_1 v0_2 v0_3 v0_4 a0 a1) (fun x1=>?_) (fun r1 x1 hy1=>?_)
  ·refine q_p (fun _=>Gu) ?_
   first | refine BL ?_ | skip
   exact AX (i0_3,i0_4,v0_3,v0_4) 0 rfl rfl
  ·refine BZ fun x2 hx2=>QA (f:=fun a=>Ec Tryz.prog .eql 53 a .nilp) 2 rfl hx2 (fun _ _ _ _ _=>Gv _ _ _ _ _) ?_
   first | refine Dy ?_ | skip
   exact DL (mg:=m83 a0 r1 a2_0) (fun S=>Rm _ _ _ _) (w83 (by omega) _ b0_ i0_1 i0_2 i0_3 i0_4 v0_1 v0_2 v0_3 v0_4 a0 r1 k2_0 a2_0) fun y2 hy2 ⟨i1,i2,v1,v2⟩=>AX (i1,i2,v1,v2) 0 rfl rfl
def LA (a0:Aa) (a1:Int) (a2_0:Int):Option (Int×Aa):=(L9 a0 a1 a2_0).bind fun y1=>some (y1.1,y1.2)
theorem c8 {d:Nat} (hd:146≤d) (L0:List En) (b0_:Nat) (i0_1 i0_2 i0_3 i0_4:List Nat) (v0_1 v0_2 v0_3 v0_4:AV) (a0:Aa) (k1:Bool) (a1:Int) (k2:Bool) (k2_0:Bool) (a2_0:Int):Okh (bx b0_ [iW a0.F,v0_1,v0_2,v0_3,v0_4]::tr i0_1 [v0_1] (a0.Bad:List Int)::tr i0_2 [v0_2] (a0.Replicas:List Af)::wls i0_3 v0_3 (a0.Ledger:List Ah)::wla i0_4 v0_4 (a0.Requests:List Ag)::L0) (fun S=>R NN d 77 [.bp b0_ 0 0 5 1,.rp k1 (Enc.cs k1 a1),.rp k2 [.fn 83 [.rp k2_0 (Enc.cs k2_0 a2_0)]]] S) (LA a0 a1 a2_0) (P5 (fun (x:List Nat×List Nat×AV×AV) (t:Int×Aa)=>AV.int .i64 t.1) (fun (x:List Nat×List Nat×AV×AV) (t:Int×Aa)=>bx b0_ [iW t.2.F,v0_1,v0_2,x.2.2.1,x.2.2.2]::tr i0_1 [v0_1] (t.2.Bad:List Int)::tr i0_2 [v0_2] (t.2.Replicas:List Af)::wls x.1 x.2.2.1 (t.2.Ledger:List Ah)::wla x.2.1 x.2.2.2 (t.2.Requests:List Ag)::L0)):=by
  obtain ⟨d,rfl,g⟩:=up hd
  refine D9 (t77 NN d _ _ _) ?_
  unfold b77 LA
  exact q_p fr<|q_p fr<|DL (mg:=L9 a0 a1 a2_0) (fun S=>rfl) (c7 (by omega) _ b0_ i0_1 i0_2 i0_3 i0_4 v0_1 v0_2 v0_3 v0_4 a0 a1 k2_0 a2_0) fun y1 hy1 ⟨i1,i2,v1,v2⟩=>AX (i1,i2,v1,v2) 0 rfl rfl
def LD (a0:Aa) (a1_0:Int) (a1_1_0:Int):Option (Ac):=(m22 a0).bind fun y1=>bif y1 != 0 then some (⟨y1,(⟨0,[],[],[],[]⟩:Aa)⟩:Ac) else (m76 a0).bind fun y2=>(LA y2 a1_0 a1_1_0).bind fun y3=>bif y3.1 != 0 then some (⟨y3.1,(⟨0,[],[],[],[]⟩:Aa)⟩:Ac) else (m76 y3.2).bind fun y4=>some (⟨0,y4⟩:Ac)
theorem dB {d:Nat} (hd:147≤d) (k0:Bool) (a0:Aa) (k1_0:Bool) (a1_0:Int) (k1_1:Bool) (k1_1_0:Bool) (a1_1_0:Int):Fit (R NN d 37 [.agg (Enc.cs k0 a0),.fn 77 [.rp k1_0 (Enc.cs k1_0 a1_0),.rp k1_1 [.fn 83 [.rp k1_1_0 (Enc.cs k1_1_0 a1_1_0)]]]] []) (LD a0 a1_0 a1_1_0) (P1 (T:=Ac) AV.agg):=by
  obtain ⟨d,rfl,g⟩:=up hd
  refine A8 (t37 NN d _ _) ?_
  unfold b37 LD
  refine AD (n:=5) rfl rfl (by decide) fun b1=>AT rfl fun b2=>AB 1 rfl rfl rfl<|A5 (aF1 (AS (Ar (l0:=k0) (x:=a0))) fun l0_=>w22 (by omega) l0_ a0) fun y1 hy1=>q_p fr<|q_i ?_ ?_
  ·exact q_p (fun _=>CQ rfl)<|AN 0 rfl rfl rfl (by decide) rfl<|Bi (fun S hS=>hS.lda 0 rfl rfl) (Bf (α:=Ac) (β:=Int×Aa) (f:=fun x=>(x.Code,x.Cluster)) (x:=(⟨y1,(⟨0,[],[],[],[]⟩:Aa)⟩:Ac)) rfl (An (AH (n:=y1)) (Bf (α:=Aa) (β:=Int×(List Int)×(List Af)×(List Ah)×(List Ag)) (f:=fun x=>(x.F,x.Bad,x.Replicas,x.Ledger,x.Requests)) (x:=(⟨0,[],[],[],[]⟩:Aa)) rfl (An (AH (n:=0)) (An (A4 (α:=Int) (fl:=true)) (An (A4 (α:=Af) (fl:=true)) (An (A4 (α:=Ah) (fl:=true)) (A4 (α:=Ag) (fl:=true))))))))) rfl
  ·refine AB 1 rfl rfl rfl<|I6 (mg:=m76 a0) (aF1 (AS (Ar (l0:=k0) (x:=a0))) fun l0_=>w76 (by omega) l0_ a0) fun y2 hy2 i1 cs1 hq_=>EE (fun S hS=>E8 (hS.get (k:=0) rfl)) fun hcs_=>?_
   obtain ⟨v1,v2,v3,v4,rfl⟩:=hcs_
   refine I3 (x:=(y2.F,y2.Bad,y2.Replicas,y2.Ledger,y2.Requests)) hq_ rfl (fun _ h=>h) fun i2 i3 i4 i5=>AT rfl fun b3=>AN 0 rfl rfl rfl (by decide) rfl<|DL (mg:=LA y2 a1_0 a1_1_0) (fun S=>MD _ _ _ _) (c8 (by omega) _ b3 i2 i3 i4 i5 v1 v2 v3 v4 y2 k1_0 a1_0 k1_1 k1_1_0 a1_1_0) fun y3 hy3 ⟨i6,i7,v5,v6⟩=>q_p fr<|q_i ?_ ?_
   ·exact q_p (fun _=>CQ rfl)<|AN 5 rfl rfl rfl (by decide) rfl<|Bi (fun S hS=>hS.lda 5 rfl rfl) (Bf (α:=Ac) (β:=Int×Aa) (f:=fun x=>(x.Code,x.Cluster)) (x:=(⟨y3.1,(⟨0,[],[],[],[]⟩:Aa)⟩:Ac)) rfl (An (AH (n:=y3.1)) (Bf (α:=Aa) (β:=Int×(List Int)×(List Af)×(List Ah)×(List Ag)) (f:=fun x=>(x.F,x.Bad,x.Replicas,x.Ledger,x.Requests)) (x:=(⟨0,[],[],[],[]⟩:Aa)) rfl (An (AH (n:=0)) (An (A4 (α:=Int) (fl:=true)) (An (A4 (α:=Af) (fl:=true)) (An (A4 (α:=Ah) (fl:=true)) (A4 (α:=Ag) (fl:=true))))))))) rfl
   ·refine AB 0 rfl rfl rfl<|Gq (W:=AV.agg) (mg:=m76 y3.2) CY (aF1 (AS (Ab (Ae rfl) (Ab (CU 1 rfl) (Ab (CU 2 rfl) (Ab (CG (α:=Ah) 3 rfl) (Ab (EG (α:=Ag) 4 rfl) Ao)))))) fun l0_=>NH (by omega) l0_ y3.2) fun y4 hy4 i8 cs2=>EE (fun S hS=>E8 (hS.get (k:=0) rfl)) fun hcs_=>?_
    obtain ⟨v7,v8,v9,v10,rfl⟩:=hcs_
    exact q_p (fun _=>FL rfl)<|AN 6 rfl rfl rfl (by decide) rfl<|Bi (fun S hS=>hS.lda 6 rfl rfl) (Bf (α:=Ac) (β:=Int×Aa) (f:=fun x=>(x.Code,x.Cluster)) (x:=(⟨0,y4⟩:Ac)) rfl (An (AH (n:=0)) (Do 0 rfl))) rfl
def LC (a0:Aa) (a1:Int) (a2_0:Int):Option (Ac):=(LD a0 a1 a2_0).bind fun y1=>some y1
theorem c9 {d:Nat} (hd:294≤d) (k0:Bool) (a0:Aa) (a1:Int) (k2_0:Bool) (a2_0:Int):Fit (R NN d 40 [.agg (Enc.cs k0 a0),iW a1,.fn 83 [.rp k2_0 (Enc.cs k2_0 a2_0)]] []) (LC a0 a1 a2_0) (P1 (T:=Ac) AV.agg):=by
  obtain ⟨d,rfl,g⟩:=up hd
  refine A8 (t40 NN d _ _ _) ?_
  unfold b40 LC
  refine AD (n:=5) rfl rfl (by decide) fun b1=>AD (n:=1) rfl rfl (by decide) fun b2=>AD (n:=1) rfl rfl (by decide) fun b3=>AT rfl fun b4=>AB 3 rfl rfl rfl<|Gq (W:=AV.agg) (mg:=LD a0 a1 a2_0) CY (aF2 (AS (Ar (l0:=k0) (x:=a0))) (BJ (Ab (Bv 2 rfl (Ar (l0:=false) (x:=a1))) (Ab (Bv 1 rfl (Ab (BJ (Ab (Bc (Ar (l0:=k2_0) (x:=a2_0)) (fun _ _ _ h=>Enc.frz k2_0 a2_0 _ _ _ h)) Ao)) Ao)) Ao))) fun l0_ l1_=>dB (by omega) l0_ a0 l1_ a1 l1_ l1_ a2_0) fun y1 hy1 i1 cs1=>EE (fun S hS=>K5 (hS.get (k:=0) rfl)) fun hcs_=>?_
  obtain ⟨v1,v2,v3,v4,rfl⟩:=hcs_
  exact AN 1 rfl rfl rfl (by decide) rfl<|Bi (fun S hS=>hS.lda 1 rfl rfl) (Do 0 rfl) rfl
theorem YA {d:Nat} (hd:294≤d) (k0:Bool) (a0:Aa) (a1:Int) (k2_0:Bool) (a2_0:Int):Fit (R NN d 40 [.agg (Enc.cs k0 a0),iW a1,.fn 83 [.rp k2_0 (Enc.cs k2_0 a2_0)]] []) (LC a0 a1 a2_0) (P0 (fun (t:Ac)=>AV.agg (Enc.cs false t))):=Ff (c9 hd k0 a0 a1 k2_0 a2_0)
def m15 (a0:Aa) (a1:Int) (a2:Int):Option (Ac):=(LC a0 a1 (m42 a2)).bind fun y1=>some y1
theorem w15 {d:Nat} (hd:440≤d) (k0:Bool) (a0:Aa) (a1:Int) (a2:Int):Fit (R NN d 15 [.agg (Enc.cs k0 a0),iW a1,iW a2] []) (m15 a0 a1 a2) (P0 (fun (t:Ac)=>AV.agg (Enc.cs false t))):=by
  obtain ⟨d,rfl,g⟩:=up hd
  refine A8 (t15 NN d _ _ _) ?_
  unfold b15 m15
  exact AD (n:=5) rfl rfl (by decide) fun b1=>AT rfl fun b2=>AB 1 rfl rfl rfl<|AA (aF1 (Ae rfl) fun l0_=>w42 (by omega) a2)<|A5 (aF3 (AS (Ar (l0:=k0) (x:=a0))) (Ae rfl) (BJ (Ab (Bc (Ar (l0:=false) (x:=(m42 a2))) (fun _ _ _ h=>Enc.frz false (m42 a2) _ _ _ h)) Ao)) fun l0_ l1_ l2_=>YA (by omega) l0_ a0 a1 l2_ (m42 a2)) fun y1 hy1=>AN 0 rfl rfl rfl (by decide) rfl<|CZ (fun S hS=>hS.lda 0 rfl rfl) (AS (Ar (l0:=false) (x:=y1))) rfl
def m86 (a0:Af) (a1:Int) (a2:List Ah) (a3:Int) (a4:Int):Option (Int):=( bif !(Po a3) then some (LO.ret 3) else bif !(Pn a4) then some (LO.ret 3) else bif !(M7 a0) then some (LO.ret 8) else (m62 a1 a2 (⟨a3,a0.View,a4⟩:AE)).bind fun y1=>bif !y1 then some (LO.ret 10) else (Pj a0 a2 3 a3).bind fun y2=>bif y2 then some (LO.ret 6) else some (LO.norm 0)).bind (Ai (fun s2=>some 0) (fun i1 s2=>none) (fun s2=>some s2))
theorem w86 {d:Nat} (hd:137≤d) (k0:Bool) (a0:Af) (a1:Int) (k2:Bool) (a2:List Ah) (a3:Int) (a4:Int):Fit (R NN d 86 [.rp k0 (Enc.cs k0 a0),iW a1,.rsl k2 false (a2.map (Enc.cs k2)),iW a3,iW a4] []) (m86 a0 a1 a2 a3 a4) PI:=by
  obtain ⟨d,rfl,g⟩:=up hd
  refine A8 (t86 NN d _ _ _ _ _) ?_
  unfold b86 m86
  refine AY (A:=fun (s:Int)=>[iW s]) (B:=fun s=>[]) ?_ ?_ ?_ ?_
  ·refine AA (aF1 (Ae rfl) fun l0_=>UO (by omega) a3)<|q_p fr<|q_j ?_ ?_
   ·first | refine BL ?_ | skip
    exact Am 0 rr
   ·exact AA (aF1 (Ae rfl) fun l0_=>UN (by omega) a4)<|q_p fr<|q_i (Am 0 rr)<|AA (aF1 (Bc (Ar (l0:=k0) (x:=a0)) (fun _ _ _ h=>Enc.frz k0 a0 _ _ _ h)) fun l0_=>iF (by omega) l0_ a0)<|q_p fr<|q_i (Am 0 rr)<|q_q fr<|q_p fr<|q_p fr<|q_p (fun _=>GA rfl)<|A5 (aF3 (Ae rfl) A3 (AS (Ab (Ae rfl) (Ab (Ae rfl) (Ab (Ae rfl) Ao)))) fun l0_ l1_ l2_=>w62 (by omega) a1 l1_ a2 l2_ (⟨a3,a0.View,a4⟩:AE)) fun y1 hy1=>q_p fr<|q_i (Am 0 rr)<|A5 (fun S hS=>ET (Bc (Ar (l0:=k0) (x:=a0)) (fun _ _ _ h=>Enc.frz k0 a0 _ _ _ h)) A3 (Ae rfl) (Ae rfl) hS fun l0_ l1_ l2_ l3_=>YC (by omega) l0_ a0 l1_ a2 3 a3) fun y2 hy2=>q_i (Am 0 rr)<|Ad 0 rr
  ·exact fun s2=>Ak (Ae rfl) rfl
  ·exact fun i1 s2=>As
  ·exact fun s2=>Ak (Ae rfl) rfl
def m85 (a0:Aa) (a1:Int) (a2:Int) (a3:Int):Option (Int×Aa):=(Aq a0.Replicas a1).bind fun x1=>(m86 x1 a0.F a0.Ledger a2 a3).bind fun y1=>bif y1 != 0 then some (y1,a0) else (m82 a0 a1 3 a2 a3).bind fun y2=>some (y2.1,y2.2)
theorem w85 {d:Nat} (hd:138≤d) (L0:List En) (b0_:Nat) (i0_1 i0_2 i0_3 i0_4:List Nat) (v0_1 v0_2 v0_3 v0_4:AV) (a0:Aa) (a1:Int) (k2:Bool) (a2:Int) (k3:Bool) (a3:Int):Okh (bx b0_ [iW a0.F,v0_1,v0_2,v0_3,v0_4]::tr i0_1 [v0_1] (a0.Bad:List Int)::tr i0_2 [v0_2] (a0.Replicas:List Af)::wls i0_3 v0_3 (a0.Ledger:List Ah)::wla i0_4 v0_4 (a0.Requests:List Ag)::L0) (fun S=>R NN d 85 [.bp b0_ 0 0 5 1,elP 4 v0_2 (Int.toNat a1),.rp k2 (Enc.cs k2 a2),.rp k3 (Enc.cs k3 a3)] S) (m85 a0 a1 a2 a3) (P5 (fun (x:List Nat×List Nat×AV×AV) (t:Int×Aa)=>AV.int .i64 t.1) (fun (x:List Nat×List Nat×AV×AV) (t:Int×Aa)=>bx b0_ [iW t.2.F,v0_1,v0_2,x.2.2.1,x.2.2.2]::tr i0_1 [v0_1] (t.2.Bad:List Int)::tr i0_2 [v0_2] (t.2.Replicas:List Af)::wls x.1 x.2.2.1 (t.2.Ledger:List Ah)::wla x.2.1 x.2.2.2 (t.2.Requests:List Ag)::L0)):=by
  obtain ⟨d,rfl,g⟩:=up hd
  refine D9 (t85 NN d _ _ _ _) ?_
  unfold b85 m85
  exact q_q fr<|q_p fr<|Au 0 rfl rfl<|q_q fr<|q_p fr<|Au 0 rfl rfl<|q_p fr<|q_p fr<|BZ fun x1 hx1=>A5 (fun S hS=>Yi (PT 2 rfl rfl hx1) (Ae rfl) (CG (α:=Ah) 3 rfl) (Ae rfl) (Ae rfl) hS fun l0_ l1_ l2_ l3_ l4_=>w86 (by omega) l0_ x1 a0.F l2_ a0.Ledger a2 a3) fun y1 hy1=>q_p fr<|q_i (AX (i0_3,i0_4,v0_3,v0_4) 0 rfl rfl)<|q_p fr<|q_p fr<|DL (mg:=m82 a0 a1 3 a2 a3) (fun S=>rfl) (w82 (by omega) _ b0_ i0_1 i0_2 i0_3 i0_4 v0_1 v0_2 v0_3 v0_4 a0 a1 3 a2 a3) fun y2 hy2 ⟨i1,i2,v1,v2⟩=>AX (i1,i2,v1,v2) 0 rfl rfl
def m43 (a0:Int) (a1:Int):Int×Int:=(a0,a1)
theorem w43 {d:Nat} (hd:139≤d) (a0:Int) (a1:Int):Fit (R NN d 43 [iW a0,iW a1] []) (some (m43 a0 a1)) (P0 (fun (t:Int×Int)=>AV.fn 85 [.rp false (Enc.cs false t.1),.rp false (Enc.cs false t.2)])):=by
  obtain ⟨d,rfl,g⟩:=up hd
  refine A8 (t43 NN d _ _) ?_
  unfold b43 m43
  exact AD (n:=1) rfl rfl (by decide) fun b1=>AD (n:=1) rfl rfl (by decide) fun b2=>Ak (BJ (Ab (LX 1 rfl rfl) (Ab (LX 0 rfl rfl) Ao))) rfl
def Ly (a0:Aa) (a1:Int) (a2_0:Int) (a2_1:Int):Option (Int×Aa):=(G4 a0 a1).bind fun y1=>HW y1 ( some (4,a0)) fun r1=>(Aq a0.Replicas r1).bind fun x2=>(m85 a0 r1 a2_0 a2_1).bind fun y2=>some (y2.1,y2.2)
theorem cV {d:Nat} (hd:139≤d) (L0:List En) (b0_:Nat) (i0_1 i0_2 i0_3 i0_4:List Nat) (v0_1 v0_2 v0_3 v0_4:AV) (a0:Aa) (a1:Int) (k2_0:Bool) (a2_0:Int) (k2_1:Bool) (a2_1:Int):Okh (bx b0_ [iW a0.F,v0_1,v0_2,v0_3,v0_4]::tr i0_1 [v0_1] (a0.Bad:List Int)::tr i0_2 [v0_2] (a0.Replicas:List Af)::wls i0_3 v0_3 (a0.Ledger:List Ah)::wla i0_4 v0_4 (a0.Requests:List Ag)::L0) (fun S=>R NN d 78 [.bp b0_ 0 0 5 1,iW a1,.fn 85 [.rp k2_0 (Enc.cs k2_0 a2_0),.rp k2_1 (Enc.cs k2_1 a2_1)]] S) (Ly a0 a1 a2_0 a2_1) (P5 (fun (x:List Nat×List Nat×AV×AV) (t:Int×Aa)=>AV.int .i64 t.1) (fun (x:List Nat×List Nat×AV×AV) (t:Int×Aa)=>bx b0_ [iW t.2.F,v0_1,v0_2,x.2.2.1,x.2.2.2]::tr i0_1 [v0_1] (t.2.Bad:List Int)::tr i0_2 [v0_2] (t.2.Replicas:List Af)::wls x.1 x.2.2.1 (t.2.Ledger:List Ah)::wla x.2.1 x.2.2.2 (t.2.Requests:List Ag)::L0)):=by
  obtain ⟨d,rfl,g⟩:=up hd
  refine D9 (t78 NN d _ _ _) ?_
  unfold b78 Ly
  refine KE (mg:=G4 a0 a1) (v0:=fun _=>AV.nilp) (v1:=fun x r=>elP 4 v0_2 (Int.toNat r)) (fun _=>rfl) (fun _ _=>rfl) (Qo (by omega) _ b0_ i0_1 i0_2 i0_3 i0_4 v0_1 v0_2 v0_3 v0_4 a0 a1) (fun x1=>?_) (fun r1 x1 hy1=>?_)
  ·refine q_p (fun _=>Gu) ?_
   first | refine BL ?_ | skip
   exact AX (i0_3,i0_4,v0_3,v0_4) 0 rfl rfl
  ·refine BZ fun x2 hx2=>QA (f:=fun a=>Ec Tryz.prog .eql 53 a .nilp) 2 rfl hx2 (fun _ _ _ _ _=>Gv _ _ _ _ _) ?_
   first | refine Dy ?_ | skip
   exact DL (mg:=m85 a0 r1 a2_0 a2_1) (fun S=>Rl _ _ _ _) (w85 (by omega) _ b0_ i0_1 i0_2 i0_3 i0_4 v0_1 v0_2 v0_3 v0_4 a0 r1 k2_0 a2_0 k2_1 a2_1) fun y2 hy2 ⟨i1,i2,v1,v2⟩=>AX (i1,i2,v1,v2) 0 rfl rfl
def L1 (a0:Aa) (a1:Int) (a2_0:Int) (a2_1:Int):Option (Int×Aa):=(Ly a0 a1 a2_0 a2_1).bind fun y1=>some (y1.1,y1.2)
theorem cX {d:Nat} (hd:140≤d) (L0:List En) (b0_:Nat) (i0_1 i0_2 i0_3 i0_4:List Nat) (v0_1 v0_2 v0_3 v0_4:AV) (a0:Aa) (k1:Bool) (a1:Int) (k2:Bool) (k2_0:Bool) (a2_0:Int) (k2_1:Bool) (a2_1:Int):Okh (bx b0_ [iW a0.F,v0_1,v0_2,v0_3,v0_4]::tr i0_1 [v0_1] (a0.Bad:List Int)::tr i0_2 [v0_2] (a0.Replicas:List Af)::wls i0_3 v0_3 (a0.Ledger:List Ah)::wla i0_4 v0_4 (a0.Requests:List Ag)::L0) (fun S=>R NN d 77 [.bp b0_ 0 0 5 1,.rp k1 (Enc.cs k1 a1),.rp k2 [.fn 85 [.rp k2_0 (Enc.cs k2_0 a2_0),.rp k2_1 (Enc.cs k2_1 a2_1)]]] S) (L1 a0 a1 a2_0 a2_1) (P5 (fun (x:List Nat×List Nat×AV×AV) (t:Int×Aa)=>AV.int .i64 t.1) (fun (x:List Nat×List Nat×AV×AV) (t:Int×Aa)=>bx b0_ [iW t.2.F,v0_1,v0_2,x.2.2.1,x.2.2.2]::tr i0_1 [v0_1] (t.2.Bad:List Int)::tr i0_2 [v0_2] (t.2.Replicas:List Af)::wls x.1 x.2.2.1 (t.2.Ledger:List Ah)::wla x.2.1 x.2.2.2 (t.2.Requests:List Ag)::L0)):=by
  obtain ⟨d,rfl,g⟩:=up hd
  refine D9 (t77 NN d _ _ _) ?_
  unfold b77 L1
  exact q_p fr<|q_p fr<|DL (mg:=Ly a0 a1 a2_0 a2_1) (fun S=>rfl) (cV (by omega) _ b0_ i0_1 i0_2 i0_3 i0_4 v0_1 v0_2 v0_3 v0_4 a0 a1 k2_0 a2_0 k2_1 a2_1) fun y1 hy1 ⟨i1,i2,v1,v2⟩=>AX (i1,i2,v1,v2) 0 rfl rfl
def L8 (a0:Aa) (a1_0:Int) (a1_1_0:Int) (a1_1_1:Int):Option (Ac):=(m22 a0).bind fun y1=>bif y1 != 0 then some (⟨y1,(⟨0,[],[],[],[]⟩:Aa)⟩:Ac) else (m76 a0).bind fun y2=>(L1 y2 a1_0 a1_1_0 a1_1_1).bind fun y3=>bif y3.1 != 0 then some (⟨y3.1,(⟨0,[],[],[],[]⟩:Aa)⟩:Ac) else (m76 y3.2).bind fun y4=>some (⟨0,y4⟩:Ac)
theorem cZ {d:Nat} (hd:144≤d) (k0:Bool) (a0:Aa) (k1_0:Bool) (a1_0:Int) (k1_1:Bool) (k1_1_0:Bool) (a1_1_0:Int) (k1_1_1:Bool) (a1_1_1:Int):Fit (R NN d 37 [.agg (Enc.cs k0 a0),.fn 77 [.rp k1_0 (Enc.cs k1_0 a1_0),.rp k1_1 [.fn 85 [.rp k1_1_0 (Enc.cs k1_1_0 a1_1_0),.rp k1_1_1 (Enc.cs k1_1_1 a1_1_1)]]]] []) (L8 a0 a1_0 a1_1_0 a1_1_1) (P1 (T:=Ac) AV.agg):=by
  obtain ⟨d,rfl,g⟩:=up hd
  refine A8 (t37 NN d _ _) ?_
  unfold b37 L8
  refine AD (n:=5) rfl rfl (by decide) fun b1=>AT rfl fun b2=>AB 1 rfl rfl rfl<|A5 (aF1 (AS (Ar (l0:=k0) (x:=a0))) fun l0_=>w22 (by omega) l0_ a0) fun y1 hy1=>q_p fr<|q_i ?_ ?_
  ·exact q_p (fun _=>CQ rfl)<|AN 0 rfl rfl rfl (by decide) rfl<|Bi (fun S hS=>hS.lda 0 rfl rfl) (Bf (α:=Ac) (β:=Int×Aa) (f:=fun x=>(x.Code,x.Cluster)) (x:=(⟨y1,(⟨0,[],[],[],[]⟩:Aa)⟩:Ac)) rfl (An (AH (n:=y1)) (Bf (α:=Aa) (β:=Int×(List Int)×(List Af)×(List Ah)×(List Ag)) (f:=fun x=>(x.F,x.Bad,x.Replicas,x.Ledger,x.Requests)) (x:=(⟨0,[],[],[],[]⟩:Aa)) rfl (An (AH (n:=0)) (An (A4 (α:=Int) (fl:=true)) (An (A4 (α:=Af) (fl:=true)) (An (A4 (α:=Ah) (fl:=true)) (A4 (α:=Ag) (fl:=true))))))))) rfl
  ·refine AB 1 rfl rfl rfl<|I6 (mg:=m76 a0) (aF1 (AS (Ar (l0:=k0) (x:=a0))) fun l0_=>w76 (by omega) l0_ a0) fun y2 hy2 i1 cs1 hq_=>EE (fun S hS=>E8 (hS.get (k:=0) rfl)) fun hcs_=>?_
   obtain ⟨v1,v2,v3,v4,rfl⟩:=hcs_
   refine I3 (x:=(y2.F,y2.Bad,y2.Replicas,y2.Ledger,y2.Requests)) hq_ rfl (fun _ h=>h) fun i2 i3 i4 i5=>AT rfl fun b3=>AN 0 rfl rfl rfl (by decide) rfl<|DL (mg:=L1 y2 a1_0 a1_1_0 a1_1_1) (fun S=>MC _ _ _ _) (cX (by omega) _ b3 i2 i3 i4 i5 v1 v2 v3 v4 y2 k1_0 a1_0 k1_1 k1_1_0 a1_1_0 k1_1_1 a1_1_1) fun y3 hy3 ⟨i6,i7,v5,v6⟩=>q_p fr<|q_i ?_ ?_
   ·exact q_p (fun _=>CQ rfl)<|AN 5 rfl rfl rfl (by decide) rfl<|Bi (fun S hS=>hS.lda 5 rfl rfl) (Bf (α:=Ac) (β:=Int×Aa) (f:=fun x=>(x.Code,x.Cluster)) (x:=(⟨y3.1,(⟨0,[],[],[],[]⟩:Aa)⟩:Ac)) rfl (An (AH (n:=y3.1)) (Bf (α:=Aa) (β:=Int×(List Int)×(List Af)×(List Ah)×(List Ag)) (f:=fun x=>(x.F,x.Bad,x.Replicas,x.Ledger,x.Requests)) (x:=(⟨0,[],[],[],[]⟩:Aa)) rfl (An (AH (n:=0)) (An (A4 (α:=Int) (fl:=true)) (An (A4 (α:=Af) (fl:=true)) (An (A4 (α:=Ah) (fl:=true)) (A4 (α:=Ag) (fl:=true))))))))) rfl
   ·refine AB 0 rfl rfl rfl<|Gq (W:=AV.agg) (mg:=m76 y3.2) CY (aF1 (AS (Ab (Ae rfl) (Ab (CU 1 rfl) (Ab (CU 2 rfl) (Ab (CG (α:=Ah) 3 rfl) (Ab (EG (α:=Ag) 4 rfl) Ao)))))) fun l0_=>NH (by omega) l0_ y3.2) fun y4 hy4 i8 cs2=>EE (fun S hS=>E8 (hS.get (k:=0) rfl)) fun hcs_=>?_
    obtain ⟨v7,v8,v9,v10,rfl⟩:=hcs_
    exact q_p (fun _=>FL rfl)<|AN 6 rfl rfl rfl (by decide) rfl<|Bi (fun S hS=>hS.lda 6 rfl rfl) (Bf (α:=Ac) (β:=Int×Aa) (f:=fun x=>(x.Code,x.Cluster)) (x:=(⟨0,y4⟩:Ac)) rfl (An (AH (n:=0)) (Do 0 rfl))) rfl
def L6 (a0:Aa) (a1:Int) (a2_0:Int) (a2_1:Int):Option (Ac):=(L8 a0 a1 a2_0 a2_1).bind fun y1=>some y1
theorem cY {d:Nat} (hd:285≤d) (k0:Bool) (a0:Aa) (a1:Int) (k2_0:Bool) (a2_0:Int) (k2_1:Bool) (a2_1:Int):Fit (R NN d 40 [.agg (Enc.cs k0 a0),iW a1,.fn 85 [.rp k2_0 (Enc.cs k2_0 a2_0),.rp k2_1 (Enc.cs k2_1 a2_1)]] []) (L6 a0 a1 a2_0 a2_1) (P1 (T:=Ac) AV.agg):=by
  obtain ⟨d,rfl,g⟩:=up hd
  refine A8 (t40 NN d _ _ _) ?_
  unfold b40 L6
  refine AD (n:=5) rfl rfl (by decide) fun b1=>AD (n:=1) rfl rfl (by decide) fun b2=>AD (n:=1) rfl rfl (by decide) fun b3=>AT rfl fun b4=>AB 3 rfl rfl rfl<|Gq (W:=AV.agg) (mg:=L8 a0 a1 a2_0 a2_1) CY (aF2 (AS (Ar (l0:=k0) (x:=a0))) (BJ (Ab (Bv 2 rfl (Ar (l0:=false) (x:=a1))) (Ab (Bv 1 rfl (Ab (BJ (Ab (Bc (Ar (l0:=k2_0) (x:=a2_0)) (fun _ _ _ h=>Enc.frz k2_0 a2_0 _ _ _ h)) (Ab (Bc (Ar (l0:=k2_1) (x:=a2_1)) (fun _ _ _ h=>Enc.frz k2_1 a2_1 _ _ _ h)) Ao))) Ao)) Ao))) fun l0_ l1_=>cZ (by omega) l0_ a0 l1_ a1 l1_ l1_ a2_0 l1_ a2_1) fun y1 hy1 i1 cs1=>EE (fun S hS=>K5 (hS.get (k:=0) rfl)) fun hcs_=>?_
  obtain ⟨v1,v2,v3,v4,rfl⟩:=hcs_
  exact AN 1 rfl rfl rfl (by decide) rfl<|Bi (fun S hS=>hS.lda 1 rfl rfl) (Do 0 rfl) rfl
theorem Y9 {d:Nat} (hd:285≤d) (k0:Bool) (a0:Aa) (a1:Int) (k2_0:Bool) (a2_0:Int) (k2_1:Bool) (a2_1:Int):Fit (R NN d 40 [.agg (Enc.cs k0 a0),iW a1,.fn 85 [.rp k2_0 (Enc.cs k2_0 a2_0),.rp k2_1 (Enc.cs k2_1 a2_1)]] []) (L6 a0 a1 a2_0 a2_1) (P0 (fun (t:Ac)=>AV.agg (Enc.cs false t))):=Ff (cY hd k0 a0 a1 k2_0 a2_0 k2_1 a2_1)
def m16 (a0:Aa) (a1:Int) (a2:Int) (a3:Int):Option (Ac):=(L6 a0 a1 ((m43 a2 a3).1) ((m43 a2 a3).2)).bind fun y1=>some y1
theorem w16 {d:Nat} (hd:425≤d) (k0:Bool) (a0:Aa) (a1:Int) (a2:Int) (a3:Int):Fit (R NN d 16 [.agg (Enc.cs k0 a0),iW a1,iW a2,iW a3] []) (m16 a0 a1 a2 a3) (P0 (fun (t:Ac)=>AV.agg (Enc.cs false t))):=by
  obtain ⟨d,rfl,g⟩:=up hd
  refine A8 (t16 NN d _ _ _ _) ?_
  unfold b16 m16
  exact AD (n:=5) rfl rfl (by decide) fun b1=>AT rfl fun b2=>AB 1 rfl rfl rfl<|AA (aF2 (Ae rfl) (Ae rfl) fun l0_ l1_=>w43 (by omega) a2 a3)<|A5 (aF3 (AS (Ar (l0:=k0) (x:=a0))) (Ae rfl) (BJ (Ab (Bc (Ar (l0:=false) (x:=(m43 a2 a3).1)) (fun _ _ _ h=>Enc.frz false ((m43 a2 a3).1) _ _ _ h)) (Ab (Bc (Ar (l0:=false) (x:=(m43 a2 a3).2)) (fun _ _ _ h=>Enc.frz false ((m43 a2 a3).2) _ _ _ h)) Ao))) fun l0_ l1_ l2_=>Y9 (by omega) l0_ a0 a1 l2_ ((m43 a2 a3).1) l2_ ((m43 a2 a3).2)) fun y1 hy1=>AN 0 rfl rfl rfl (by decide) rfl<|CZ (fun S hS=>hS.lda 0 rfl rfl) (AS (Ar (l0:=false) (x:=y1))) rfl
def G3 (a0:List Ah) (a1:Int) (a2:Int) (s1:Int×(List AE)) (s3:Bool×Int×Int×Int×Int):Option (LO (Bool×Int×Int×Int×Int)):=bif decide (s3.2.1 < (a0.length:Int)) then ( (Aq a0 s3.2.1).bind fun x1=>( bif x1.Kind == 3 then bif x1.From == a1 then bif x1.Slot == s1.1 then bif decide (x1.View < a2) then bif !s3.1 then some (LO.norm true) else some (LO.norm (decide (x1.View > s3.2.2.2.1))) else some (LO.norm false) else some (LO.norm false) else some (LO.norm false) else some (LO.norm false)).bind (Ai (fun s6=>bif s6 then some (LO.norm (true,s1.1,x1.View,x1.Value)) else some (LO.norm (s3.1,s3.2.2.1,s3.2.2.2.1,s3.2.2.2.2))) (fun i1 s6=>if i1 = 3 then some (LO.norm (s3.1,s3.2.2.1,s3.2.2.2.1,s3.2.2.2.2)) else some (LO.exit i1 (s3.1,s3.2.2.1,s3.2.2.2.1,s3.2.2.2.2))) (fun s6=>some (LO.ret (s3.1,s3.2.2.1,s3.2.2.2.1,s3.2.2.2.2))))).bind (Ai (fun s7=>some (LO.norm (s7.1,wi .i64 (s3.2.1 + 1),s7.2.1,s7.2.2.1,s7.2.2.2))) (fun i2 s7=>some (LO.exit i2 (s7.1,s3.2.1,s7.2.1,s7.2.2.1,s7.2.2.2))) (fun s7=>some (LO.ret (s7.1,s3.2.1,s7.2.1,s7.2.2.1,s7.2.2.2)))) else some (LO.exit 2 (s3.1,s3.2.1,s3.2.2.1,s3.2.2.2.1,s3.2.2.2.2))
def Ks (a0:List Ah) (a1:Int) (a2:Int) (s1:Int×(List AE)):Option (LO (Int×(List AE))):=bif decide (s1.1≤30) then ( (Ax (G3 a0 a1 a2 s1) NN (false,0,0,0,0)).bind (Ai (fun _=>none) (fun i3 s8=>if i3 = 2 then bif s8.1 then (B7 24 s1.2 [(⟨s8.2.2.1,s8.2.2.2.1,s8.2.2.2.2⟩:AE)]).bind fun z1=>some (LO.norm z1) else some (LO.norm s1.2) else if i3 = 1 then some (LO.norm s1.2) else some (LO.exit i3 s1.2)) (fun s8=>some (LO.ret s1.2)))).bind (Ai (fun s9=>some (LO.norm (wi .i64 (s1.1 + 1),s9))) (fun i4 s9=>some (LO.exit i4 (s1.1,s9))) (fun s9=>some (LO.ret (s1.1,s9)))) else some (LO.exit 0 (s1.1,s1.2))
def Xe (a0:List Ah) (a1:Int) (a2:Int):Option ((List AE)):=(Ax (Ks a0 a1 a2) NN (1,[])).bind (Ai (fun _=>none) (fun i5 s10=>if i5 = 0 then some s10.2 else none) (fun s10=>some []))
theorem w132 {d:Nat} (hd:1≤d) (k0:Bool) (a0:List Ah) (a1:Int) (a2:Int):Fit (R NN d 132 [.rsl k0 false (a0.map (Enc.cs k0)),iW a1,iW a2] []) (Xe a0 a1 a2) (P0 (fun (t:List AE)=>AV.rsl false false (t.map (Enc.cs false)))):=by
  obtain ⟨d,rfl,g⟩:=up hd
  refine A8 (t132 NN d _ _ _) ?_
  unfold nT Xe
  refine q_q (fun _=>Q9)<|Eo (α:=AE) false<|BW (I:=(fun (s:Int×(List AE)) l L=>∃ (v1:AV),l = [v1,iW s.1]∧L = [sl false v1 (s.2:List AE)])) 0 ⟨(.rsl false true []),rfl,rfl⟩ ?_ ?_ ?_
  ·rintro s1 _ _ ⟨v1,rfl,rfl⟩
   unfold VC Ks
   refine q_p fr<|q_i ?_ ?_
   ·refine DN (I:=(fun (s:(List AE)) l L=>∃ (v2:AV),l = [v2]∧L = [sl false v2 (s:List AE)])) ?_ ?_ ?_ ?_
    ·refine q_p (fun _=>bd50 rfl)<|AT rfl fun b1=>AN 0 rfl rfl rfl (by decide) rfl<|A7<|Cc (A:=fun (s:Bool×Int×Int×Int×Int)=>[.bool s.1,iW s.2.1]) (B:=fun s=>[bx b1 [iW s.2.2.1,iW s.2.2.2.1,iW s.2.2.2.2],sl false v1 (s1.2:List AE)]) 0 rr ?_ ?_ ?_
     ·intro s3
      unfold VD G3
      refine q_p fr<|q_i ?_ ?_
      ·refine AY (A:=fun (s:Bool×Int×Int×Int)=>[.bool s.1]) (B:=fun s=>[bx b1 [iW s.2.1,iW s.2.2.1,iW s.2.2.2],sl false v1 (s1.2:List AE)]) ?_ ?_ ?_ ?_
       ·refine Bd rfl fun x1 hx1=>q_p fr<|AT rfl fun b2=>AN 0 rfl rfl rfl (by decide) rfl<|AY (A:=fun (s:Bool)=>[.bool s]) (B:=fun s=>[bx b2 [iW x1.Kind,iW x1.View,iW x1.From,iW x1.Slot,iW x1.Value,.rsl k0 false (x1.Certs.map (Enc.cs k0)),.rsl k0 false (x1.Refs.map (Enc.cs k0))],bx b1 [iW s3.2.2.1,iW s3.2.2.2.1,iW s3.2.2.2.2],sl false v1 (s1.2:List AE)]) ?_ ?_ ?_ ?_
        ·exact q_p fr<|Au 0 rfl rfl<|q_p fr<|q_k (q_p fr<|Au 0 rfl rfl<|q_p fr<|q_k (q_p fr<|Au 0 rfl rfl<|q_p fr<|q_k (q_p fr<|Au 0 rfl rfl<|q_p fr<|q_k (q_p fr<|q_j (Ad 0 rr)<|q_p fr<|Au 0 rfl rfl<|q_p fr<|Au 1 rfl rfl<|q_p fr<|Ad 0 rr)<|Ad 0 rr)<|Ad 0 rr)<|Ad 0 rr)<|Ad 0 rr
        ·exact fun s6=>q_i (q_p fr<|Au 0 rfl rfl<|q_p fr<|Au 0 rfl rfl<|q_p (fun _=>GA rfl)<|AN 1 rfl rfl rfl (by decide) rfl<|Ad 1 rr)<|Ad 1 rr
        ·exact fun i1 s6=>q_n (Ad 1 rr)<|Ap 1 rr
        ·exact fun s6=>Am 1 rr
       ·exact fun s7=>q_p fr<|Ad 0 rr
       ·exact fun i2 s7=>Ap 0 rr
       ·exact fun s7=>Am 0 rr
      ·exact Ap 0 rr
     ·exact fun i3 s8=>q_n (q_i (AB 0 rfl rfl rfl<|q_e (fun _=>XZ rfl)<|Ed (ys:=[(⟨s8.2.2.1,s8.2.2.2.1,s8.2.2.2.2⟩:AE)]) 1 rfl rfl (fun _ _=>rfl) fun v2 z1 hz1=>Ad 1 ⟨v2,rfl,rfl⟩)<|Ad 1 ⟨v1,rfl,rfl⟩)<|q_n (Ad 1 ⟨v1,rfl,rfl⟩)<|Ap 1 ⟨v1,rfl,rfl⟩
     ·exact fun s8=>Am 1 ⟨v1,rfl,rfl⟩
    ·rintro s9 _ _ ⟨v3,rfl,rfl⟩
     exact q_p fr<|Ad 0 ⟨v3,rfl,rfl⟩
    ·rintro i4 s9 _ _ ⟨v4,rfl,rfl⟩
     exact Ap 0 ⟨v4,rfl,rfl⟩
    ·rintro s9 _ _ ⟨v5,rfl,rfl⟩
     exact Am 0 ⟨v5,rfl,rfl⟩
   ·exact Ap 0 ⟨v1,rfl,rfl⟩
  ·rintro i5 s10 _ _ ⟨v6,rfl,rfl⟩
   exact q_n (Ak (Io 0 rfl) rfl)<|As
  ·rintro s10 _ _ ⟨v7,rfl,rfl⟩
   exact Ak (A3 (α:=AE) (l0:=false) (fl:=true) (xs:=[])) rfl
def m88 (a0:Af) (a1:List Ah) (a2:Int):Option (Bz):=bif !(m97 a2) then some (⟨3,(⟨0,0,0,0,0,[],[]⟩:Ah)⟩:Bz) else bif decide (a2≤a0.View) then some (⟨8,(⟨0,0,0,0,0,[],[]⟩:Ah)⟩:Bz) else (Xe a1 a0.Id a2).bind fun y1=>some (⟨0,(⟨4,a2,a0.Id,0,0,y1,[]⟩:Ah)⟩:Bz)
theorem w88 {d:Nat} (hd:3≤d) (k0:Bool) (a0:Af) (k1:Bool) (a1:List Ah) (a2:Int):Fit (R NN d 88 [.rp k0 (Enc.cs k0 a0),.rsl k1 false (a1.map (Enc.cs k1)),iW a2] []) (m88 a0 a1 a2) (P0 (fun (t:Bz)=>AV.agg (Enc.cs false t))):=by
  obtain ⟨d,rfl,g⟩:=up hd
  refine A8 (t88 NN d _ _ _) ?_
  unfold b88 m88
  exact AT rfl fun b1=>AA (aF1 (Ae rfl) fun l0_=>w97 (by omega) a2)<|q_p fr<|q_i (q_p (fun _=>K0 rfl)<|AN 0 rfl rfl rfl (by decide) rfl<|CZ (fun S hS=>hS.lda 0 rfl rfl) (AS (Ab (Ae rfl) (Ab (Ae rfl) (Ab (Ae rfl) (Ab (Ae rfl) (Ab (Ae rfl) (Ab (Ae rfl) (Ab (A3 (α:=AE) (l0:=false) (fl:=true) (xs:=[])) (Ab (A3 (α:=Int) (l0:=false) (fl:=true) (xs:=[])) Ao))))))))) rfl)<|q_q fr<|q_p fr<|q_p fr<|q_p fr<|q_i (q_p (fun _=>K0 rfl)<|AN 0 rfl rfl rfl (by decide) rfl<|CZ (fun S hS=>hS.lda 0 rfl rfl) (AS (Ab (Ae rfl) (Ab (Ae rfl) (Ab (Ae rfl) (Ab (Ae rfl) (Ab (Ae rfl) (Ab (Ae rfl) (Ab (A3 (α:=AE) (l0:=false) (fl:=true) (xs:=[])) (Ab (A3 (α:=Int) (l0:=false) (fl:=true) (xs:=[])) Ao))))))))) rfl)<|q_q fr<|q_p fr<|q_p fr<|q_q fr<|q_p fr<|q_p fr<|A5 (aF3 A3 (Ae rfl) (Ae rfl) fun l0_ l1_ l2_=>w132 (by omega) l0_ a1 a0.Id a2) fun y1 hy1=>q_p (fun _=>Oy rfl)<|q_p (fun _=>Td rfl)<|AN 0 rfl rfl rfl (by decide) rfl<|CZ (fun S hS=>hS.lda 0 rfl rfl) (AS (Ab (Ae rfl) (Ab (Ae rfl) (Ab (Ae rfl) (Ab (Ae rfl) (Ab (Ae rfl) (Ab (Ae rfl) (Ab A3 (Ab (A3 (α:=Int) (l0:=false) (fl:=true) (xs:=[])) Ao))))))))) rfl
def m87 (a0:Aa) (a1:Int) (a2:Int):Option (Int×Aa):=(Aq a0.Replicas a1).bind fun x1=>(m88 x1 a0.Ledger a2).bind fun y1=>bif y1.Code != 0 then some (y1.Code,a0) else (m89 a0 y1.Msg).bind fun y2=>bif y2.1 != 0 then some (y2.1,y2.2) else (Aq y2.2.Replicas a1).bind fun x2=>(Aq y2.2.Replicas a1).bind fun x3=>(Aq y2.2.Replicas a1).bind fun x4=>QS (y2.2.Replicas.set (Int.toNat a1) ({ x4 with View:=a2 })) fun z1=>(Aq z1 a1).bind fun x5=>(Aq z1 a1).bind fun x6=>(Aq z1 a1).bind fun x7=>QS (z1.set (Int.toNat a1) ({ x7 with Start:=(-1) })) fun z2=>some (0,(⟨y2.2.F,y2.2.Bad,z2,y2.2.Ledger,y2.2.Requests⟩:Aa))
theorem w87 {d:Nat} (hd:8≤d) (L0:List En) (b0_:Nat) (i0_1 i0_2 i0_3 i0_4:List Nat) (v0_1 v0_2 v0_3 v0_4:AV) (a0:Aa) (a1:Int) (k2:Bool) (a2:Int):Okh (bx b0_ [iW a0.F,v0_1,v0_2,v0_3,v0_4]::tr i0_1 [v0_1] (a0.Bad:List Int)::tr i0_2 [v0_2] (a0.Replicas:List Af)::wls i0_3 v0_3 (a0.Ledger:List Ah)::wla i0_4 v0_4 (a0.Requests:List Ag)::L0) (fun S=>R NN d 87 [.bp b0_ 0 0 5 1,elP 4 v0_2 (Int.toNat a1),.rp k2 (Enc.cs k2 a2)] S) (m87 a0 a1 a2) (P5 (fun (x:List Nat×List Nat×AV×AV) (t:Int×Aa)=>AV.int .i64 t.1) (fun (x:List Nat×List Nat×AV×AV) (t:Int×Aa)=>bx b0_ [iW t.2.F,v0_1,v0_2,x.2.2.1,x.2.2.2]::tr i0_1 [v0_1] (t.2.Bad:List Int)::tr i0_2 [v0_2] (t.2.Replicas:List Af)::wls x.1 x.2.2.1 (t.2.Ledger:List Ah)::wla x.2.1 x.2.2.2 (t.2.Requests:List Ag)::L0)):=by
  obtain ⟨d,rfl,g⟩:=up hd
  refine D9 (t87 NN d _ _ _) ?_
  unfold b87 m87
  exact AT rfl fun b1=>q_q fr<|q_p fr<|Au 1 rfl rfl<|q_p fr<|BZ fun x1 hx1=>A5 (aF3 (PT 3 rfl rfl hx1) (CG (α:=Ah) 4 rfl) (Ae rfl) fun l0_ l1_ l2_=>w88 (by omega) l0_ x1 l1_ a0.Ledger a2) fun y1 hy1=>AN 0 rfl rfl rfl (by decide) rfl<|q_p fr<|Au 0 rfl rfl<|q_p fr<|q_i (q_p fr<|Au 0 rfl rfl<|AX (i0_3,i0_4,v0_3,v0_4) 1 rfl rfl)<|q_p fr<|AB 0 rfl rfl rfl<|Dx 6 [1,2,3,4,5,0] (by decide) (by decide)<|DL (mg:=m89 a0 y1.Msg) (fun S=>rfl) (w89 (by omega) _ b0_ i0_1 i0_2 i0_3 i0_4 v0_1 v0_2 v0_3 v0_4 a0 _ _ _ _ _ _ _ y1.Msg (Ar (l0:=false) (x:=y1.Msg))) fun y2 hy2 ⟨i1,i2,v1,v2⟩=>q_p fr<|q_i (Dx 6 [5,0,1,2,3,4] (by decide) (by decide)<|AX (i1,i2,v1,v2) 1 rfl rfl)<|q_p fr<|BZ fun x2 hx2=>EN 2 rfl hx2<|BZ fun x3 hx3=>GE 2 rfl hx3 (by decide)<|BZ fun x4 hx4=>OP 2 rfl rfl hx4 rfl (Tv a2) fun z1 hz1=>BZ fun x5 hx5=>EN 2 rfl hx5<|BZ fun x6 hx6=>GE 2 rfl hx6 (by decide)<|BZ fun x7 hx7=>OP 2 rfl rfl hx7 rfl (HN (-1)) fun z2 hz2=>Dx 6 [5,0,1,2,3,4] (by decide) (by decide)<|AX (i1,i2,v1,v2) 1 rfl rfl
def m44 (a0:Int):Int:=a0
theorem w44 {d:Nat} (hd:9≤d) (a0:Int):Fit (R NN d 44 [iW a0] []) (some (m44 a0)) (P0 (fun (t:Int)=>AV.fn 87 [.rp false (Enc.cs false t)])):=by
  obtain ⟨d,rfl,g⟩:=up hd
  refine A8 (t44 NN d _) ?_
  unfold b44 m44
  exact AD (n:=1) rfl rfl (by decide) fun b1=>Ak (BJ (Ab (LX 0 rfl rfl) Ao)) rfl
def Ls (a0:Aa) (a1:Int) (a2_0:Int):Option (Int×Aa):=(G4 a0 a1).bind fun y1=>HW y1 ( some (4,a0)) fun r1=>(Aq a0.Replicas r1).bind fun x2=>(m87 a0 r1 a2_0).bind fun y2=>some (y2.1,y2.2)
theorem cR {d:Nat} (hd:9≤d) (L0:List En) (b0_:Nat) (i0_1 i0_2 i0_3 i0_4:List Nat) (v0_1 v0_2 v0_3 v0_4:AV) (a0:Aa) (a1:Int) (k2_0:Bool) (a2_0:Int):Okh (bx b0_ [iW a0.F,v0_1,v0_2,v0_3,v0_4]::tr i0_1 [v0_1] (a0.Bad:List Int)::tr i0_2 [v0_2] (a0.Replicas:List Af)::wls i0_3 v0_3 (a0.Ledger:List Ah)::wla i0_4 v0_4 (a0.Requests:List Ag)::L0) (fun S=>R NN d 78 [.bp b0_ 0 0 5 1,iW a1,.fn 87 [.rp k2_0 (Enc.cs k2_0 a2_0)]] S) (Ls a0 a1 a2_0) (P5 (fun (x:List Nat×List Nat×AV×AV) (t:Int×Aa)=>AV.int .i64 t.1) (fun (x:List Nat×List Nat×AV×AV) (t:Int×Aa)=>bx b0_ [iW t.2.F,v0_1,v0_2,x.2.2.1,x.2.2.2]::tr i0_1 [v0_1] (t.2.Bad:List Int)::tr i0_2 [v0_2] (t.2.Replicas:List Af)::wls x.1 x.2.2.1 (t.2.Ledger:List Ah)::wla x.2.1 x.2.2.2 (t.2.Requests:List Ag)::L0)):=by
  obtain ⟨d,rfl,g⟩:=up hd
  refine D9 (t78 NN d _ _ _) ?_
  unfold b78 Ls
  refine KE (mg:=G4 a0 a1) (v0:=fun _=>AV.nilp) (v1:=fun x r=>elP 4 v0_2 (Int.toNat r)) (fun _=>rfl) (fun _ _=>rfl) (Qo (by omega) _ b0_ i0_1 i0_2 i0_3 i0_4 v0_1 v0_2 v0_3 v0_4 a0 a1) (fun x1=>?_) (fun r1 x1 hy1=>?_)
  ·refine q_p (fun _=>Gu) ?_
   first | refine BL ?_ | skip
   exact AX (i0_3,i0_4,v0_3,v0_4) 0 rfl rfl
  ·refine BZ fun x2 hx2=>QA (f:=fun a=>Ec Tryz.prog .eql 53 a .nilp) 2 rfl hx2 (fun _ _ _ _ _=>Gv _ _ _ _ _) ?_
   first | refine Dy ?_ | skip
   exact DL (mg:=m87 a0 r1 a2_0) (fun S=>Rk _ _ _ _) (w87 (by omega) _ b0_ i0_1 i0_2 i0_3 i0_4 v0_1 v0_2 v0_3 v0_4 a0 r1 k2_0 a2_0) fun y2 hy2 ⟨i1,i2,v1,v2⟩=>AX (i1,i2,v1,v2) 0 rfl rfl
def Lt (a0:Aa) (a1:Int) (a2_0:Int):Option (Int×Aa):=(Ls a0 a1 a2_0).bind fun y1=>some (y1.1,y1.2)
theorem cS {d:Nat} (hd:10≤d) (L0:List En) (b0_:Nat) (i0_1 i0_2 i0_3 i0_4:List Nat) (v0_1 v0_2 v0_3 v0_4:AV) (a0:Aa) (k1:Bool) (a1:Int) (k2:Bool) (k2_0:Bool) (a2_0:Int):Okh (bx b0_ [iW a0.F,v0_1,v0_2,v0_3,v0_4]::tr i0_1 [v0_1] (a0.Bad:List Int)::tr i0_2 [v0_2] (a0.Replicas:List Af)::wls i0_3 v0_3 (a0.Ledger:List Ah)::wla i0_4 v0_4 (a0.Requests:List Ag)::L0) (fun S=>R NN d 77 [.bp b0_ 0 0 5 1,.rp k1 (Enc.cs k1 a1),.rp k2 [.fn 87 [.rp k2_0 (Enc.cs k2_0 a2_0)]]] S) (Lt a0 a1 a2_0) (P5 (fun (x:List Nat×List Nat×AV×AV) (t:Int×Aa)=>AV.int .i64 t.1) (fun (x:List Nat×List Nat×AV×AV) (t:Int×Aa)=>bx b0_ [iW t.2.F,v0_1,v0_2,x.2.2.1,x.2.2.2]::tr i0_1 [v0_1] (t.2.Bad:List Int)::tr i0_2 [v0_2] (t.2.Replicas:List Af)::wls x.1 x.2.2.1 (t.2.Ledger:List Ah)::wla x.2.1 x.2.2.2 (t.2.Requests:List Ag)::L0)):=by
  obtain ⟨d,rfl,g⟩:=up hd
  refine D9 (t77 NN d _ _ _) ?_
  unfold b77 Lt
  exact q_p fr<|q_p fr<|DL (mg:=Ls a0 a1 a2_0) (fun S=>rfl) (cR (by omega) _ b0_ i0_1 i0_2 i0_3 i0_4 v0_1 v0_2 v0_3 v0_4 a0 a1 k2_0 a2_0) fun y1 hy1 ⟨i1,i2,v1,v2⟩=>AX (i1,i2,v1,v2) 0 rfl rfl
def Lx (a0:Aa) (a1_0:Int) (a1_1_0:Int):Option (Ac):=(m22 a0).bind fun y1=>bif y1 != 0 then some (⟨y1,(⟨0,[],[],[],[]⟩:Aa)⟩:Ac) else (m76 a0).bind fun y2=>(Lt y2 a1_0 a1_1_0).bind fun y3=>bif y3.1 != 0 then some (⟨y3.1,(⟨0,[],[],[],[]⟩:Aa)⟩:Ac) else (m76 y3.2).bind fun y4=>some (⟨0,y4⟩:Ac)
theorem cU {d:Nat} (hd:144≤d) (k0:Bool) (a0:Aa) (k1_0:Bool) (a1_0:Int) (k1_1:Bool) (k1_1_0:Bool) (a1_1_0:Int):Fit (R NN d 37 [.agg (Enc.cs k0 a0),.fn 77 [.rp k1_0 (Enc.cs k1_0 a1_0),.rp k1_1 [.fn 87 [.rp k1_1_0 (Enc.cs k1_1_0 a1_1_0)]]]] []) (Lx a0 a1_0 a1_1_0) (P1 (T:=Ac) AV.agg):=by
  obtain ⟨d,rfl,g⟩:=up hd
  refine A8 (t37 NN d _ _) ?_
  unfold b37 Lx
  refine AD (n:=5) rfl rfl (by decide) fun b1=>AT rfl fun b2=>AB 1 rfl rfl rfl<|A5 (aF1 (AS (Ar (l0:=k0) (x:=a0))) fun l0_=>w22 (by omega) l0_ a0) fun y1 hy1=>q_p fr<|q_i ?_ ?_
  ·exact q_p (fun _=>CQ rfl)<|AN 0 rfl rfl rfl (by decide) rfl<|Bi (fun S hS=>hS.lda 0 rfl rfl) (Bf (α:=Ac) (β:=Int×Aa) (f:=fun x=>(x.Code,x.Cluster)) (x:=(⟨y1,(⟨0,[],[],[],[]⟩:Aa)⟩:Ac)) rfl (An (AH (n:=y1)) (Bf (α:=Aa) (β:=Int×(List Int)×(List Af)×(List Ah)×(List Ag)) (f:=fun x=>(x.F,x.Bad,x.Replicas,x.Ledger,x.Requests)) (x:=(⟨0,[],[],[],[]⟩:Aa)) rfl (An (AH (n:=0)) (An (A4 (α:=Int) (fl:=true)) (An (A4 (α:=Af) (fl:=true)) (An (A4 (α:=Ah) (fl:=true)) (A4 (α:=Ag) (fl:=true))))))))) rfl
  ·refine AB 1 rfl rfl rfl<|I6 (mg:=m76 a0) (aF1 (AS (Ar (l0:=k0) (x:=a0))) fun l0_=>w76 (by omega) l0_ a0) fun y2 hy2 i1 cs1 hq_=>EE (fun S hS=>E8 (hS.get (k:=0) rfl)) fun hcs_=>?_
   obtain ⟨v1,v2,v3,v4,rfl⟩:=hcs_
   refine I3 (x:=(y2.F,y2.Bad,y2.Replicas,y2.Ledger,y2.Requests)) hq_ rfl (fun _ h=>h) fun i2 i3 i4 i5=>AT rfl fun b3=>AN 0 rfl rfl rfl (by decide) rfl<|DL (mg:=Lt y2 a1_0 a1_1_0) (fun S=>MB _ _ _ _) (cS (by omega) _ b3 i2 i3 i4 i5 v1 v2 v3 v4 y2 k1_0 a1_0 k1_1 k1_1_0 a1_1_0) fun y3 hy3 ⟨i6,i7,v5,v6⟩=>q_p fr<|q_i ?_ ?_
   ·exact q_p (fun _=>CQ rfl)<|AN 5 rfl rfl rfl (by decide) rfl<|Bi (fun S hS=>hS.lda 5 rfl rfl) (Bf (α:=Ac) (β:=Int×Aa) (f:=fun x=>(x.Code,x.Cluster)) (x:=(⟨y3.1,(⟨0,[],[],[],[]⟩:Aa)⟩:Ac)) rfl (An (AH (n:=y3.1)) (Bf (α:=Aa) (β:=Int×(List Int)×(List Af)×(List Ah)×(List Ag)) (f:=fun x=>(x.F,x.Bad,x.Replicas,x.Ledger,x.Requests)) (x:=(⟨0,[],[],[],[]⟩:Aa)) rfl (An (AH (n:=0)) (An (A4 (α:=Int) (fl:=true)) (An (A4 (α:=Af) (fl:=true)) (An (A4 (α:=Ah) (fl:=true)) (A4 (α:=Ag) (fl:=true))))))))) rfl
   ·refine AB 0 rfl rfl rfl<|Gq (W:=AV.agg) (mg:=m76 y3.2) CY (aF1 (AS (Ab (Ae rfl) (Ab (CU 1 rfl) (Ab (CU 2 rfl) (Ab (CG (α:=Ah) 3 rfl) (Ab (EG (α:=Ag) 4 rfl) Ao)))))) fun l0_=>NH (by omega) l0_ y3.2) fun y4 hy4 i8 cs2=>EE (fun S hS=>E8 (hS.get (k:=0) rfl)) fun hcs_=>?_
    obtain ⟨v7,v8,v9,v10,rfl⟩:=hcs_
    exact q_p (fun _=>FL rfl)<|AN 6 rfl rfl rfl (by decide) rfl<|Bi (fun S hS=>hS.lda 6 rfl rfl) (Bf (α:=Ac) (β:=Int×Aa) (f:=fun x=>(x.Code,x.Cluster)) (x:=(⟨0,y4⟩:Ac)) rfl (An (AH (n:=0)) (Do 0 rfl))) rfl
def Lu (a0:Aa) (a1:Int) (a2_0:Int):Option (Ac):=(Lx a0 a1 a2_0).bind fun y1=>some y1
theorem cT {d:Nat} (hd:155≤d) (k0:Bool) (a0:Aa) (a1:Int) (k2_0:Bool) (a2_0:Int):Fit (R NN d 40 [.agg (Enc.cs k0 a0),iW a1,.fn 87 [.rp k2_0 (Enc.cs k2_0 a2_0)]] []) (Lu a0 a1 a2_0) (P1 (T:=Ac) AV.agg):=by
  obtain ⟨d,rfl,g⟩:=up hd
  refine A8 (t40 NN d _ _ _) ?_
  unfold b40 Lu
  refine AD (n:=5) rfl rfl (by decide) fun b1=>AD (n:=1) rfl rfl (by decide) fun b2=>AD (n:=1) rfl rfl (by decide) fun b3=>AT rfl fun b4=>AB 3 rfl rfl rfl<|Gq (W:=AV.agg) (mg:=Lx a0 a1 a2_0) CY (aF2 (AS (Ar (l0:=k0) (x:=a0))) (BJ (Ab (Bv 2 rfl (Ar (l0:=false) (x:=a1))) (Ab (Bv 1 rfl (Ab (BJ (Ab (Bc (Ar (l0:=k2_0) (x:=a2_0)) (fun _ _ _ h=>Enc.frz k2_0 a2_0 _ _ _ h)) Ao)) Ao)) Ao))) fun l0_ l1_=>cU (by omega) l0_ a0 l1_ a1 l1_ l1_ a2_0) fun y1 hy1 i1 cs1=>EE (fun S hS=>K5 (hS.get (k:=0) rfl)) fun hcs_=>?_
  obtain ⟨v1,v2,v3,v4,rfl⟩:=hcs_
  exact AN 1 rfl rfl rfl (by decide) rfl<|Bi (fun S hS=>hS.lda 1 rfl rfl) (Do 0 rfl) rfl
theorem Y8 {d:Nat} (hd:155≤d) (k0:Bool) (a0:Aa) (a1:Int) (k2_0:Bool) (a2_0:Int):Fit (R NN d 40 [.agg (Enc.cs k0 a0),iW a1,.fn 87 [.rp k2_0 (Enc.cs k2_0 a2_0)]] []) (Lu a0 a1 a2_0) (P0 (fun (t:Ac)=>AV.agg (Enc.cs false t))):=Ff (cT hd k0 a0 a1 k2_0 a2_0)
def m17 (a0:Aa) (a1:Int) (a2:Int):Option (Ac):=(Lu a0 a1 (m44 a2)).bind fun y1=>some y1
theorem w17 {d:Nat} (hd:165≤d) (k0:Bool) (a0:Aa) (a1:Int) (a2:Int):Fit (R NN d 17 [.agg (Enc.cs k0 a0),iW a1,iW a2] []) (m17 a0 a1 a2) (P0 (fun (t:Ac)=>AV.agg (Enc.cs false t))):=by
  obtain ⟨d,rfl,g⟩:=up hd
  refine A8 (t17 NN d _ _ _) ?_
  unfold b17 m17
  exact AD (n:=5) rfl rfl (by decide) fun b1=>AT rfl fun b2=>AB 1 rfl rfl rfl<|AA (aF1 (Ae rfl) fun l0_=>w44 (by omega) a2)<|A5 (aF3 (AS (Ar (l0:=k0) (x:=a0))) (Ae rfl) (BJ (Ab (Bc (Ar (l0:=false) (x:=(m44 a2))) (fun _ _ _ h=>Enc.frz false (m44 a2) _ _ _ h)) Ao)) fun l0_ l1_ l2_=>Y8 (by omega) l0_ a0 a1 l2_ (m44 a2)) fun y1 hy1=>AN 0 rfl rfl rfl (by decide) rfl<|CZ (fun S hS=>hS.lda 0 rfl rfl) (AS (Ar (l0:=false) (x:=y1))) rfl
def IG (a0:Int) (a1:List Ah) (a2:Int) (s1:Int×(List Int)×(List Int)):Option (LO (Int×(List Int)×(List Int))):=bif decide (s1.1 < (a1.length:Int)) then ( (Aq a1 s1.1).bind fun x1=>( bif decide ((s1.2.2.length:Int) < (wi .i64 ((wi .i64 (2 * a0)) + 1))) then bif x1.View == a2 then (m72 s1.2.1 x1.From).bind fun y1=>bif !y1 then (m24 a0 a1 s1.1).bind fun y2=>some (LO.norm y2) else some (LO.norm false) else some (LO.norm false) else some (LO.norm false)).bind (Ai (fun s4=>bif s4 then (B7 8 s1.2.2 [s1.1]).bind fun z1=>(B7 8 s1.2.1 [x1.From]).bind fun z2=>some (LO.norm (z2,z1)) else some (LO.norm (s1.2.1,s1.2.2))) (fun i1 s4=>if i1 = 1 then some (LO.norm (s1.2.1,s1.2.2)) else some (LO.exit i1 (s1.2.1,s1.2.2))) (fun s4=>some (LO.ret (s1.2.1,s1.2.2))))).bind (Ai (fun s5=>some (LO.norm (wi .i64 (s1.1 + 1),s5.1,s5.2))) (fun i2 s5=>some (LO.exit i2 (s1.1,s5.1,s5.2))) (fun s5=>some (LO.ret (s1.1,s5.1,s5.2)))) else some (LO.exit 0 (s1.1,s1.2.1,s1.2.2))
def Xd (a0:Int) (a1:List Ah) (a2:Int):Option ((List Int)):=(Ax (IG a0 a1 a2) NN (0,[],[])).bind (Ai (fun _=>none) (fun i3 s6=>if i3 = 0 then some s6.2.2 else none) (fun s6=>some []))
theorem w134 {d:Nat} (hd:141≤d) (a0:Int) (k1:Bool) (a1:List Ah) (a2:Int):Fit (R NN d 134 [iW a0,.rsl k1 false (a1.map (Enc.cs k1)),iW a2] []) (Xd a0 a1 a2) (P0 (fun (t:List Int)=>AV.rsl false false (t.map (Enc.cs false)))):=by
  obtain ⟨d,rfl,g⟩:=up hd
  refine A8 (t134 NN d _ _ _) ?_
  unfold nR Xd
  refine q_q (fun _=>Em)<|q_q (fun _=>Em)<|A7<|Eo (α:=Int) false<|Eo (α:=Int) false<|BW (I:=(fun (s:Int×(List Int)×(List Int)) l L=>∃ (v1:AV) (v2:AV),l = [v2,v1,iW s.1]∧L = [sl false v1 (s.2.1:List Int),sl false v2 (s.2.2:List Int)])) 0 ⟨(.rsl false true []),(.rsl false true []),rfl,rfl⟩ ?_ ?_ ?_
  ·rintro s1 _ _ ⟨v1,v2,rfl,rfl⟩
   unfold VB IG
   refine q_p fr<|q_i ?_ ?_
   ·refine DN (I:=(fun (s:(List Int)×(List Int)) l L=>∃ (v3:AV) (v4:AV),l = [v4,v3]∧L = [sl false v3 (s.1:List Int),sl false v4 (s.2:List Int)])) ?_ ?_ ?_ ?_
    ·refine Bd rfl fun x1 hx1=>q_p fr<|AT rfl fun b1=>AN 0 rfl rfl rfl (by decide) rfl<|AY (A:=fun (s:Bool)=>[.bool s]) (B:=fun s=>[bx b1 [iW x1.Kind,iW x1.View,iW x1.From,iW x1.Slot,iW x1.Value,.rsl k1 false (x1.Certs.map (Enc.cs k1)),.rsl k1 false (x1.Refs.map (Enc.cs k1))],sl false v1 (s1.2.1:List Int),sl false v2 (s1.2.2:List Int)]) ?_ ?_ ?_ ?_
     ·exact KF 2 rfl<|q_p fr<|q_p fr<|q_p fr<|q_k (q_p fr<|Au 0 rfl rfl<|q_p fr<|q_k (q_p fr<|Au 0 rfl rfl<|A5 (aF2 (Io 1 rfl) (Ae rfl) fun l0_ l1_=>w72 (by omega) l0_ s1.2.1 x1.From) fun y1 hy1=>q_p fr<|q_k (A5 (aF3 (Ae rfl) A3 (Ae rfl) fun l0_ l1_ l2_=>w24 (by omega) a0 l1_ a1 s1.1) fun y2 hy2=>Ad 0 rr)<|Ad 0 rr)<|Ad 0 rr)<|Ad 0 rr
     ·exact fun s4=>q_i (q_q (fun _=>EM)<|q_p fr<|Au 0 rfl rfl<|q_q (fun _=>EM)<|d6 (φ:=Hm (.bp b1 0 2 1 1) v2 = true) (fun S hS=>hS.apS 0 2 rfl rfl (by decide)) fun ap1=>Ed (ys:=[s1.1]) 2 rfl rfl (fun _ _=>rfl) fun v3 z1 hz1=>Ed (ys:=[x1.From]) 1 rfl rfl (fun _ _=>rfl) fun v4 z2 hz2=>eB (fun S hS=>(Yn ap1 rfl))<|Ad 1 ⟨v4,v3,rfl,rfl⟩)<|Ad 1 ⟨v1,v2,rfl,rfl⟩
     ·exact fun i1 s4=>q_n (Ad 1 ⟨v1,v2,rfl,rfl⟩)<|Ap 1 ⟨v1,v2,rfl,rfl⟩
     ·exact fun s4=>Am 1 ⟨v1,v2,rfl,rfl⟩
    ·rintro s5 _ _ ⟨v5,v6,rfl,rfl⟩
     exact q_p fr<|Ad 0 ⟨v5,v6,rfl,rfl⟩
    ·rintro i2 s5 _ _ ⟨v7,v8,rfl,rfl⟩
     exact Ap 0 ⟨v7,v8,rfl,rfl⟩
    ·rintro s5 _ _ ⟨v9,v10,rfl,rfl⟩
     exact Am 0 ⟨v9,v10,rfl,rfl⟩
   ·exact Ap 0 ⟨v1,v2,rfl,rfl⟩
  ·rintro i3 s6 _ _ ⟨v11,v12,rfl,rfl⟩
   exact q_n (Ak (Io 1 rfl) rfl)<|As
  ·rintro s6 _ _ ⟨v13,v14,rfl,rfl⟩
   exact Ak (A3 (α:=Int) (l0:=false) (fl:=true) (xs:=[])) rfl
def m90 (a0:Af) (a1:Int) (a2:List Ah):Option (Bz):=( ( bif a0.View == 0 then some (LO.norm true) else (NY a1 a0.View).bind fun y1=>bif a0.Id != y1 then some (LO.norm true) else some (LO.norm (a0.Start != (-1)))).bind (Ai (fun s3=>bif s3 then some (LO.ret 8) else some (LO.norm 0)) (fun i1 s3=>some (LO.exit i1 0)) (fun s3=>some (LO.ret 0)))).bind (Ai (fun s4=>(Xd a1 a2 a0.View).bind fun y2=>bif decide ((y2.length:Int) < (wi .i64 ((wi .i64 (2 * a1)) + 1))) then some (⟨10,(⟨0,0,0,0,0,[],[]⟩:Ah)⟩:Bz) else some (⟨0,(⟨5,a0.View,a0.Id,0,0,[],y2⟩:Ah)⟩:Bz)) (fun i2 s4=>none) (fun s4=>some (⟨s4,(⟨0,0,0,0,0,[],[]⟩:Ah)⟩:Bz)))
theorem w90 {d:Nat} (hd:142≤d) (k0:Bool) (a0:Af) (a1:Int) (k2:Bool) (a2:List Ah):Fit (R NN d 90 [.rp k0 (Enc.cs k0 a0),iW a1,.rsl k2 false (a2.map (Enc.cs k2))] []) (m90 a0 a1 a2) (P0 (fun (t:Bz)=>AV.agg (Enc.cs false t))):=by
  obtain ⟨d,rfl,g⟩:=up hd
  refine A8 (t90 NN d _ _ _) ?_
  unfold b90 m90
  refine AT rfl fun b1=>AY (A:=fun (s:Int)=>[]) (B:=fun s=>[bx b1 [iW s,iW 0,iW 0,iW 0,iW 0,iW 0,.rsl false true [],.rsl false true []]]) ?_ ?_ ?_ ?_
  ·refine AY (A:=fun (s:Bool)=>[.bool s]) (B:=fun s=>[bx b1 [iW 0,iW 0,iW 0,iW 0,iW 0,iW 0,.rsl false true [],.rsl false true []]]) ?_ ?_ ?_ ?_
   ·exact q_q fr<|q_p fr<|q_p fr<|q_p fr<|q_j (Ad 0 rr)<|q_q fr<|q_p fr<|q_p fr<|q_q fr<|q_p fr<|q_p fr<|A5 (aF2 (Ae rfl) (Ae rfl) fun l0_ l1_=>YD (by omega) a1 a0.View) fun y1 hy1=>q_p fr<|q_j (Ad 0 rr)<|q_q fr<|q_p fr<|q_p fr<|q_p fr<|Ad 0 rr
   ·exact fun s3=>q_i (q_p (fun _=>K0 rfl)<|AN 0 rfl rfl rfl (by decide) rfl<|Am 0 rr)<|Ad 0 rr
   ·exact fun i1 s3=>Ap 0 rr
   ·exact fun s3=>Am 0 rr
  ·exact fun s4=>q_q fr<|q_p fr<|q_p fr<|A5 (aF3 (Ae rfl) A3 (Ae rfl) fun l0_ l1_ l2_=>w134 (by omega) a1 l1_ a2 a0.View) fun y2 hy2=>A7<|q_p fr<|q_p fr<|q_p fr<|q_i (q_p (fun _=>K0 rfl)<|AN 0 rfl rfl rfl (by decide) rfl<|CZ (fun S hS=>hS.lda 0 rfl rfl) (AS (Ab (Ae rfl) (Ab (Ae rfl) (Ab (Ae rfl) (Ab (Ae rfl) (Ab (Ae rfl) (Ab (Ae rfl) (Ab (A3 (α:=AE) (l0:=false) (fl:=true) (xs:=[])) (Ab (A3 (α:=Int) (l0:=false) (fl:=true) (xs:=[])) Ao))))))))) rfl)<|q_q fr<|q_p fr<|q_p fr<|q_q fr<|q_p fr<|q_p fr<|q_p (fun _=>Ox rfl)<|q_p (fun _=>Td rfl)<|AN 0 rfl rfl rfl (by decide) rfl<|CZ (fun S hS=>hS.lda 0 rfl rfl) (AS (Ab (Ae rfl) (Ab (Ae rfl) (Ab (Ae rfl) (Ab (Ae rfl) (Ab (Ae rfl) (Ab (Ae rfl) (Ab (A3 (α:=AE) (l0:=false) (fl:=true) (xs:=[])) (Ab A3 Ao))))))))) rfl
  ·exact fun i2 s4=>As
  ·exact fun s4=>CZ (fun S hS=>hS.lda 0 rfl rfl) (AS (Ab (Ae rfl) (Ab (Ae rfl) (Ab (Ae rfl) (Ab (Ae rfl) (Ab (Ae rfl) (Ab (Ae rfl) (Ab (A3 (α:=AE) (l0:=false) (fl:=true) (xs:=[])) (Ab (A3 (α:=Int) (l0:=false) (fl:=true) (xs:=[])) Ao))))))))) rfl
def m45 (a0:Aa) (a1:Int):Option (Int×Aa):=(Aq a0.Replicas a1).bind fun x1=>(m90 x1 a0.F a0.Ledger).bind fun y1=>bif y1.Code != 0 then some (y1.Code,a0) else (m89 a0 y1.Msg).bind fun y2=>bif y2.1 != 0 then some (y2.1,y2.2) else (m91 y2.2.Ledger y1.Msg).bind fun y3=>(Aq y2.2.Replicas a1).bind fun x2=>(Aq y2.2.Replicas a1).bind fun x3=>(Aq y2.2.Replicas a1).bind fun x4=>QS (y2.2.Replicas.set (Int.toNat a1) ({ x4 with Start:=y3 })) fun z1=>some (0,(⟨y2.2.F,y2.2.Bad,z1,y2.2.Ledger,y2.2.Requests⟩:Aa))
theorem w45 {d:Nat} (hd:143≤d) (L0:List En) (b0_:Nat) (i0_1 i0_2 i0_3 i0_4:List Nat) (v0_1 v0_2 v0_3 v0_4:AV) (a0:Aa) (a1:Int):Okh (bx b0_ [iW a0.F,v0_1,v0_2,v0_3,v0_4]::tr i0_1 [v0_1] (a0.Bad:List Int)::tr i0_2 [v0_2] (a0.Replicas:List Af)::wls i0_3 v0_3 (a0.Ledger:List Ah)::wla i0_4 v0_4 (a0.Requests:List Ag)::L0) (fun S=>R NN d 45 [.bp b0_ 0 0 5 1,elP 4 v0_2 (Int.toNat a1)] S) (m45 a0 a1) (P5 (fun (x:List Nat×List Nat×AV×AV) (t:Int×Aa)=>AV.int .i64 t.1) (fun (x:List Nat×List Nat×AV×AV) (t:Int×Aa)=>bx b0_ [iW t.2.F,v0_1,v0_2,x.2.2.1,x.2.2.2]::tr i0_1 [v0_1] (t.2.Bad:List Int)::tr i0_2 [v0_2] (t.2.Replicas:List Af)::wls x.1 x.2.2.1 (t.2.Ledger:List Ah)::wla x.2.1 x.2.2.2 (t.2.Requests:List Ag)::L0)):=by
  obtain ⟨d,rfl,g⟩:=up hd
  refine D9 (t45 NN d _ _) ?_
  unfold b45 m45
  exact AT rfl fun b1=>q_q fr<|q_p fr<|Au 1 rfl rfl<|q_q fr<|q_p fr<|Au 1 rfl rfl<|BZ fun x1 hx1=>A5 (aF3 (PT 3 rfl rfl hx1) (Ae rfl) (CG (α:=Ah) 4 rfl) fun l0_ l1_ l2_=>w90 (by omega) l0_ x1 a0.F l2_ a0.Ledger) fun y1 hy1=>AN 0 rfl rfl rfl (by decide) rfl<|q_p fr<|Au 0 rfl rfl<|q_p fr<|q_i (q_p fr<|Au 0 rfl rfl<|AX (i0_3,i0_4,v0_3,v0_4) 1 rfl rfl)<|q_p fr<|AB 0 rfl rfl rfl<|Dx 6 [1,2,3,4,5,0] (by decide) (by decide)<|DL (mg:=m89 a0 y1.Msg) (fun S=>rfl) (w89 (by omega) _ b0_ i0_1 i0_2 i0_3 i0_4 v0_1 v0_2 v0_3 v0_4 a0 _ _ _ _ _ _ _ y1.Msg (Ar (l0:=false) (x:=y1.Msg))) fun y2 hy2 ⟨i1,i2,v1,v2⟩=>q_p fr<|q_i (Dx 6 [5,0,1,2,3,4] (by decide) (by decide)<|AX (i1,i2,v1,v2) 1 rfl rfl)<|q_q fr<|q_p fr<|Au 0 rfl rfl<|q_p fr<|AB 5 rfl rfl rfl<|A5 (aF2 (CG (α:=Ah) 3 rfl) (AS (Ar (l0:=false) (x:=y1.Msg))) fun l0_ l1_=>w91 (by omega) l0_ y2.2.Ledger l1_ y1.Msg) fun y3 hy3=>BZ fun x2 hx2=>EN 2 rfl hx2<|BZ fun x3 hx3=>GE 2 rfl hx3 (by decide)<|BZ fun x4 hx4=>OP 2 rfl rfl hx4 rfl (HN y3) fun z1 hz1=>Dx 6 [5,0,1,2,3,4] (by decide) (by decide)<|AX (i1,i2,v1,v2) 1 rfl rfl
def Lo (a0:Aa) (a1:Int):Option (Int×Aa):=(G4 a0 a1).bind fun y1=>HW y1 ( some (4,a0)) fun r1=>(Aq a0.Replicas r1).bind fun x2=>(m45 a0 r1).bind fun y2=>some (y2.1,y2.2)
theorem cN {d:Nat} (hd:144≤d) (L0:List En) (b0_:Nat) (i0_1 i0_2 i0_3 i0_4:List Nat) (v0_1 v0_2 v0_3 v0_4:AV) (a0:Aa) (a1:Int):Okh (bx b0_ [iW a0.F,v0_1,v0_2,v0_3,v0_4]::tr i0_1 [v0_1] (a0.Bad:List Int)::tr i0_2 [v0_2] (a0.Replicas:List Af)::wls i0_3 v0_3 (a0.Ledger:List Ah)::wla i0_4 v0_4 (a0.Requests:List Ag)::L0) (fun S=>R NN d 78 [.bp b0_ 0 0 5 1,iW a1,.fn 45 []] S) (Lo a0 a1) (P5 (fun (x:List Nat×List Nat×AV×AV) (t:Int×Aa)=>AV.int .i64 t.1) (fun (x:List Nat×List Nat×AV×AV) (t:Int×Aa)=>bx b0_ [iW t.2.F,v0_1,v0_2,x.2.2.1,x.2.2.2]::tr i0_1 [v0_1] (t.2.Bad:List Int)::tr i0_2 [v0_2] (t.2.Replicas:List Af)::wls x.1 x.2.2.1 (t.2.Ledger:List Ah)::wla x.2.1 x.2.2.2 (t.2.Requests:List Ag)::L0)):=by
  obtain ⟨d,rfl,g⟩:=up hd
  refine D9 (t78 NN d _ _ _) ?_
  unfold b78 Lo
  refine KE (mg:=G4 a0 a1) (v0:=fun _=>AV.nilp) (v1:=fun x r=>elP 4 v0_2 (Int.toNat r)) (fun _=>rfl) (fun _ _=>rfl) (Qo (by omega) _ b0_ i0_1 i0_2 i0_3 i0_4 v0_1 v0_2 v0_3 v0_4 a0 a1) (fun x1=>?_) (fun r1 x1 hy1=>?_)
  ·refine q_p (fun _=>Gu) ?_
   first | refine BL ?_ | skip
   exact AX (i0_3,i0_4,v0_3,v0_4) 0 rfl rfl
  ·refine BZ fun x2 hx2=>QA (f:=fun a=>Ec Tryz.prog .eql 53 a .nilp) 2 rfl hx2 (fun _ _ _ _ _=>Gv _ _ _ _ _) ?_
   first | refine Dy ?_ | skip
   exact DL (mg:=m45 a0 r1) (fun S=>Rj _ _ _ _) (w45 (by omega) _ b0_ i0_1 i0_2 i0_3 i0_4 v0_1 v0_2 v0_3 v0_4 a0 r1) fun y2 hy2 ⟨i1,i2,v1,v2⟩=>AX (i1,i2,v1,v2) 0 rfl rfl
def Lp (a0:Aa) (a1:Int):Option (Int×Aa):=(Lo a0 a1).bind fun y1=>some (y1.1,y1.2)
theorem cO {d:Nat} (hd:145≤d) (L0:List En) (b0_:Nat) (i0_1 i0_2 i0_3 i0_4:List Nat) (v0_1 v0_2 v0_3 v0_4:AV) (a0:Aa) (k1:Bool) (a1:Int) (k2:Bool):Okh (bx b0_ [iW a0.F,v0_1,v0_2,v0_3,v0_4]::tr i0_1 [v0_1] (a0.Bad:List Int)::tr i0_2 [v0_2] (a0.Replicas:List Af)::wls i0_3 v0_3 (a0.Ledger:List Ah)::wla i0_4 v0_4 (a0.Requests:List Ag)::L0) (fun S=>R NN d 77 [.bp b0_ 0 0 5 1,.rp k1 (Enc.cs k1 a1),.rp k2 [.fn 45 []]] S) (Lp a0 a1) (P5 (fun (x:List Nat×List Nat×AV×AV) (t:Int×Aa)=>AV.int .i64 t.1) (fun (x:List Nat×List Nat×AV×AV) (t:Int×Aa)=>bx b0_ [iW t.2.F,v0_1,v0_2,x.2.2.1,x.2.2.2]::tr i0_1 [v0_1] (t.2.Bad:List Int)::tr i0_2 [v0_2] (t.2.Replicas:List Af)::wls x.1 x.2.2.1 (t.2.Ledger:List Ah)::wla x.2.1 x.2.2.2 (t.2.Requests:List Ag)::L0)):=by
  obtain ⟨d,rfl,g⟩:=up hd
  refine D9 (t77 NN d _ _ _) ?_
  unfold b77 Lp
  exact q_p fr<|q_p fr<|DL (mg:=Lo a0 a1) (fun S=>rfl) (cN (by omega) _ b0_ i0_1 i0_2 i0_3 i0_4 v0_1 v0_2 v0_3 v0_4 a0 a1) fun y1 hy1 ⟨i1,i2,v1,v2⟩=>AX (i1,i2,v1,v2) 0 rfl rfl
def Lr (a0:Aa) (a1_0:Int):Option (Ac):=(m22 a0).bind fun y1=>bif y1 != 0 then some (⟨y1,(⟨0,[],[],[],[]⟩:Aa)⟩:Ac) else (m76 a0).bind fun y2=>(Lp y2 a1_0).bind fun y3=>bif y3.1 != 0 then some (⟨y3.1,(⟨0,[],[],[],[]⟩:Aa)⟩:Ac) else (m76 y3.2).bind fun y4=>some (⟨0,y4⟩:Ac)
theorem cQ {d:Nat} (hd:146≤d) (k0:Bool) (a0:Aa) (k1_0:Bool) (a1_0:Int) (k1_1:Bool):Fit (R NN d 37 [.agg (Enc.cs k0 a0),.fn 77 [.rp k1_0 (Enc.cs k1_0 a1_0),.rp k1_1 [.fn 45 []]]] []) (Lr a0 a1_0) (P1 (T:=Ac) AV.agg):=by
  obtain ⟨d,rfl,g⟩:=up hd
  refine A8 (t37 NN d _ _) ?_
  unfold b37 Lr
  refine AD (n:=5) rfl rfl (by decide) fun b1=>AT rfl fun b2=>AB 1 rfl rfl rfl<|A5 (aF1 (AS (Ar (l0:=k0) (x:=a0))) fun l0_=>w22 (by omega) l0_ a0) fun y1 hy1=>q_p fr<|q_i ?_ ?_
  ·exact q_p (fun _=>CQ rfl)<|AN 0 rfl rfl rfl (by decide) rfl<|Bi (fun S hS=>hS.lda 0 rfl rfl) (Bf (α:=Ac) (β:=Int×Aa) (f:=fun x=>(x.Code,x.Cluster)) (x:=(⟨y1,(⟨0,[],[],[],[]⟩:Aa)⟩:Ac)) rfl (An (AH (n:=y1)) (Bf (α:=Aa) (β:=Int×(List Int)×(List Af)×(List Ah)×(List Ag)) (f:=fun x=>(x.F,x.Bad,x.Replicas,x.Ledger,x.Requests)) (x:=(⟨0,[],[],[],[]⟩:Aa)) rfl (An (AH (n:=0)) (An (A4 (α:=Int) (fl:=true)) (An (A4 (α:=Af) (fl:=true)) (An (A4 (α:=Ah) (fl:=true)) (A4 (α:=Ag) (fl:=true))))))))) rfl
  ·refine AB 1 rfl rfl rfl<|I6 (mg:=m76 a0) (aF1 (AS (Ar (l0:=k0) (x:=a0))) fun l0_=>w76 (by omega) l0_ a0) fun y2 hy2 i1 cs1 hq_=>EE (fun S hS=>E8 (hS.get (k:=0) rfl)) fun hcs_=>?_
   obtain ⟨v1,v2,v3,v4,rfl⟩:=hcs_
   refine I3 (x:=(y2.F,y2.Bad,y2.Replicas,y2.Ledger,y2.Requests)) hq_ rfl (fun _ h=>h) fun i2 i3 i4 i5=>AT rfl fun b3=>AN 0 rfl rfl rfl (by decide) rfl<|DL (mg:=Lp y2 a1_0) (fun S=>MA _ _ _ _) (cO (by omega) _ b3 i2 i3 i4 i5 v1 v2 v3 v4 y2 k1_0 a1_0 k1_1) fun y3 hy3 ⟨i6,i7,v5,v6⟩=>q_p fr<|q_i ?_ ?_
   ·exact q_p (fun _=>CQ rfl)<|AN 5 rfl rfl rfl (by decide) rfl<|Bi (fun S hS=>hS.lda 5 rfl rfl) (Bf (α:=Ac) (β:=Int×Aa) (f:=fun x=>(x.Code,x.Cluster)) (x:=(⟨y3.1,(⟨0,[],[],[],[]⟩:Aa)⟩:Ac)) rfl (An (AH (n:=y3.1)) (Bf (α:=Aa) (β:=Int×(List Int)×(List Af)×(List Ah)×(List Ag)) (f:=fun x=>(x.F,x.Bad,x.Replicas,x.Ledger,x.Requests)) (x:=(⟨0,[],[],[],[]⟩:Aa)) rfl (An (AH (n:=0)) (An (A4 (α:=Int) (fl:=true)) (An (A4 (α:=Af) (fl:=true)) (An (A4 (α:=Ah) (fl:=true)) (A4 (α:=Ag) (fl:=true))))))))) rfl
   ·refine AB 0 rfl rfl rfl<|Gq (W:=AV.agg) (mg:=m76 y3.2) CY (aF1 (AS (Ab (Ae rfl) (Ab (CU 1 rfl) (Ab (CU 2 rfl) (Ab (CG (α:=Ah) 3 rfl) (Ab (EG (α:=Ag) 4 rfl) Ao)))))) fun l0_=>NH (by omega) l0_ y3.2) fun y4 hy4 i8 cs2=>EE (fun S hS=>E8 (hS.get (k:=0) rfl)) fun hcs_=>?_
    obtain ⟨v7,v8,v9,v10,rfl⟩:=hcs_
    exact q_p (fun _=>FL rfl)<|AN 6 rfl rfl rfl (by decide) rfl<|Bi (fun S hS=>hS.lda 6 rfl rfl) (Bf (α:=Ac) (β:=Int×Aa) (f:=fun x=>(x.Code,x.Cluster)) (x:=(⟨0,y4⟩:Ac)) rfl (An (AH (n:=0)) (Do 0 rfl))) rfl
def Lq (a0:Aa) (a1:Int):Option (Ac):=(Lr a0 a1).bind fun y1=>some y1
theorem cP {d:Nat} (hd:292≤d) (k0:Bool) (a0:Aa) (a1:Int):Fit (R NN d 40 [.agg (Enc.cs k0 a0),iW a1,.fn 45 []] []) (Lq a0 a1) (P1 (T:=Ac) AV.agg):=by
  obtain ⟨d,rfl,g⟩:=up hd
  refine A8 (t40 NN d _ _ _) ?_
  unfold b40 Lq
  refine AD (n:=5) rfl rfl (by decide) fun b1=>AD (n:=1) rfl rfl (by decide) fun b2=>AD (n:=1) rfl rfl (by decide) fun b3=>AT rfl fun b4=>AB 3 rfl rfl rfl<|Gq (W:=AV.agg) (mg:=Lr a0 a1) CY (aF2 (AS (Ar (l0:=k0) (x:=a0))) (BJ (Ab (Bv 2 rfl (Ar (l0:=false) (x:=a1))) (Ab (Bv 1 rfl (Ab (BJ Ao) Ao)) Ao))) fun l0_ l1_=>cQ (by omega) l0_ a0 l1_ a1 l1_) fun y1 hy1 i1 cs1=>EE (fun S hS=>K5 (hS.get (k:=0) rfl)) fun hcs_=>?_
  obtain ⟨v1,v2,v3,v4,rfl⟩:=hcs_
  exact AN 1 rfl rfl rfl (by decide) rfl<|Bi (fun S hS=>hS.lda 1 rfl rfl) (Do 0 rfl) rfl
theorem Y7 {d:Nat} (hd:292≤d) (k0:Bool) (a0:Aa) (a1:Int):Fit (R NN d 40 [.agg (Enc.cs k0 a0),iW a1,.fn 45 []] []) (Lq a0 a1) (P0 (fun (t:Ac)=>AV.agg (Enc.cs false t))):=Ff (cP hd k0 a0 a1)
def m18 (a0:Aa) (a1:Int):Option (Ac):=(Lq a0 a1).bind fun y1=>some y1
theorem w18 {d:Nat} (hd:436≤d) (k0:Bool) (a0:Aa) (a1:Int):Fit (R NN d 18 [.agg (Enc.cs k0 a0),iW a1] []) (m18 a0 a1) (P0 (fun (t:Ac)=>AV.agg (Enc.cs false t))):=by
  obtain ⟨d,rfl,g⟩:=up hd
  refine A8 (t18 NN d _ _) ?_
  unfold b18 m18
  exact AD (n:=5) rfl rfl (by decide) fun b1=>AT rfl fun b2=>AB 1 rfl rfl rfl<|A5 (aF3 (AS (Ar (l0:=k0) (x:=a0))) (Ae rfl) (BJ Ao) fun l0_ l1_ l2_=>Y7 (by omega) l0_ a0 a1) fun y1 hy1=>AN 0 rfl rfl rfl (by decide) rfl<|CZ (fun S hS=>hS.lda 0 rfl rfl) (AS (Ar (l0:=false) (x:=y1))) rfl
def m92 (a0:Aa) (a1:Int) (a2:Int):Option (Int×Aa):=( (Aq a0.Replicas a1).bind fun x1=>(Aq a0.Replicas a1).bind fun x2=>(Aq a0.Replicas a1).bind fun x3=>bif x3.Start != (-1) then some (LO.ret 8) else (m93 a0.F a0.Ledger a2).bind fun y1=>bif !y1 then some (LO.ret 10) else (Aq a0.Ledger a2).bind fun x4=>(Aq a0.Replicas a1).bind fun x5=>(Aq a0.Replicas a1).bind fun x6=>(Aq a0.Replicas a1).bind fun x7=>bif x4.View != x7.View then some (LO.ret 10) else some (LO.norm 0)).bind (Ai (fun s2=>(Aq a0.Replicas a1).bind fun x8=>(Aq a0.Replicas a1).bind fun x9=>(Aq a0.Replicas a1).bind fun x10=>QS (a0.Replicas.set (Int.toNat a1) ({ x10 with Start:=a2 })) fun z1=>some (0,(⟨a0.F,a0.Bad,z1,a0.Ledger,a0.Requests⟩:Aa))) (fun i1 s2=>none) (fun s2=>some (s2,a0)))
theorem w92 {d:Nat} (hd:142≤d) (L0:List En) (b0_:Nat) (i0_1 i0_2 i0_3 i0_4:List Nat) (v0_1 v0_2 v0_3 v0_4:AV) (a0:Aa) (a1:Int) (k2:Bool) (a2:Int):Okh (bx b0_ [iW a0.F,v0_1,v0_2,v0_3,v0_4]::tr i0_1 [v0_1] (a0.Bad:List Int)::tr i0_2 [v0_2] (a0.Replicas:List Af)::wls i0_3 v0_3 (a0.Ledger:List Ah)::wla i0_4 v0_4 (a0.Requests:List Ag)::L0) (fun S=>R NN d 92 [.bp b0_ 0 0 5 1,elP 4 v0_2 (Int.toNat a1),.rp k2 (Enc.cs k2 a2)] S) (m92 a0 a1 a2) (P5 (fun (x:List Nat×List Nat×AV×AV) (t:Int×Aa)=>AV.int .i64 t.1) (fun (x:List Nat×List Nat×AV×AV) (t:Int×Aa)=>bx b0_ [iW t.2.F,v0_1,v0_2,x.2.2.1,x.2.2.2]::tr i0_1 [v0_1] (t.2.Bad:List Int)::tr i0_2 [v0_2] (t.2.Replicas:List Af)::wls x.1 x.2.2.1 (t.2.Ledger:List Ah)::wla x.2.1 x.2.2.2 (t.2.Requests:List Ag)::L0)):=by
  obtain ⟨d,rfl,g⟩:=up hd
  refine D9 (t92 NN d _ _ _) ?_
  unfold b92 m92
  refine AY (A:=fun (s:Int)=>[iW s]) (B:=fun s=>bx b0_ [iW a0.F,v0_1,v0_2,v0_3,v0_4]::tr i0_1 [v0_1] (a0.Bad:List Int)::tr i0_2 [v0_2] (a0.Replicas:List Af)::wls i0_3 v0_3 (a0.Ledger:List Ah)::wla i0_4 v0_4 (a0.Requests:List Ag)::L0) ?_ ?_ ?_ ?_
  ·refine BZ fun x1 hx1=>EN 2 rfl hx1<|BZ fun x2 hx2=>GE 2 rfl hx2 (by decide)<|BZ fun x3 hx3=>KG 2 rfl rfl hx3 Q7<|q_p fr<|q_i ?_ ?_
   ·exact Am 0 rr
   ·refine q_q fr<|q_p fr<|Au 0 rfl rfl<|q_q fr<|q_p fr<|Au 0 rfl rfl<|q_p fr<|A5 (aF3 (Ae rfl) (CG (α:=Ah) 3 rfl) (Ae rfl) fun l0_ l1_ l2_=>w93 (by omega) a0.F l1_ a0.Ledger a2) fun y1 hy1=>q_p fr<|q_j ?_ ?_
    ·first | refine BL ?_ | skip
     exact Am 0 rr
    ·exact q_q fr<|q_p fr<|Au 0 rfl rfl<|q_p fr<|bH 3 rfl rfl fun x4 hx4=>jP 3 rfl rfl hx4 (by decide)<|jM 3 rfl rfl hx4 (by decide) rfl<|BZ fun x5 hx5=>EN 2 rfl hx5<|BZ fun x6 hx6=>GE 2 rfl hx6 (by decide)<|BZ fun x7 hx7=>KG 2 rfl rfl hx7 MR<|q_p fr<|q_i (Am 0 rr)<|Ad 0 rr
  ·exact fun s2=>q_p fr<|BZ fun x8 hx8=>EN 2 rfl hx8<|BZ fun x9 hx9=>GE 2 rfl hx9 (by decide)<|BZ fun x10 hx10=>OP 2 rfl rfl hx10 rfl (HN a2) fun z1 hz1=>AX (i0_3,i0_4,v0_3,v0_4) 0 rfl rfl
  ·exact fun i1 s2=>As
  ·exact fun s2=>AX (i0_3,i0_4,v0_3,v0_4) 0 rfl rfl
def m46 (a0:Int):Int:=a0
theorem w46 {d:Nat} (hd:143≤d) (a0:Int):Fit (R NN d 46 [iW a0] []) (some (m46 a0)) (P0 (fun (t:Int)=>AV.fn 92 [.rp false (Enc.cs false t)])):=by
  obtain ⟨d,rfl,g⟩:=up hd
  refine A8 (t46 NN d _) ?_
  unfold b46 m46
  exact AD (n:=1) rfl rfl (by decide) fun b1=>Ak (BJ (Ab (LX 0 rfl rfl) Ao)) rfl
def Lj (a0:Aa) (a1:Int) (a2_0:Int):Option (Int×Aa):=(G4 a0 a1).bind fun y1=>HW y1 ( some (4,a0)) fun r1=>(Aq a0.Replicas r1).bind fun x2=>(m92 a0 r1 a2_0).bind fun y2=>some (y2.1,y2.2)
theorem cJ {d:Nat} (hd:143≤d) (L0:List En) (b0_:Nat) (i0_1 i0_2 i0_3 i0_4:List Nat) (v0_1 v0_2 v0_3 v0_4:AV) (a0:Aa) (a1:Int) (k2_0:Bool) (a2_0:Int):Okh (bx b0_ [iW a0.F,v0_1,v0_2,v0_3,v0_4]::tr i0_1 [v0_1] (a0.Bad:List Int)::tr i0_2 [v0_2] (a0.Replicas:List Af)::wls i0_3 v0_3 (a0.Ledger:List Ah)::wla i0_4 v0_4 (a0.Requests:List Ag)::L0) (fun S=>R NN d 78 [.bp b0_ 0 0 5 1,iW a1,.fn 92 [.rp k2_0 (Enc.cs k2_0 a2_0)]] S) (Lj a0 a1 a2_0) (P5 (fun (x:List Nat×List Nat×AV×AV) (t:Int×Aa)=>AV.int .i64 t.1) (fun (x:List Nat×List Nat×AV×AV) (t:Int×Aa)=>bx b0_ [iW t.2.F,v0_1,v0_2,x.2.2.1,x.2.2.2]::tr i0_1 [v0_1] (t.2.Bad:List Int)::tr i0_2 [v0_2] (t.2.Replicas:List Af)::wls x.1 x.2.2.1 (t.2.Ledger:List Ah)::wla x.2.1 x.2.2.2 (t.2.Requests:List Ag)::L0)):=by
  obtain ⟨d,rfl,g⟩:=up hd
  refine D9 (t78 NN d _ _ _) ?_
  unfold b78 Lj
  refine KE (mg:=G4 a0 a1) (v0:=fun _=>AV.nilp) (v1:=fun x r=>elP 4 v0_2 (Int.toNat r)) (fun _=>rfl) (fun _ _=>rfl) (Qo (by omega) _ b0_ i0_1 i0_2 i0_3 i0_4 v0_1 v0_2 v0_3 v0_4 a0 a1) (fun x1=>?_) (fun r1 x1 hy1=>?_)
  ·refine q_p (fun _=>Gu) ?_
   first | refine BL ?_ | skip
   exact AX (i0_3,i0_4,v0_3,v0_4) 0 rfl rfl
  ·refine BZ fun x2 hx2=>QA (f:=fun a=>Ec Tryz.prog .eql 53 a .nilp) 2 rfl hx2 (fun _ _ _ _ _=>Gv _ _ _ _ _) ?_
   first | refine Dy ?_ | skip
   exact DL (mg:=m92 a0 r1 a2_0) (fun S=>Ri _ _ _ _) (w92 (by omega) _ b0_ i0_1 i0_2 i0_3 i0_4 v0_1 v0_2 v0_3 v0_4 a0 r1 k2_0 a2_0) fun y2 hy2 ⟨i1,i2,v1,v2⟩=>AX (i1,i2,v1,v2) 0 rfl rfl
def Ll (a0:Aa) (a1:Int) (a2_0:Int):Option (Int×Aa):=(Lj a0 a1 a2_0).bind fun y1=>some (y1.1,y1.2)
theorem cK {d:Nat} (hd:144≤d) (L0:List En) (b0_:Nat) (i0_1 i0_2 i0_3 i0_4:List Nat) (v0_1 v0_2 v0_3 v0_4:AV) (a0:Aa) (k1:Bool) (a1:Int) (k2:Bool) (k2_0:Bool) (a2_0:Int):Okh (bx b0_ [iW a0.F,v0_1,v0_2,v0_3,v0_4]::tr i0_1 [v0_1] (a0.Bad:List Int)::tr i0_2 [v0_2] (a0.Replicas:List Af)::wls i0_3 v0_3 (a0.Ledger:List Ah)::wla i0_4 v0_4 (a0.Requests:List Ag)::L0) (fun S=>R NN d 77 [.bp b0_ 0 0 5 1,.rp k1 (Enc.cs k1 a1),.rp k2 [.fn 92 [.rp k2_0 (Enc.cs k2_0 a2_0)]]] S) (Ll a0 a1 a2_0) (P5 (fun (x:List Nat×List Nat×AV×AV) (t:Int×Aa)=>AV.int .i64 t.1) (fun (x:List Nat×List Nat×AV×AV) (t:Int×Aa)=>bx b0_ [iW t.2.F,v0_1,v0_2,x.2.2.1,x.2.2.2]::tr i0_1 [v0_1] (t.2.Bad:List Int)::tr i0_2 [v0_2] (t.2.Replicas:List Af)::wls x.1 x.2.2.1 (t.2.Ledger:List Ah)::wla x.2.1 x.2.2.2 (t.2.Requests:List Ag)::L0)):=by
  obtain ⟨d,rfl,g⟩:=up hd
  refine D9 (t77 NN d _ _ _) ?_
  unfold b77 Ll
  exact q_p fr<|q_p fr<|DL (mg:=Lj a0 a1 a2_0) (fun S=>rfl) (cJ (by omega) _ b0_ i0_1 i0_2 i0_3 i0_4 v0_1 v0_2 v0_3 v0_4 a0 a1 k2_0 a2_0) fun y1 hy1 ⟨i1,i2,v1,v2⟩=>AX (i1,i2,v1,v2) 0 rfl rfl
def Ln (a0:Aa) (a1_0:Int) (a1_1_0:Int):Option (Ac):=(m22 a0).bind fun y1=>bif y1 != 0 then some (⟨y1,(⟨0,[],[],[],[]⟩:Aa)⟩:Ac) else (m76 a0).bind fun y2=>(Ll y2 a1_0 a1_1_0).bind fun y3=>bif y3.1 != 0 then some (⟨y3.1,(⟨0,[],[],[],[]⟩:Aa)⟩:Ac) else (m76 y3.2).bind fun y4=>some (⟨0,y4⟩:Ac)
theorem cM {d:Nat} (hd:145≤d) (k0:Bool) (a0:Aa) (k1_0:Bool) (a1_0:Int) (k1_1:Bool) (k1_1_0:Bool) (a1_1_0:Int):Fit (R NN d 37 [.agg (Enc.cs k0 a0),.fn 77 [.rp k1_0 (Enc.cs k1_0 a1_0),.rp k1_1 [.fn 92 [.rp k1_1_0 (Enc.cs k1_1_0 a1_1_0)]]]] []) (Ln a0 a1_0 a1_1_0) (P1 (T:=Ac) AV.agg):=by
  obtain ⟨d,rfl,g⟩:=up hd
  refine A8 (t37 NN d _ _) ?_
  unfold b37 Ln
  refine AD (n:=5) rfl rfl (by decide) fun b1=>AT rfl fun b2=>AB 1 rfl rfl rfl<|A5 (aF1 (AS (Ar (l0:=k0) (x:=a0))) fun l0_=>w22 (by omega) l0_ a0) fun y1 hy1=>q_p fr<|q_i ?_ ?_
  ·exact q_p (fun _=>CQ rfl)<|AN 0 rfl rfl rfl (by decide) rfl<|Bi (fun S hS=>hS.lda 0 rfl rfl) (Bf (α:=Ac) (β:=Int×Aa) (f:=fun x=>(x.Code,x.Cluster)) (x:=(⟨y1,(⟨0,[],[],[],[]⟩:Aa)⟩:Ac)) rfl (An (AH (n:=y1)) (Bf (α:=Aa) (β:=Int×(List Int)×(List Af)×(List Ah)×(List Ag)) (f:=fun x=>(x.F,x.Bad,x.Replicas,x.Ledger,x.Requests)) (x:=(⟨0,[],[],[],[]⟩:Aa)) rfl (An (AH (n:=0)) (An (A4 (α:=Int) (fl:=true)) (An (A4 (α:=Af) (fl:=true)) (An (A4 (α:=Ah) (fl:=true)) (A4 (α:=Ag) (fl:=true))))))))) rfl
  ·refine AB 1 rfl rfl rfl<|I6 (mg:=m76 a0) (aF1 (AS (Ar (l0:=k0) (x:=a0))) fun l0_=>w76 (by omega) l0_ a0) fun y2 hy2 i1 cs1 hq_=>EE (fun S hS=>E8 (hS.get (k:=0) rfl)) fun hcs_=>?_
   obtain ⟨v1,v2,v3,v4,rfl⟩:=hcs_
   refine I3 (x:=(y2.F,y2.Bad,y2.Replicas,y2.Ledger,y2.Requests)) hq_ rfl (fun _ h=>h) fun i2 i3 i4 i5=>AT rfl fun b3=>AN 0 rfl rfl rfl (by decide) rfl<|DL (mg:=Ll y2 a1_0 a1_1_0) (fun S=>M9 _ _ _ _) (cK (by omega) _ b3 i2 i3 i4 i5 v1 v2 v3 v4 y2 k1_0 a1_0 k1_1 k1_1_0 a1_1_0) fun y3 hy3 ⟨i6,i7,v5,v6⟩=>q_p fr<|q_i ?_ ?_
   ·exact q_p (fun _=>CQ rfl)<|AN 5 rfl rfl rfl (by decide) rfl<|Bi (fun S hS=>hS.lda 5 rfl rfl) (Bf (α:=Ac) (β:=Int×Aa) (f:=fun x=>(x.Code,x.Cluster)) (x:=(⟨y3.1,(⟨0,[],[],[],[]⟩:Aa)⟩:Ac)) rfl (An (AH (n:=y3.1)) (Bf (α:=Aa) (β:=Int×(List Int)×(List Af)×(List Ah)×(List Ag)) (f:=fun x=>(x.F,x.Bad,x.Replicas,x.Ledger,x.Requests)) (x:=(⟨0,[],[],[],[]⟩:Aa)) rfl (An (AH (n:=0)) (An (A4 (α:=Int) (fl:=true)) (An (A4 (α:=Af) (fl:=true)) (An (A4 (α:=Ah) (fl:=true)) (A4 (α:=Ag) (fl:=true))))))))) rfl
   ·refine AB 0 rfl rfl rfl<|Gq (W:=AV.agg) (mg:=m76 y3.2) CY (aF1 (AS (Ab (Ae rfl) (Ab (CU 1 rfl) (Ab (CU 2 rfl) (Ab (CG (α:=Ah) 3 rfl) (Ab (EG (α:=Ag) 4 rfl) Ao)))))) fun l0_=>NH (by omega) l0_ y3.2) fun y4 hy4 i8 cs2=>EE (fun S hS=>E8 (hS.get (k:=0) rfl)) fun hcs_=>?_
    obtain ⟨v7,v8,v9,v10,rfl⟩:=hcs_
    exact q_p (fun _=>FL rfl)<|AN 6 rfl rfl rfl (by decide) rfl<|Bi (fun S hS=>hS.lda 6 rfl rfl) (Bf (α:=Ac) (β:=Int×Aa) (f:=fun x=>(x.Code,x.Cluster)) (x:=(⟨0,y4⟩:Ac)) rfl (An (AH (n:=0)) (Do 0 rfl))) rfl
def Lm (a0:Aa) (a1:Int) (a2_0:Int):Option (Ac):=(Ln a0 a1 a2_0).bind fun y1=>some y1
theorem cL {d:Nat} (hd:290≤d) (k0:Bool) (a0:Aa) (a1:Int) (k2_0:Bool) (a2_0:Int):Fit (R NN d 40 [.agg (Enc.cs k0 a0),iW a1,.fn 92 [.rp k2_0 (Enc.cs k2_0 a2_0)]] []) (Lm a0 a1 a2_0) (P1 (T:=Ac) AV.agg):=by
  obtain ⟨d,rfl,g⟩:=up hd
  refine A8 (t40 NN d _ _ _) ?_
  unfold b40 Lm
  refine AD (n:=5) rfl rfl (by decide) fun b1=>AD (n:=1) rfl rfl (by decide) fun b2=>AD (n:=1) rfl rfl (by decide) fun b3=>AT rfl fun b4=>AB 3 rfl rfl rfl<|Gq (W:=AV.agg) (mg:=Ln a0 a1 a2_0) CY (aF2 (AS (Ar (l0:=k0) (x:=a0))) (BJ (Ab (Bv 2 rfl (Ar (l0:=false) (x:=a1))) (Ab (Bv 1 rfl (Ab (BJ (Ab (Bc (Ar (l0:=k2_0) (x:=a2_0)) (fun _ _ _ h=>Enc.frz k2_0 a2_0 _ _ _ h)) Ao)) Ao)) Ao))) fun l0_ l1_=>cM (by omega) l0_ a0 l1_ a1 l1_ l1_ a2_0) fun y1 hy1 i1 cs1=>EE (fun S hS=>K5 (hS.get (k:=0) rfl)) fun hcs_=>?_
  obtain ⟨v1,v2,v3,v4,rfl⟩:=hcs_
  exact AN 1 rfl rfl rfl (by decide) rfl<|Bi (fun S hS=>hS.lda 1 rfl rfl) (Do 0 rfl) rfl
theorem Y6 {d:Nat} (hd:290≤d) (k0:Bool) (a0:Aa) (a1:Int) (k2_0:Bool) (a2_0:Int):Fit (R NN d 40 [.agg (Enc.cs k0 a0),iW a1,.fn 92 [.rp k2_0 (Enc.cs k2_0 a2_0)]] []) (Lm a0 a1 a2_0) (P0 (fun (t:Ac)=>AV.agg (Enc.cs false t))):=Ff (cL hd k0 a0 a1 k2_0 a2_0)
def m19 (a0:Aa) (a1:Int) (a2:Int):Option (Ac):=(Lm a0 a1 (m46 a2)).bind fun y1=>some y1
theorem w19 {d:Nat} (hd:434≤d) (k0:Bool) (a0:Aa) (a1:Int) (a2:Int):Fit (R NN d 19 [.agg (Enc.cs k0 a0),iW a1,iW a2] []) (m19 a0 a1 a2) (P0 (fun (t:Ac)=>AV.agg (Enc.cs false t))):=by
  obtain ⟨d,rfl,g⟩:=up hd
  refine A8 (t19 NN d _ _ _) ?_
  unfold b19 m19
  exact AD (n:=5) rfl rfl (by decide) fun b1=>AT rfl fun b2=>AB 1 rfl rfl rfl<|AA (aF1 (Ae rfl) fun l0_=>w46 (by omega) a2)<|A5 (aF3 (AS (Ar (l0:=k0) (x:=a0))) (Ae rfl) (BJ (Ab (Bc (Ar (l0:=false) (x:=(m46 a2))) (fun _ _ _ h=>Enc.frz false (m46 a2) _ _ _ h)) Ao)) fun l0_ l1_ l2_=>Y6 (by omega) l0_ a0 a1 l2_ (m46 a2)) fun y1 hy1=>AN 0 rfl rfl rfl (by decide) rfl<|CZ (fun S hS=>hS.lda 0 rfl rfl) (AS (Ar (l0:=false) (x:=y1))) rfl
def m47 (a0:Aa) (a1:Int):Option (Int×Aa):=(m53 a0.F a0.Ledger).bind fun y1=>(Aq a0.Replicas a1).bind fun x1=>(Aq a0.Replicas a1).bind fun x2=>(Aq a0.Replicas a1).bind fun x3=>bif decide ((y1.length:Int)≤x3.Done) then some (8,a0) else (Aq a0.Replicas a1).bind fun x4=>(Aq a0.Replicas a1).bind fun x5=>(Aq a0.Replicas a1).bind fun x6=>(Aq y1 x6.Done).bind fun x7=>bif !(m81 a0 x7) then some (4,a0) else (Aq a0.Replicas a1).bind fun x8=>(Aq a0.Replicas a1).bind fun x9=>(Aq a0.Replicas a1).bind fun x10=>(Aq a0.Replicas a1).bind fun x11=>(Aq a0.Replicas a1).bind fun x12=>(Aq a0.Replicas a1).bind fun x13=>QS (a0.Replicas.set (Int.toNat a1) ({ x13 with Done:=wi .i64 (x10.Done + 1) })) fun z1=>some (0,(⟨a0.F,a0.Bad,z1,a0.Ledger,a0.Requests⟩:Aa))
theorem w47 {d:Nat} (hd:138≤d) (L0:List En) (b0_:Nat) (i0_1 i0_2 i0_3 i0_4:List Nat) (v0_1 v0_2 v0_3 v0_4:AV) (a0:Aa) (a1:Int):Okh (bx b0_ [iW a0.F,v0_1,v0_2,v0_3,v0_4]::tr i0_1 [v0_1] (a0.Bad:List Int)::tr i0_2 [v0_2] (a0.Replicas:List Af)::wls i0_3 v0_3 (a0.Ledger:List Ah)::wla i0_4 v0_4 (a0.Requests:List Ag)::L0) (fun S=>R NN d 47 [.bp b0_ 0 0 5 1,elP 4 v0_2 (Int.toNat a1)] S) (m47 a0 a1) (P5 (fun (x:List Nat×List Nat×AV×AV) (t:Int×Aa)=>AV.int .i64 t.1) (fun (x:List Nat×List Nat×AV×AV) (t:Int×Aa)=>bx b0_ [iW t.2.F,v0_1,v0_2,x.2.2.1,x.2.2.2]::tr i0_1 [v0_1] (t.2.Bad:List Int)::tr i0_2 [v0_2] (t.2.Replicas:List Af)::wls x.1 x.2.2.1 (t.2.Ledger:List Ah)::wla x.2.1 x.2.2.2 (t.2.Requests:List Ag)::L0)):=by
  obtain ⟨d,rfl,g⟩:=up hd
  refine D9 (t47 NN d _ _) ?_
  unfold b47 m47
  exact q_q fr<|q_p fr<|Au 0 rfl rfl<|q_q fr<|q_p fr<|Au 0 rfl rfl<|A5 (aF2 (Ae rfl) (CG (α:=Ah) 3 rfl) fun l0_ l1_=>w53 (by omega) a0.F l1_ a0.Ledger) fun y1 hy1=>A7<|BZ fun x1 hx1=>EN 2 rfl hx1<|BZ fun x2 hx2=>GE 2 rfl hx2 (by decide)<|BZ fun x3 hx3=>KG 2 rfl rfl hx3 Jf<|q_p fr<|q_i (AX (i0_3,i0_4,v0_3,v0_4) 0 rfl rfl)<|BZ fun x4 hx4=>EN 2 rfl hx4<|BZ fun x5 hx5=>GE 2 rfl hx5 (by decide)<|BZ fun x6 hx6=>KG 2 rfl rfl hx6 Jf<|Bd rfl fun x7 hx7=>q_p fr<|AA (aF2 (Bv 0 rfl (Ab (Ae rfl) (Ab (CU 1 rfl) (Ab (CU 2 rfl) (Ab (CG (α:=Ah) 3 rfl) (Ab (EG (α:=Ag) 4 rfl) Ao)))))) (Ae rfl) fun l0_ l1_=>w81 (by omega) l0_ a0 x7)<|q_p fr<|q_i (AX (i0_3,i0_4,v0_3,v0_4) 0 rfl rfl)<|BZ fun x8 hx8=>EN 2 rfl hx8<|BZ fun x9 hx9=>GE 2 rfl hx9 (by decide)<|BZ fun x10 hx10=>KG 2 rfl rfl hx10 Jf<|q_p fr<|BZ fun x11 hx11=>EN 2 rfl hx11<|BZ fun x12 hx12=>GE 2 rfl hx12 (by decide)<|BZ fun x13 hx13=>OP 2 rfl rfl hx13 rfl (Tz (wi .i64 (x10.Done + 1))) fun z1 hz1=>AX (i0_3,i0_4,v0_3,v0_4) 0 rfl rfl
def Lc (a0:Aa) (a1:Int):Option (Int×Aa):=(G4 a0 a1).bind fun y1=>HW y1 ( some (4,a0)) fun r1=>(Aq a0.Replicas r1).bind fun x2=>(m47 a0 r1).bind fun y2=>some (y2.1,y2.2)
theorem cF {d:Nat} (hd:139≤d) (L0:List En) (b0_:Nat) (i0_1 i0_2 i0_3 i0_4:List Nat) (v0_1 v0_2 v0_3 v0_4:AV) (a0:Aa) (a1:Int):Okh (bx b0_ [iW a0.F,v0_1,v0_2,v0_3,v0_4]::tr i0_1 [v0_1] (a0.Bad:List Int)::tr i0_2 [v0_2] (a0.Replicas:List Af)::wls i0_3 v0_3 (a0.Ledger:List Ah)::wla i0_4 v0_4 (a0.Requests:List Ag)::L0) (fun S=>R NN d 78 [.bp b0_ 0 0 5 1,iW a1,.fn 47 []] S) (Lc a0 a1) (P5 (fun (x:List Nat×List Nat×AV×AV) (t:Int×Aa)=>AV.int .i64 t.1) (fun (x:List Nat×List Nat×AV×AV) (t:Int×Aa)=>bx b0_ [iW t.2.F,v0_1,v0_2,x.2.2.1,x.2.2.2]::tr i0_1 [v0_1] (t.2.Bad:List Int)::tr i0_2 [v0_2] (t.2.Replicas:List Af)::wls x.1 x.2.2.1 (t.2.Ledger:List Ah)::wla x.2.1 x.2.2.2 (t.2.Requests:List Ag)::L0)):=by
  obtain ⟨d,rfl,g⟩:=up hd
  refine D9 (t78 NN d _ _ _) ?_
  unfold b78 Lc
  refine KE (mg:=G4 a0 a1) (v0:=fun _=>AV.nilp) (v1:=fun x r=>elP 4 v0_2 (Int.toNat r)) (fun _=>rfl) (fun _ _=>rfl) (Qo (by omega) _ b0_ i0_1 i0_2 i0_3 i0_4 v0_1 v0_2 v0_3 v0_4 a0 a1) (fun x1=>?_) (fun r1 x1 hy1=>?_)
  ·refine q_p (fun _=>Gu) ?_
   first | refine BL ?_ | skip
   exact AX (i0_3,i0_4,v0_3,v0_4) 0 rfl rfl
  ·refine BZ fun x2 hx2=>QA (f:=fun a=>Ec Tryz.prog .eql 53 a .nilp) 2 rfl hx2 (fun _ _ _ _ _=>Gv _ _ _ _ _) ?_
   first | refine Dy ?_ | skip
   exact DL (mg:=m47 a0 r1) (fun S=>Rh _ _ _ _) (w47 (by omega) _ b0_ i0_1 i0_2 i0_3 i0_4 v0_1 v0_2 v0_3 v0_4 a0 r1) fun y2 hy2 ⟨i1,i2,v1,v2⟩=>AX (i1,i2,v1,v2) 0 rfl rfl
def Ld (a0:Aa) (a1:Int):Option (Int×Aa):=(Lc a0 a1).bind fun y1=>some (y1.1,y1.2)
theorem cG {d:Nat} (hd:140≤d) (L0:List En) (b0_:Nat) (i0_1 i0_2 i0_3 i0_4:List Nat) (v0_1 v0_2 v0_3 v0_4:AV) (a0:Aa) (k1:Bool) (a1:Int) (k2:Bool):Okh (bx b0_ [iW a0.F,v0_1,v0_2,v0_3,v0_4]::tr i0_1 [v0_1] (a0.Bad:List Int)::tr i0_2 [v0_2] (a0.Replicas:List Af)::wls i0_3 v0_3 (a0.Ledger:List Ah)::wla i0_4 v0_4 (a0.Requests:List Ag)::L0) (fun S=>R NN d 77 [.bp b0_ 0 0 5 1,.rp k1 (Enc.cs k1 a1),.rp k2 [.fn 47 []]] S) (Ld a0 a1) (P5 (fun (x:List Nat×List Nat×AV×AV) (t:Int×Aa)=>AV.int .i64 t.1) (fun (x:List Nat×List Nat×AV×AV) (t:Int×Aa)=>bx b0_ [iW t.2.F,v0_1,v0_2,x.2.2.1,x.2.2.2]::tr i0_1 [v0_1] (t.2.Bad:List Int)::tr i0_2 [v0_2] (t.2.Replicas:List Af)::wls x.1 x.2.2.1 (t.2.Ledger:List Ah)::wla x.2.1 x.2.2.2 (t.2.Requests:List Ag)::L0)):=by
  obtain ⟨d,rfl,g⟩:=up hd
  refine D9 (t77 NN d _ _ _) ?_
  unfold b77 Ld
  exact q_p fr<|q_p fr<|DL (mg:=Lc a0 a1) (fun S=>rfl) (cF (by omega) _ b0_ i0_1 i0_2 i0_3 i0_4 v0_1 v0_2 v0_3 v0_4 a0 a1) fun y1 hy1 ⟨i1,i2,v1,v2⟩=>AX (i1,i2,v1,v2) 0 rfl rfl
def Lh (a0:Aa) (a1_0:Int):Option (Ac):=(m22 a0).bind fun y1=>bif y1 != 0 then some (⟨y1,(⟨0,[],[],[],[]⟩:Aa)⟩:Ac) else (m76 a0).bind fun y2=>(Ld y2 a1_0).bind fun y3=>bif y3.1 != 0 then some (⟨y3.1,(⟨0,[],[],[],[]⟩:Aa)⟩:Ac) else (m76 y3.2).bind fun y4=>some (⟨0,y4⟩:Ac)
theorem cI {d:Nat} (hd:144≤d) (k0:Bool) (a0:Aa) (k1_0:Bool) (a1_0:Int) (k1_1:Bool):Fit (R NN d 37 [.agg (Enc.cs k0 a0),.fn 77 [.rp k1_0 (Enc.cs k1_0 a1_0),.rp k1_1 [.fn 47 []]]] []) (Lh a0 a1_0) (P1 (T:=Ac) AV.agg):=by
  obtain ⟨d,rfl,g⟩:=up hd
  refine A8 (t37 NN d _ _) ?_
  unfold b37 Lh
  refine AD (n:=5) rfl rfl (by decide) fun b1=>AT rfl fun b2=>AB 1 rfl rfl rfl<|A5 (aF1 (AS (Ar (l0:=k0) (x:=a0))) fun l0_=>w22 (by omega) l0_ a0) fun y1 hy1=>q_p fr<|q_i ?_ ?_
  ·exact q_p (fun _=>CQ rfl)<|AN 0 rfl rfl rfl (by decide) rfl<|Bi (fun S hS=>hS.lda 0 rfl rfl) (Bf (α:=Ac) (β:=Int×Aa) (f:=fun x=>(x.Code,x.Cluster)) (x:=(⟨y1,(⟨0,[],[],[],[]⟩:Aa)⟩:Ac)) rfl (An (AH (n:=y1)) (Bf (α:=Aa) (β:=Int×(List Int)×(List Af)×(List Ah)×(List Ag)) (f:=fun x=>(x.F,x.Bad,x.Replicas,x.Ledger,x.Requests)) (x:=(⟨0,[],[],[],[]⟩:Aa)) rfl (An (AH (n:=0)) (An (A4 (α:=Int) (fl:=true)) (An (A4 (α:=Af) (fl:=true)) (An (A4 (α:=Ah) (fl:=true)) (A4 (α:=Ag) (fl:=true))))))))) rfl
  ·refine AB 1 rfl rfl rfl<|I6 (mg:=m76 a0) (aF1 (AS (Ar (l0:=k0) (x:=a0))) fun l0_=>w76 (by omega) l0_ a0) fun y2 hy2 i1 cs1 hq_=>EE (fun S hS=>E8 (hS.get (k:=0) rfl)) fun hcs_=>?_
   obtain ⟨v1,v2,v3,v4,rfl⟩:=hcs_
   refine I3 (x:=(y2.F,y2.Bad,y2.Replicas,y2.Ledger,y2.Requests)) hq_ rfl (fun _ h=>h) fun i2 i3 i4 i5=>AT rfl fun b3=>AN 0 rfl rfl rfl (by decide) rfl<|DL (mg:=Ld y2 a1_0) (fun S=>M8 _ _ _ _) (cG (by omega) _ b3 i2 i3 i4 i5 v1 v2 v3 v4 y2 k1_0 a1_0 k1_1) fun y3 hy3 ⟨i6,i7,v5,v6⟩=>q_p fr<|q_i ?_ ?_
   ·exact q_p (fun _=>CQ rfl)<|AN 5 rfl rfl rfl (by decide) rfl<|Bi (fun S hS=>hS.lda 5 rfl rfl) (Bf (α:=Ac) (β:=Int×Aa) (f:=fun x=>(x.Code,x.Cluster)) (x:=(⟨y3.1,(⟨0,[],[],[],[]⟩:Aa)⟩:Ac)) rfl (An (AH (n:=y3.1)) (Bf (α:=Aa) (β:=Int×(List Int)×(List Af)×(List Ah)×(List Ag)) (f:=fun x=>(x.F,x.Bad,x.Replicas,x.Ledger,x.Requests)) (x:=(⟨0,[],[],[],[]⟩:Aa)) rfl (An (AH (n:=0)) (An (A4 (α:=Int) (fl:=true)) (An (A4 (α:=Af) (fl:=true)) (An (A4 (α:=Ah) (fl:=true)) (A4 (α:=Ag) (fl:=true))))))))) rfl
   ·refine AB 0 rfl rfl rfl<|Gq (W:=AV.agg) (mg:=m76 y3.2) CY (aF1 (AS (Ab (Ae rfl) (Ab (CU 1 rfl) (Ab (CU 2 rfl) (Ab (CG (α:=Ah) 3 rfl) (Ab (EG (α:=Ag) 4 rfl) Ao)))))) fun l0_=>NH (by omega) l0_ y3.2) fun y4 hy4 i8 cs2=>EE (fun S hS=>E8 (hS.get (k:=0) rfl)) fun hcs_=>?_
    obtain ⟨v7,v8,v9,v10,rfl⟩:=hcs_
    exact q_p (fun _=>FL rfl)<|AN 6 rfl rfl rfl (by decide) rfl<|Bi (fun S hS=>hS.lda 6 rfl rfl) (Bf (α:=Ac) (β:=Int×Aa) (f:=fun x=>(x.Code,x.Cluster)) (x:=(⟨0,y4⟩:Ac)) rfl (An (AH (n:=0)) (Do 0 rfl))) rfl
def Le (a0:Aa) (a1:Int):Option (Ac):=(Lh a0 a1).bind fun y1=>some y1
theorem cH {d:Nat} (hd:285≤d) (k0:Bool) (a0:Aa) (a1:Int):Fit (R NN d 40 [.agg (Enc.cs k0 a0),iW a1,.fn 47 []] []) (Le a0 a1) (P1 (T:=Ac) AV.agg):=by
  obtain ⟨d,rfl,g⟩:=up hd
  refine A8 (t40 NN d _ _ _) ?_
  unfold b40 Le
  refine AD (n:=5) rfl rfl (by decide) fun b1=>AD (n:=1) rfl rfl (by decide) fun b2=>AD (n:=1) rfl rfl (by decide) fun b3=>AT rfl fun b4=>AB 3 rfl rfl rfl<|Gq (W:=AV.agg) (mg:=Lh a0 a1) CY (aF2 (AS (Ar (l0:=k0) (x:=a0))) (BJ (Ab (Bv 2 rfl (Ar (l0:=false) (x:=a1))) (Ab (Bv 1 rfl (Ab (BJ Ao) Ao)) Ao))) fun l0_ l1_=>cI (by omega) l0_ a0 l1_ a1 l1_) fun y1 hy1 i1 cs1=>EE (fun S hS=>K5 (hS.get (k:=0) rfl)) fun hcs_=>?_
  obtain ⟨v1,v2,v3,v4,rfl⟩:=hcs_
  exact AN 1 rfl rfl rfl (by decide) rfl<|Bi (fun S hS=>hS.lda 1 rfl rfl) (Do 0 rfl) rfl
theorem Y5 {d:Nat} (hd:285≤d) (k0:Bool) (a0:Aa) (a1:Int):Fit (R NN d 40 [.agg (Enc.cs k0 a0),iW a1,.fn 47 []] []) (Le a0 a1) (P0 (fun (t:Ac)=>AV.agg (Enc.cs false t))):=Ff (cH hd k0 a0 a1)
def m20 (a0:Aa) (a1:Int):Option (Ac):=(Le a0 a1).bind fun y1=>some y1
theorem w20 {d:Nat} (hd:424≤d) (k0:Bool) (a0:Aa) (a1:Int):Fit (R NN d 20 [.agg (Enc.cs k0 a0),iW a1] []) (m20 a0 a1) (P0 (fun (t:Ac)=>AV.agg (Enc.cs false t))):=by
  obtain ⟨d,rfl,g⟩:=up hd
  refine A8 (t20 NN d _ _) ?_
  unfold b20 m20
  exact AD (n:=5) rfl rfl (by decide) fun b1=>AT rfl fun b2=>AB 1 rfl rfl rfl<|A5 (aF3 (AS (Ar (l0:=k0) (x:=a0))) (Ae rfl) (BJ Ao) fun l0_ l1_ l2_=>Y5 (by omega) l0_ a0 a1) fun y1 hy1=>AN 0 rfl rfl rfl (by decide) rfl<|CZ (fun S hS=>hS.lda 0 rfl rfl) (AS (Ar (l0:=false) (x:=y1))) rfl
def m49 (a0:Aa) (a1:Ah):Option (Int×Aa):=(m94 a0.F a1).bind fun y1=>bif y1 != 0 then some (y1,a0) else (m72 a0.Bad a1.From).bind fun y2=>bif !y2 then some (10,a0) else (m89 a0 a1).bind fun y3=>some (y3.1,y3.2)
theorem w49 {d:Nat} (hd:8≤d) (L0:List En) (b0_:Nat) (i0_1 i0_2 i0_3 i0_4:List Nat) (v0_1 v0_2 v0_3 v0_4:AV) (a0:Aa) (k1:Bool) (a1:Ah):Okh (bx b0_ [iW a0.F,v0_1,v0_2,v0_3,v0_4]::tr i0_1 [v0_1] (a0.Bad:List Int)::tr i0_2 [v0_2] (a0.Replicas:List Af)::wls i0_3 v0_3 (a0.Ledger:List Ah)::wla i0_4 v0_4 (a0.Requests:List Ag)::L0) (fun S=>R NN d 49 [.bp b0_ 0 0 5 1,.agg (Enc.cs k1 a1)] S) (m49 a0 a1) (P5 (fun (x:List Nat×List Nat×AV×AV) (t:Int×Aa)=>AV.int .i64 t.1) (fun (x:List Nat×List Nat×AV×AV) (t:Int×Aa)=>bx b0_ [iW t.2.F,v0_1,v0_2,x.2.2.1,x.2.2.2]::tr i0_1 [v0_1] (t.2.Bad:List Int)::tr i0_2 [v0_2] (t.2.Replicas:List Af)::wls x.1 x.2.2.1 (t.2.Ledger:List Ah)::wla x.2.1 x.2.2.2 (t.2.Requests:List Ag)::L0)):=by
  obtain ⟨d,rfl,g⟩:=up hd
  refine D9 (t49 NN d _ _) ?_
  unfold b49 m49
  exact AD (n:=7) rfl rfl (by decide) fun b1=>q_q fr<|q_p fr<|Au 1 rfl rfl<|AB 0 rfl rfl rfl<|A5 (aF2 (Ae rfl) (AS (Ar (l0:=k1) (x:=a1))) fun l0_ l1_=>w94 (by omega) a0.F l1_ a1) fun y1 hy1=>q_p fr<|q_i (AX (i0_3,i0_4,v0_3,v0_4) 1 rfl rfl)<|q_q fr<|q_p fr<|Au 1 rfl rfl<|q_p fr<|Au 0 rfl rfl<|A5 (aF2 (CU 2 rfl) (Ae rfl) fun l0_ l1_=>w72 (by omega) l0_ a0.Bad a1.From) fun y2 hy2=>q_p fr<|q_i (AX (i0_3,i0_4,v0_3,v0_4) 1 rfl rfl)<|AB 0 rfl rfl rfl<|Dx 6 [1,2,3,4,5,0] (by decide) (by decide)<|DL (mg:=m89 a0 a1) (fun S=>rfl) (w89 (by omega) _ b0_ i0_1 i0_2 i0_3 i0_4 v0_1 v0_2 v0_3 v0_4 a0 _ _ _ _ _ _ _ a1 (Ar (l0:=k1) (x:=a1))) fun y3 hy3 ⟨i1,i2,v1,v2⟩=>Dx 6 [5,0,1,2,3,4] (by decide) (by decide)<|AX (i1,i2,v1,v2) 1 rfl rfl
def m48 (a0:Aa) (a1:Ah):Option (Int×Aa):=(m49 a0 a1).bind fun y1=>some (y1.1,y1.2)
theorem w48 {d:Nat} (hd:9≤d) (L0:List En) (b0_:Nat) (i0_1 i0_2 i0_3 i0_4:List Nat) (v0_1 v0_2 v0_3 v0_4:AV) (a0:Aa) (k1:Bool) (a1:Ah):Okh (bx b0_ [iW a0.F,v0_1,v0_2,v0_3,v0_4]::tr i0_1 [v0_1] (a0.Bad:List Int)::tr i0_2 [v0_2] (a0.Replicas:List Af)::wls i0_3 v0_3 (a0.Ledger:List Ah)::wla i0_4 v0_4 (a0.Requests:List Ag)::L0) (fun S=>R NN d 48 [.bp b0_ 0 0 5 1,.rp k1 (Enc.cs k1 a1)] S) (m48 a0 a1) (P5 (fun (x:List Nat×List Nat×AV×AV) (t:Int×Aa)=>AV.int .i64 t.1) (fun (x:List Nat×List Nat×AV×AV) (t:Int×Aa)=>bx b0_ [iW t.2.F,v0_1,v0_2,x.2.2.1,x.2.2.2]::tr i0_1 [v0_1] (t.2.Bad:List Int)::tr i0_2 [v0_2] (t.2.Replicas:List Af)::wls x.1 x.2.2.1 (t.2.Ledger:List Ah)::wla x.2.1 x.2.2.2 (t.2.Requests:List Ag)::L0)):=by
  obtain ⟨d,rfl,g⟩:=up hd
  refine D9 (t48 NN d _ _) ?_
  unfold b48 m48
  exact q_p fr<|DL (mg:=m49 a0 a1) (fun S=>rfl) (w49 (by omega) _ b0_ i0_1 i0_2 i0_3 i0_4 v0_1 v0_2 v0_3 v0_4 a0 k1 a1) fun y1 hy1 ⟨i1,i2,v1,v2⟩=>AX (i1,i2,v1,v2) 0 rfl rfl
def KZ (a0:Aa) (a1_0:Ah):Option (Ac):=(m22 a0).bind fun y1=>bif y1 != 0 then some (⟨y1,(⟨0,[],[],[],[]⟩:Aa)⟩:Ac) else (m76 a0).bind fun y2=>(m48 y2 a1_0).bind fun y3=>bif y3.1 != 0 then some (⟨y3.1,(⟨0,[],[],[],[]⟩:Aa)⟩:Ac) else (m76 y3.2).bind fun y4=>some (⟨0,y4⟩:Ac)
theorem cD {d:Nat} (hd:144≤d) (k0:Bool) (a0:Aa) (k1_0:Bool) (a1_0:Ah):Fit (R NN d 37 [.agg (Enc.cs k0 a0),.fn 48 [.rp k1_0 (Enc.cs k1_0 a1_0)]] []) (KZ a0 a1_0) (P1 (T:=Ac) AV.agg):=by
  obtain ⟨d,rfl,g⟩:=up hd
  refine A8 (t37 NN d _ _) ?_
  unfold b37 KZ
  refine AD (n:=5) rfl rfl (by decide) fun b1=>AT rfl fun b2=>AB 1 rfl rfl rfl<|A5 (aF1 (AS (Ar (l0:=k0) (x:=a0))) fun l0_=>w22 (by omega) l0_ a0) fun y1 hy1=>q_p fr<|q_i ?_ ?_
  ·exact q_p (fun _=>CQ rfl)<|AN 0 rfl rfl rfl (by decide) rfl<|Bi (fun S hS=>hS.lda 0 rfl rfl) (Bf (α:=Ac) (β:=Int×Aa) (f:=fun x=>(x.Code,x.Cluster)) (x:=(⟨y1,(⟨0,[],[],[],[]⟩:Aa)⟩:Ac)) rfl (An (AH (n:=y1)) (Bf (α:=Aa) (β:=Int×(List Int)×(List Af)×(List Ah)×(List Ag)) (f:=fun x=>(x.F,x.Bad,x.Replicas,x.Ledger,x.Requests)) (x:=(⟨0,[],[],[],[]⟩:Aa)) rfl (An (AH (n:=0)) (An (A4 (α:=Int) (fl:=true)) (An (A4 (α:=Af) (fl:=true)) (An (A4 (α:=Ah) (fl:=true)) (A4 (α:=Ag) (fl:=true))))))))) rfl
  ·refine AB 1 rfl rfl rfl<|I6 (mg:=m76 a0) (aF1 (AS (Ar (l0:=k0) (x:=a0))) fun l0_=>w76 (by omega) l0_ a0) fun y2 hy2 i1 cs1 hq_=>EE (fun S hS=>E8 (hS.get (k:=0) rfl)) fun hcs_=>?_
   obtain ⟨v1,v2,v3,v4,rfl⟩:=hcs_
   refine I3 (x:=(y2.F,y2.Bad,y2.Replicas,y2.Ledger,y2.Requests)) hq_ rfl (fun _ h=>h) fun i2 i3 i4 i5=>AT rfl fun b3=>AN 0 rfl rfl rfl (by decide) rfl<|DL (mg:=m48 y2 a1_0) (fun S=>Rb _ _ _ _) (w48 (by omega) _ b3 i2 i3 i4 i5 v1 v2 v3 v4 y2 k1_0 a1_0) fun y3 hy3 ⟨i6,i7,v5,v6⟩=>q_p fr<|q_i ?_ ?_
   ·exact q_p (fun _=>CQ rfl)<|AN 5 rfl rfl rfl (by decide) rfl<|Bi (fun S hS=>hS.lda 5 rfl rfl) (Bf (α:=Ac) (β:=Int×Aa) (f:=fun x=>(x.Code,x.Cluster)) (x:=(⟨y3.1,(⟨0,[],[],[],[]⟩:Aa)⟩:Ac)) rfl (An (AH (n:=y3.1)) (Bf (α:=Aa) (β:=Int×(List Int)×(List Af)×(List Ah)×(List Ag)) (f:=fun x=>(x.F,x.Bad,x.Replicas,x.Ledger,x.Requests)) (x:=(⟨0,[],[],[],[]⟩:Aa)) rfl (An (AH (n:=0)) (An (A4 (α:=Int) (fl:=true)) (An (A4 (α:=Af) (fl:=true)) (An (A4 (α:=Ah) (fl:=true)) (A4 (α:=Ag) (fl:=true))))))))) rfl
   ·refine AB 0 rfl rfl rfl<|Gq (W:=AV.agg) (mg:=m76 y3.2) CY (aF1 (AS (Ab (Ae rfl) (Ab (CU 1 rfl) (Ab (CU 2 rfl) (Ab (CG (α:=Ah) 3 rfl) (Ab (EG (α:=Ag) 4 rfl) Ao)))))) fun l0_=>NH (by omega) l0_ y3.2) fun y4 hy4 i8 cs2=>EE (fun S hS=>E8 (hS.get (k:=0) rfl)) fun hcs_=>?_
    obtain ⟨v7,v8,v9,v10,rfl⟩:=hcs_
    exact q_p (fun _=>FL rfl)<|AN 6 rfl rfl rfl (by decide) rfl<|Bi (fun S hS=>hS.lda 6 rfl rfl) (Bf (α:=Ac) (β:=Int×Aa) (f:=fun x=>(x.Code,x.Cluster)) (x:=(⟨0,y4⟩:Ac)) rfl (An (AH (n:=0)) (Do 0 rfl))) rfl
theorem Y3 {d:Nat} (hd:144≤d) (k0:Bool) (a0:Aa) (k1_0:Bool) (a1_0:Ah):Fit (R NN d 37 [.agg (Enc.cs k0 a0),.fn 48 [.rp k1_0 (Enc.cs k1_0 a1_0)]] []) (KZ a0 a1_0) (P0 (fun (t:Ac)=>AV.agg (Enc.cs false t))):=Ff (cD hd k0 a0 k1_0 a1_0)
def m21 (a0:Aa) (a1:Ah):Option (Ac):=(KZ a0 a1).bind fun y1=>some y1
theorem w21 {d:Nat} (hd:154≤d) (k0:Bool) (a0:Aa) (k1:Bool) (a1:Ah):Fit (R NN d 21 [.agg (Enc.cs k0 a0),.agg (Enc.cs k1 a1)] []) (m21 a0 a1) (P0 (fun (t:Ac)=>AV.agg (Enc.cs false t))):=by
  obtain ⟨d,rfl,g⟩:=up hd
  refine A8 (t21 NN d _ _) ?_
  unfold b21 m21
  exact AD (n:=5) rfl rfl (by decide) fun b1=>AD (n:=7) rfl rfl (by decide) fun b2=>AT rfl fun b3=>AB 2 rfl rfl rfl<|A5 (aF2 (AS (Ar (l0:=k0) (x:=a0))) (BJ (Ab (Bv 1 rfl (Ar (l0:=k1) (x:=a1))) Ao)) fun l0_ l1_=>Y3 (by omega) l0_ a0 l1_ a1) fun y1 hy1=>AN 0 rfl rfl rfl (by decide) rfl<|CZ (fun S hS=>hS.lda 0 rfl rfl) (AS (Ar (l0:=false) (x:=y1))) rfl
def KT (s3:Bool×Int×Int×(List Int)×(List Af)×(List Ah)×(List Ag)):Option (LO (Bool×Int×Int×(List Int)×(List Af)×(List Ah)×(List Ag))):=( ( bif decide (s3.2.1 < 5) then some (LO.norm s3.1) else some (LO.norm false)).bind (Ai (fun s6=>bif s6 then some (LO.norm s6) else some (LO.exit 0 s6)) (fun i2 s6=>some (LO.exit i2 s6)) (fun s6=>some (LO.ret s6)))).bind (Ai (fun s7=>(Aq [(⟨1,[],0,0,false,false⟩:TOp),(⟨3,([47,97]:Str),7,0,false,false⟩:TOp),(⟨5,([47,97]:Str),9,(-1),false,false⟩:TOp),(⟨3,([47,97,47,98]:Str),1,0,true,true⟩:TOp),(⟨6,([47,97]:Str),0,0,false,false⟩:TOp)] s3.2.1).bind fun x1=>(m13 (⟨s3.2.2.1,s3.2.2.2.1,s3.2.2.2.2.1,s3.2.2.2.2.2.1,s3.2.2.2.2.2.2⟩:Aa) (⟨wi .i64 (1 + (wi .i64 (Int.tdiv s3.2.1 3))),wi .i64 (s3.2.1 + 1),s3.2.1,[x1]⟩:Ag)).bind fun y3=>some (LO.norm (y3.Code == 0,wi .i64 (s3.2.1 + 1),y3.Cluster.F,y3.Cluster.Bad,y3.Cluster.Replicas,y3.Cluster.Ledger,y3.Cluster.Requests))) (fun i3 s7=>some (LO.exit i3 (s3.1,s3.2.1,s3.2.2.1,s3.2.2.2.1,s3.2.2.2.2.1,s3.2.2.2.2.2.1,s3.2.2.2.2.2.2))) (fun s7=>some (LO.ret (s3.1,s3.2.1,s3.2.2.1,s3.2.2.2.1,s3.2.2.2.2.1,s3.2.2.2.2.2.1,s3.2.2.2.2.2.2))))
def Pe (y4:Int) (s20:Int×Int×(List Int)×(List Af)×(List Ah)×(List Ag)):Option (LO (Int×Int×(List Int)×(List Af)×(List Ah)×(List Ag))):=( ( bif decide (s20.1 < (s20.2.2.2.2.1.length:Int)) then some (LO.norm (0 == 0)) else some (LO.norm false)).bind (Ai (fun s23=>bif s23 then some (LO.norm s23) else some (LO.exit 5 s23)) (fun i9 s23=>some (LO.exit i9 s23)) (fun s23=>some (LO.ret s23)))).bind (Ai (fun s24=>( (Aq s20.2.2.2.2.1 s20.1).bind fun x2=>bif x2.Kind == 1 then (m15 (⟨s20.2.1,s20.2.2.1,s20.2.2.2.1,s20.2.2.2.2.1,s20.2.2.2.2.2⟩:Aa) (wi .i64 (1 + y4)) s20.1).bind fun y10=>bif y10.Code == 0 then some (LO.norm (y10.Cluster.F,y10.Cluster.Bad,y10.Cluster.Replicas,y10.Cluster.Ledger,y10.Cluster.Requests)) else some (LO.norm (s20.2.1,s20.2.2.1,s20.2.2.2.1,s20.2.2.2.2.1,s20.2.2.2.2.2)) else some (LO.norm (s20.2.1,s20.2.2.1,s20.2.2.2.1,s20.2.2.2.2.1,s20.2.2.2.2.2))).bind (Ai (fun s26=>some (LO.norm (wi .i64 (s20.1 + 1),s26.1,s26.2.1,s26.2.2.1,s26.2.2.2.1,s26.2.2.2.2))) (fun i11 s26=>some (LO.exit i11 (s20.1,s26.1,s26.2.1,s26.2.2.1,s26.2.2.2.1,s26.2.2.2.2))) (fun s26=>some (LO.ret (s20.1,s26.1,s26.2.1,s26.2.2.1,s26.2.2.2.1,s26.2.2.2.2))))) (fun i10 s24=>some (LO.exit i10 (s20.1,s20.2.1,s20.2.2.1,s20.2.2.2.1,s20.2.2.2.2.1,s20.2.2.2.2.2))) (fun s24=>some (LO.ret (s20.1,s20.2.1,s20.2.2.1,s20.2.2.2.1,s20.2.2.2.2.1,s20.2.2.2.2.2))))
def OZ (y4:Int) (y5:Int) (s30:Int×Int×(List Int)×(List Af)×(List Ah)×(List Ag)):Option (LO (Int×Int×(List Int)×(List Af)×(List Ah)×(List Ag))):=bif decide (s30.1 < 6) then ( (m16 (⟨s30.2.1,s30.2.2.1,s30.2.2.2.1,s30.2.2.2.2.1,s30.2.2.2.2.2⟩:Aa) (wi .i64 (1 + y4)) (wi .i64 (1 + y5)) s30.1).bind fun y11=>bif y11.Code == 0 then some (LO.norm (y11.Cluster.F,y11.Cluster.Bad,y11.Cluster.Replicas,y11.Cluster.Ledger,y11.Cluster.Requests)) else some (LO.norm (s30.2.1,s30.2.2.1,s30.2.2.2.1,s30.2.2.2.2.1,s30.2.2.2.2.2))).bind (Ai (fun s32=>some (LO.norm (wi .i64 (s30.1 + 1),s32.1,s32.2.1,s32.2.2.1,s32.2.2.2.1,s32.2.2.2.2))) (fun i14 s32=>some (LO.exit i14 (s30.1,s32.1,s32.2.1,s32.2.2.1,s32.2.2.2.1,s32.2.2.2.2))) (fun s32=>some (LO.ret (s30.1,s32.1,s32.2.1,s32.2.2.1,s32.2.2.2.1,s32.2.2.2.2)))) else some (LO.exit 7 (s30.1,s30.2.1,s30.2.2.1,s30.2.2.2.1,s30.2.2.2.2.1,s30.2.2.2.2.2))
def OY (s9:Bool×Int×Int×(List Int)×(List Af)×(List Ah)×(List Ag)) (y4:Int) (s34:Int×Int×Int×(List Int)×(List Af)×(List Ah)×(List Ag)):Option (LO (Int×Int×Int×(List Int)×(List Af)×(List Ah)×(List Ag))):=( ( bif decide (s34.1 < (s9.2.2.2.2.2.1.length:Int)) then some (LO.norm (s34.2.1 != 0)) else some (LO.norm false)).bind (Ai (fun s37=>bif s37 then some (LO.norm s37) else some (LO.exit 9 s37)) (fun i16 s37=>some (LO.exit i16 s37)) (fun s37=>some (LO.ret s37)))).bind (Ai (fun s38=>(m19 (⟨s9.2.2.1,s9.2.2.2.1,s9.2.2.2.2.1,s9.2.2.2.2.2.1,s9.2.2.2.2.2.2⟩:Aa) (wi .i64 (1 + y4)) s34.1).bind fun y16=>some (LO.norm (wi .i64 (s34.1 + 1),y16.Code,y16.Cluster.F,y16.Cluster.Bad,y16.Cluster.Replicas,y16.Cluster.Ledger,y16.Cluster.Requests))) (fun i17 s38=>some (LO.exit i17 (s34.1,s34.2.1,s34.2.2.1,s34.2.2.2.1,s34.2.2.2.2.1,s34.2.2.2.2.2.1,s34.2.2.2.2.2.2))) (fun s38=>some (LO.ret (s34.1,s34.2.1,s34.2.2.1,s34.2.2.2.1,s34.2.2.2.2.1,s34.2.2.2.2.2.1,s34.2.2.2.2.2.2))))
def JB (a0:List U8) (s9:Bool×Int×Int×(List Int)×(List Af)×(List Ah)×(List Ag)):Option (LO (Bool×Int×Int×(List Int)×(List Af)×(List Ah)×(List Ag))):=( ( bif decide (s9.2.1 < 60) then some (LO.norm s9.1) else some (LO.norm false)).bind (Ai (fun s12=>bif s12 then some (LO.norm s12) else some (LO.exit 2 s12)) (fun i5 s12=>some (LO.exit i5 s12)) (fun s12=>some (LO.ret s12)))).bind (Ai (fun s13=>( (m11 a0 (wi .i64 (s9.2.1 + 9)) 4).bind fun y4=>(m11 a0 (wi .i64 (s9.2.1 + 20)) 3).bind fun y5=>(m11 a0 (wi .i64 (s9.2.1 + 30)) 6).bind fun y6=>(m11 a0 (wi .i64 (s9.2.1 + 40)) (wi .i64 ((s9.2.2.2.2.2.1.length:Int) + 1))).bind fun y7=>( (m11 a0 (wi .i64 (s9.2.1 + 50)) 14).bind fun y8=>( bif y8 == 0 then some (LO.norm (y8 == 0)) else some (LO.norm (y8 == 1))).bind (Ai (fun s17=>bif s17 then (m14 (⟨s9.2.2.1,s9.2.2.2.1,s9.2.2.2.2.1,s9.2.2.2.2.2.1,s9.2.2.2.2.2.2⟩:Aa) (wi .i64 (1 + y4)) (wi .i64 (1 + y5)) y6).bind fun y9=>some (LO.norm (y9.Code,y9.Cluster.F,y9.Cluster.Bad,y9.Cluster.Replicas,y9.Cluster.Ledger,y9.Cluster.Requests,s9.2.2.1,s9.2.2.2.1,s9.2.2.2.2.1,s9.2.2.2.2.2.1,s9.2.2.2.2.2.2)) else ( bif y8 == 2 then some (LO.norm (y8 == 2)) else bif y8 == 3 then some (LO.norm (y8 == 3)) else bif y8 == 4 then some (LO.norm (y8 == 4)) else some (LO.norm (y8 == 5))).bind (Ai (fun s19=>bif s19 then (Ax (Pe y4) NN (0,s9.2.2.1,s9.2.2.2.1,s9.2.2.2.2.1,s9.2.2.2.2.2.1,s9.2.2.2.2.2.2)).bind (Ai (fun _=>none) (fun i12 s27=>if i12 = 5 then some (LO.norm (1,0,[],[],[],[],s27.2.1,s27.2.2.1,s27.2.2.2.1,s27.2.2.2.2.1,s27.2.2.2.2.2)) else if i12 = 4 then some (LO.norm (0,0,[],[],[],[],s27.2.1,s27.2.2.1,s27.2.2.2.1,s27.2.2.2.2.1,s27.2.2.2.2.2)) else some (LO.exit i12 (0,0,[],[],[],[],s27.2.1,s27.2.2.1,s27.2.2.2.1,s27.2.2.2.2.1,s27.2.2.2.2.2))) (fun s27=>some (LO.ret (0,0,[],[],[],[],s27.2.1,s27.2.2.1,s27.2.2.2.1,s27.2.2.2.2.1,s27.2.2.2.2.2)))) else ( bif y8 == 6 then some (LO.norm (y8 == 6)) else bif y8 == 7 then some (LO.norm (y8 == 7)) else some (LO.norm (y8 == 8))).bind (Ai (fun s29=>bif s29 then (Ax (OZ y4 y5) NN (0,s9.2.2.1,s9.2.2.2.1,s9.2.2.2.2.1,s9.2.2.2.2.2.1,s9.2.2.2.2.2.2)).bind (Ai (fun _=>none) (fun i15 s33=>if i15 = 7 then some (LO.norm (1,0,[],[],[],[],s33.2.1,s33.2.2.1,s33.2.2.2.1,s33.2.2.2.2.1,s33.2.2.2.2.2)) else if i15 = 4 then some (LO.norm (0,0,[],[],[],[],s33.2.1,s33.2.2.1,s33.2.2.2.1,s33.2.2.2.2.1,s33.2.2.2.2.2)) else some (LO.exit i15 (0,0,[],[],[],[],s33.2.1,s33.2.2.1,s33.2.2.2.1,s33.2.2.2.2.1,s33.2.2.2.2.2))) (fun s33=>some (LO.ret (0,0,[],[],[],[],s33.2.1,s33.2.2.1,s33.2.2.2.1,s33.2.2.2.2.1,s33.2.2.2.2.2)))) else bif y8 == 9 then (m11 a0 (wi .i64 (s9.2.1 + 60)) 3).bind fun y12=>(m17 (⟨s9.2.2.1,s9.2.2.2.1,s9.2.2.2.2.1,s9.2.2.2.2.2.1,s9.2.2.2.2.2.2⟩:Aa) (wi .i64 (1 + y4)) (wi .i64 (1 + y12))).bind fun y13=>some (LO.norm (y13.Code,y13.Cluster.F,y13.Cluster.Bad,y13.Cluster.Replicas,y13.Cluster.Ledger,y13.Cluster.Requests,s9.2.2.1,s9.2.2.2.1,s9.2.2.2.2.1,s9.2.2.2.2.2.1,s9.2.2.2.2.2.2)) else bif y8 == 10 then (m18 (⟨s9.2.2.1,s9.2.2.2.1,s9.2.2.2.2.1,s9.2.2.2.2.2.1,s9.2.2.2.2.2.2⟩:Aa) (wi .i64 (1 + y4))).bind fun y14=>some (LO.norm (y14.Code,y14.Cluster.F,y14.Cluster.Bad,y14.Cluster.Replicas,y14.Cluster.Ledger,y14.Cluster.Requests,s9.2.2.1,s9.2.2.2.1,s9.2.2.2.2.1,s9.2.2.2.2.2.1,s9.2.2.2.2.2.2)) else bif y8 == 11 then (m19 (⟨s9.2.2.1,s9.2.2.2.1,s9.2.2.2.2.1,s9.2.2.2.2.2.1,s9.2.2.2.2.2.2⟩:Aa) (wi .i64 (1 + y4)) y7).bind fun y15=>(Ax (OY s9 y4) NN (0,y15.Code,y15.Cluster.F,y15.Cluster.Bad,y15.Cluster.Replicas,y15.Cluster.Ledger,y15.Cluster.Requests)).bind (Ai (fun _=>none) (fun i18 s39=>if i18 = 9 then some (LO.norm (s39.2.1,s39.2.2.1,s39.2.2.2.1,s39.2.2.2.2.1,s39.2.2.2.2.2.1,s39.2.2.2.2.2.2,s9.2.2.1,s9.2.2.2.1,s9.2.2.2.2.1,s9.2.2.2.2.2.1,s9.2.2.2.2.2.2)) else if i18 = 4 then some (LO.norm (s39.2.1,s39.2.2.1,s39.2.2.2.1,s39.2.2.2.2.1,s39.2.2.2.2.2.1,s39.2.2.2.2.2.2,s9.2.2.1,s9.2.2.2.1,s9.2.2.2.2.1,s9.2.2.2.2.2.1,s9.2.2.2.2.2.2)) else some (LO.exit i18 (s39.2.1,s39.2.2.1,s39.2.2.2.1,s39.2.2.2.2.1,s39.2.2.2.2.2.1,s39.2.2.2.2.2.2,s9.2.2.1,s9.2.2.2.1,s9.2.2.2.2.1,s9.2.2.2.2.2.1,s9.2.2.2.2.2.2))) (fun s39=>some (LO.ret (s39.2.1,s39.2.2.1,s39.2.2.2.1,s39.2.2.2.2.1,s39.2.2.2.2.2.1,s39.2.2.2.2.2.2,s9.2.2.1,s9.2.2.2.1,s9.2.2.2.2.1,s9.2.2.2.2.2.1,s9.2.2.2.2.2.2)))) else bif y8 == 12 then (m20 (⟨s9.2.2.1,s9.2.2.2.1,s9.2.2.2.2.1,s9.2.2.2.2.2.1,s9.2.2.2.2.2.2⟩:Aa) (wi .i64 (1 + y4))).bind fun y17=>some (LO.norm (y17.Code,y17.Cluster.F,y17.Cluster.Bad,y17.Cluster.Replicas,y17.Cluster.Ledger,y17.Cluster.Requests,s9.2.2.1,s9.2.2.2.1,s9.2.2.2.2.1,s9.2.2.2.2.2.1,s9.2.2.2.2.2.2)) else (m11 a0 (wi .i64 (s9.2.1 + 60)) 4).bind fun y18=>(m11 a0 (wi .i64 (s9.2.1 + 70)) 3).bind fun y19=>( bif (wi .i64 (1 + y18)) == 4 then (m11 a0 (wi .i64 (s9.2.1 + 80)) 2).bind fun y20=>bif y20 == 0 then some (LO.norm (4,wi .i64 (1 + y19),0,0,[(⟨wi .i64 (1 + y5),0,y6⟩:AE)])) else some (LO.norm (4,wi .i64 (1 + y19),0,0,[])) else some (LO.norm (wi .i64 (1 + y18),y19,wi .i64 (1 + y5),y6,[]))).bind (Ai (fun s41=>(m21 (⟨s9.2.2.1,s9.2.2.2.1,s9.2.2.2.2.1,s9.2.2.2.2.2.1,s9.2.2.2.2.2.2⟩:Aa) (⟨s41.1,s41.2.1,wi .i64 (1 + y4),s41.2.2.1,s41.2.2.2.1,s41.2.2.2.2,[]⟩:Ah)).bind fun y21=>some (LO.norm (y21.Code,y21.Cluster.F,y21.Cluster.Bad,y21.Cluster.Replicas,y21.Cluster.Ledger,y21.Cluster.Requests,s9.2.2.1,s9.2.2.2.1,s9.2.2.2.2.1,s9.2.2.2.2.2.1,s9.2.2.2.2.2.2))) (fun i19 s41=>if i19 = 4 then some (LO.norm (0,0,[],[],[],[],s9.2.2.1,s9.2.2.2.1,s9.2.2.2.2.1,s9.2.2.2.2.2.1,s9.2.2.2.2.2.2)) else some (LO.exit i19 (0,0,[],[],[],[],s9.2.2.1,s9.2.2.2.1,s9.2.2.2.2.1,s9.2.2.2.2.2.1,s9.2.2.2.2.2.2))) (fun s41=>some (LO.ret (0,0,[],[],[],[],s9.2.2.1,s9.2.2.2.1,s9.2.2.2.2.1,s9.2.2.2.2.2.1,s9.2.2.2.2.2.2))))) (fun i13 s29=>if i13 = 4 then some (LO.norm (0,0,[],[],[],[],s9.2.2.1,s9.2.2.2.1,s9.2.2.2.2.1,s9.2.2.2.2.2.1,s9.2.2.2.2.2.2)) else some (LO.exit i13 (0,0,[],[],[],[],s9.2.2.1,s9.2.2.2.1,s9.2.2.2.2.1,s9.2.2.2.2.2.1,s9.2.2.2.2.2.2))) (fun s29=>some (LO.ret (0,0,[],[],[],[],s9.2.2.1,s9.2.2.2.1,s9.2.2.2.2.1,s9.2.2.2.2.2.1,s9.2.2.2.2.2.2))))) (fun i8 s19=>if i8 = 4 then some (LO.norm (0,0,[],[],[],[],s9.2.2.1,s9.2.2.2.1,s9.2.2.2.2.1,s9.2.2.2.2.2.1,s9.2.2.2.2.2.2)) else some (LO.exit i8 (0,0,[],[],[],[],s9.2.2.1,s9.2.2.2.1,s9.2.2.2.2.1,s9.2.2.2.2.2.1,s9.2.2.2.2.2.2))) (fun s19=>some (LO.ret (0,0,[],[],[],[],s9.2.2.1,s9.2.2.2.1,s9.2.2.2.2.1,s9.2.2.2.2.2.1,s9.2.2.2.2.2.2))))) (fun i7 s17=>if i7 = 4 then some (LO.norm (0,0,[],[],[],[],s9.2.2.1,s9.2.2.2.1,s9.2.2.2.2.1,s9.2.2.2.2.2.1,s9.2.2.2.2.2.2)) else some (LO.exit i7 (0,0,[],[],[],[],s9.2.2.1,s9.2.2.2.1,s9.2.2.2.2.1,s9.2.2.2.2.2.1,s9.2.2.2.2.2.2))) (fun s17=>some (LO.ret (0,0,[],[],[],[],s9.2.2.1,s9.2.2.2.1,s9.2.2.2.2.1,s9.2.2.2.2.2.1,s9.2.2.2.2.2.2))))).bind (Ai (fun s42=>( bif s42.1 == 0 then some (LO.norm (s42.2.1,s42.2.2.1,s42.2.2.2.1,s42.2.2.2.2.1,s42.2.2.2.2.2.1)) else some (LO.norm (s42.2.2.2.2.2.2.1,s42.2.2.2.2.2.2.2.1,s42.2.2.2.2.2.2.2.2.1,s42.2.2.2.2.2.2.2.2.2.1,s42.2.2.2.2.2.2.2.2.2.2))).bind (Ai (fun s44=>(m22 (⟨s44.1,s44.2.1,s44.2.2.1,s44.2.2.2.1,s44.2.2.2.2⟩:Aa)).bind fun y22=>some (LO.norm (y22 == 0,s44.1,s44.2.1,s44.2.2.1,s44.2.2.2.1,s44.2.2.2.2))) (fun i21 s44=>if i21 = 3 then some (LO.norm (s9.1,s44.1,s44.2.1,s44.2.2.1,s44.2.2.2.1,s44.2.2.2.2)) else some (LO.exit i21 (s9.1,s44.1,s44.2.1,s44.2.2.1,s44.2.2.2.1,s44.2.2.2.2))) (fun s44=>some (LO.ret (s9.1,s44.1,s44.2.1,s44.2.2.1,s44.2.2.2.1,s44.2.2.2.2))))) (fun i20 s42=>if i20 = 3 then some (LO.norm (s9.1,s42.2.2.2.2.2.2.1,s42.2.2.2.2.2.2.2.1,s42.2.2.2.2.2.2.2.2.1,s42.2.2.2.2.2.2.2.2.2.1,s42.2.2.2.2.2.2.2.2.2.2)) else some (LO.exit i20 (s9.1,s42.2.2.2.2.2.2.1,s42.2.2.2.2.2.2.2.1,s42.2.2.2.2.2.2.2.2.1,s42.2.2.2.2.2.2.2.2.2.1,s42.2.2.2.2.2.2.2.2.2.2))) (fun s42=>some (LO.ret (s9.1,s42.2.2.2.2.2.2.1,s42.2.2.2.2.2.2.2.1,s42.2.2.2.2.2.2.2.2.1,s42.2.2.2.2.2.2.2.2.2.1,s42.2.2.2.2.2.2.2.2.2.2))))).bind (Ai (fun s45=>some (LO.norm (s45.1,wi .i64 (s9.2.1 + 1),s45.2.1,s45.2.2.1,s45.2.2.2.1,s45.2.2.2.2.1,s45.2.2.2.2.2))) (fun i22 s45=>some (LO.exit i22 (s45.1,s9.2.1,s45.2.1,s45.2.2.1,s45.2.2.2.1,s45.2.2.2.2.1,s45.2.2.2.2.2))) (fun s45=>some (LO.ret (s45.1,s9.2.1,s45.2.1,s45.2.2.1,s45.2.2.2.1,s45.2.2.2.2.1,s45.2.2.2.2.2))))) (fun i6 s13=>some (LO.exit i6 (s9.1,s9.2.1,s9.2.2.1,s9.2.2.2.1,s9.2.2.2.2.1,s9.2.2.2.2.2.1,s9.2.2.2.2.2.2))) (fun s13=>some (LO.ret (s9.1,s9.2.1,s9.2.2.1,s9.2.2.2.1,s9.2.2.2.2.1,s9.2.2.2.2.2.1,s9.2.2.2.2.2.2))))
def m6 (a0:List U8):Option (Aa×Bool):=( (m11 a0 0 6).bind fun y1=>bif decide (y1 > 0) then bif decide (y1 < 5) then (B7 8 [] [y1]).bind fun z1=>some (LO.norm z1) else some (LO.norm []) else some (LO.norm [])).bind (Ai (fun s2=>(m12 1 s2).bind fun y2=>(Ax (KT) NN ((wi .i64 ((y2.Cluster.Replicas.length:Int) + (s2.length:Int))) == 4,0,y2.Cluster.F,y2.Cluster.Bad,y2.Cluster.Replicas,y2.Cluster.Ledger,y2.Cluster.Requests)).bind (Ai (fun _=>none) (fun i4 s8=>if i4 = 0 then (Ax (JB a0) NN (s8.1,0,s8.2.2.1,s8.2.2.2.1,s8.2.2.2.2.1,s8.2.2.2.2.2.1,s8.2.2.2.2.2.2)).bind (Ai (fun _=>none) (fun i23 s46=>if i23 = 2 then some ((⟨s46.2.2.1,s46.2.2.2.1,s46.2.2.2.2.1,s46.2.2.2.2.2.1,s46.2.2.2.2.2.2⟩:Aa),s46.1) else none) (fun s46=>some ((⟨0,[],[],[],[]⟩:Aa),false))) else none) (fun s8=>some ((⟨0,[],[],[],[]⟩:Aa),false)))) (fun i1 s2=>none) (fun s2=>some ((⟨0,[],[],[],[]⟩:Aa),false)))
theorem w6 {d:Nat} (hd:441≤d) (k0:Bool) (a0:List U8):Fit (R NN d 6 [.rsl k0 false (a0.map (Enc.cs k0))] []) (m6 a0) (P0 (fun (t:Aa×Bool)=>AV.tup [.agg (Enc.cs false t.1),.bool t.2])):=by
  obtain ⟨d,rfl,g⟩:=up hd
  refine A8 (t6 NN d _) ?_
  unfold b6 m6
  refine AT rfl fun b1=>q_q (fun _=>Em)<|Eo (α:=Int) false<|DN (I:=(fun (s:(List Int)) l L=>∃ (v1:AV),l = [v1]∧L = [sl false v1 (s:List Int),bx b1 [iW 0,.rsl false true [],.rsl false true [],.rsl false true [],.rsl false true []]])) ?_ ?_ ?_ ?_
  ·refine A5 (aF3 A3 (Ae rfl) (Ae rfl) fun l0_ l1_ l2_=>w11 (by omega) l0_ a0 0 6) fun y1 hy1=>q_p fr<|q_k ?_ ?_
   ·exact q_p fr<|q_i (q_q (fun _=>EM)<|Ed (ys:=[y1]) 0 rfl rfl (fun _ _=>rfl) fun v1 z1 hz1=>Ad 0 ⟨v1,rfl,rfl⟩)<|Ad 0 ⟨(.rsl false true []),rfl,rfl⟩
   ·first | refine Dy ?_ | skip
    exact Ad 0 ⟨(.rsl false true []),rfl,rfl⟩
  ·rintro s2 _ _ ⟨v2,rfl,rfl⟩
   refine A5 (aF2 (Ae rfl) (Io 0 rfl) fun l0_ l1_=>w12f (by omega) 1 l1_ s2) fun y2 hy2=>q_p fr<|AT rfl fun b2=>AN 0 rfl rfl rfl (by decide) rfl<|q_p fr<|Au 0 rfl rfl<|A7<|KF 1 rfl<|q_p fr<|q_p fr<|q_p (fun _=>fX rfl)<|q_p (fun _=>Ry rfl)<|q_p (fun _=>O0 rfl) ?_
   refine q_p (fun _=>M4 rfl)<|q_p (fun _=>Yb rfl)<|q_e (fun _=>fP rfl)<|BW (I:=(fun (s:Bool×Int×Int×(List Int)×(List Af)×(List Ah)×(List Ag)) l L=>∃ (fl1:Bool) (fl2:Bool) (fl3:Bool) (fl4:Bool),l = [.bool s.1,iW s.2.1]∧L = [bx b2 [iW s.2.2.1,.rsl false fl1 (s.2.2.2.1.map (Enc.cs false)),.rsl false fl2 (s.2.2.2.2.1.map (Enc.cs false)),.rsl false fl3 (s.2.2.2.2.2.1.map (Enc.cs false)),.rsl false fl4 (s.2.2.2.2.2.2.map (Enc.cs false))],sl false v2 (s2:List Int),bx b1 [iW 0,.rsl false true [],.rsl false true [],.rsl false true [],.rsl false true []]])) 0 ⟨false,false,false,false,rfl,rfl⟩ ?_ ?_ ?_
   ·rintro s3 _ _ ⟨fl1,fl2,fl3,fl4,rfl,rfl⟩
    unfold jG KT
    refine AY (A:=fun (s:Bool)=>[.bool s]) (B:=fun s=>[bx b2 [iW s3.2.2.1,.rsl false fl1 (s3.2.2.2.1.map (Enc.cs false)),.rsl false fl2 (s3.2.2.2.2.1.map (Enc.cs false)),.rsl false fl3 (s3.2.2.2.2.2.1.map (Enc.cs false)),.rsl false fl4 (s3.2.2.2.2.2.2.map (Enc.cs false))],sl false v2 (s2:List Int),bx b1 [iW 0,.rsl false true [],.rsl false true [],.rsl false true [],.rsl false true []]]) ?_ ?_ ?_ ?_
    ·refine AY (A:=fun (s:Bool)=>[.bool s]) (B:=fun s=>[bx b2 [iW s3.2.2.1,.rsl false fl1 (s3.2.2.2.1.map (Enc.cs false)),.rsl false fl2 (s3.2.2.2.2.1.map (Enc.cs false)),.rsl false fl3 (s3.2.2.2.2.2.1.map (Enc.cs false)),.rsl false fl4 (s3.2.2.2.2.2.2.map (Enc.cs false))],sl false v2 (s2:List Int),bx b1 [iW 0,.rsl false true [],.rsl false true [],.rsl false true [],.rsl false true []]]) ?_ ?_ ?_ ?_
     ·exact q_p fr<|q_k (Ad 0 rr)<|Ad 0 rr
     ·exact fun s6=>q_i (Ad 0 rr)<|Ap 0 rr
     ·exact fun i2 s6=>Ap 0 rr
     ·exact fun s6=>Am 0 rr
    ·exact fun s7=>AT rfl fun b3=>AB 1 rfl rfl rfl<|q_p fr<|q_p fr<|q_p fr<|Bd (l:=false) (fl:=true) (xs:=([(⟨1,[],0,0,false,false⟩:TOp),(⟨3,([47,97]:Str),7,0,false,false⟩:TOp),(⟨5,([47,97]:Str),9,(-1),false,false⟩:TOp),(⟨3,([47,97,47,98]:Str),1,0,true,true⟩:TOp),(⟨6,([47,97]:Str),0,0,false,false⟩:TOp)]:List TOp)) rfl fun x1 hx1=>q_p fr<|q_e (fun _=>fQ rfl)<|q_p (fun _=>Oz rfl)<|A5 (aF2 (AS (Ab (Ae rfl) (Ab A3 (Ab A3 (Ab A3 (Ab A3 Ao)))))) (AS (Ab (Ae rfl) (Ab (Ae rfl) (Ab (Ae rfl) (Ab (A3 (α:=TOp) (l0:=false) (fl:=true) (xs:=[x1])) Ao))))) fun l0_ l1_=>w13 (by omega) l0_ (⟨s3.2.2.1,s3.2.2.2.1,s3.2.2.2.2.1,s3.2.2.2.2.2.1,s3.2.2.2.2.2.2⟩:Aa) l1_ (⟨wi .i64 (1 + (wi .i64 (Int.tdiv s3.2.1 3))),wi .i64 (s3.2.1 + 1),s3.2.1,[x1]⟩:Ag)) fun y3 hy3=>AN 0 rfl rfl rfl (by decide) rfl<|q_p fr<|Au 0 rfl rfl<|q_p fr<|q_p fr<|AB 0 rfl rfl rfl<|AN 1 rfl rfl rfl (by decide) rfl<|q_p fr<|Ad 1 ⟨false,false,false,false,rfl,rfl⟩
    ·exact fun i3 s7=>Ap 0 ⟨fl1,fl2,fl3,fl4,rfl,rfl⟩
    ·exact fun s7=>Am 0 ⟨fl1,fl2,fl3,fl4,rfl,rfl⟩
   ·rintro i4 s8 _ _ ⟨fl5,fl6,fl7,fl8,rfl,rfl⟩
    refine q_n ?_ ?_
    ·refine BW (I:=(fun (s:Bool×Int×Int×(List Int)×(List Af)×(List Ah)×(List Ag)) l L=>∃ (fl9:Bool) (fl10:Bool) (fl11:Bool) (fl12:Bool),l = [.bool s.1,iW s.2.1]∧L = [bx b2 [iW s.2.2.1,.rsl false fl9 (s.2.2.2.1.map (Enc.cs false)),.rsl false fl10 (s.2.2.2.2.1.map (Enc.cs false)),.rsl false fl11 (s.2.2.2.2.2.1.map (Enc.cs false)),.rsl false fl12 (s.2.2.2.2.2.2.map (Enc.cs false))],sl false v2 (s2:List Int),bx b1 [iW 0,.rsl false true [],.rsl false true [],.rsl false true [],.rsl false true []]])) 0 ⟨fl5,fl6,fl7,fl8,rfl,rfl⟩ ?_ ?_ ?_
     ·rintro s9 _ _ ⟨fl9,fl10,fl11,fl12,rfl,rfl⟩
      unfold jC JB
      refine AY (A:=fun (s:Bool)=>[.bool s]) (B:=fun s=>[bx b2 [iW s9.2.2.1,.rsl false fl9 (s9.2.2.2.1.map (Enc.cs false)),.rsl false fl10 (s9.2.2.2.2.1.map (Enc.cs false)),.rsl false fl11 (s9.2.2.2.2.2.1.map (Enc.cs false)),.rsl false fl12 (s9.2.2.2.2.2.2.map (Enc.cs false))],sl false v2 (s2:List Int),bx b1 [iW 0,.rsl false true [],.rsl false true [],.rsl false true [],.rsl false true []]]) ?_ ?_ ?_ ?_
      ·refine AY (A:=fun (s:Bool)=>[.bool s]) (B:=fun s=>[bx b2 [iW s9.2.2.1,.rsl false fl9 (s9.2.2.2.1.map (Enc.cs false)),.rsl false fl10 (s9.2.2.2.2.1.map (Enc.cs false)),.rsl false fl11 (s9.2.2.2.2.2.1.map (Enc.cs false)),.rsl false fl12 (s9.2.2.2.2.2.2.map (Enc.cs false))],sl false v2 (s2:List Int),bx b1 [iW 0,.rsl false true [],.rsl false true [],.rsl false true [],.rsl false true []]]) ?_ ?_ ?_ ?_
       ·exact q_p fr<|q_k (Ad 0 rr)<|Ad 0 rr
       ·exact fun s12=>q_i (Ad 0 rr)<|Ap 0 rr
       ·exact fun i5 s12=>Ap 0 rr
       ·exact fun s12=>Am 0 rr
      ·intro s13
       refine DN (I:=(fun (s:Bool×Int×(List Int)×(List Af)×(List Ah)×(List Ag)) l L=>∃ (fl13:Bool) (fl14:Bool) (fl15:Bool) (fl16:Bool),l = [.bool s.1]∧L = [bx b2 [iW s.2.1,.rsl false fl13 (s.2.2.1.map (Enc.cs false)),.rsl false fl14 (s.2.2.2.1.map (Enc.cs false)),.rsl false fl15 (s.2.2.2.2.1.map (Enc.cs false)),.rsl false fl16 (s.2.2.2.2.2.map (Enc.cs false))],sl false v2 (s2:List Int),bx b1 [iW 0,.rsl false true [],.rsl false true [],.rsl false true [],.rsl false true []]])) ?_ ?_ ?_ ?_
       ·refine q_p fr<|A5 (aF3 A3 (Ae rfl) (Ae rfl) fun l0_ l1_ l2_=>w11 (by omega) l0_ a0 (wi .i64 (s9.2.1 + 9)) 4) fun y4 hy4=>q_p fr<|q_p fr<|A5 (aF3 A3 (Ae rfl) (Ae rfl) fun l0_ l1_ l2_=>w11 (by omega) l0_ a0 (wi .i64 (s9.2.1 + 20)) 3) fun y5 hy5=>q_p fr<|q_p fr<|A5 (aF3 A3 (Ae rfl) (Ae rfl) fun l0_ l1_ l2_=>w11 (by omega) l0_ a0 (wi .i64 (s9.2.1 + 30)) 6) fun y6 hy6=>q_p fr<|q_p fr<|Au 0 rfl rfl<|A7<|q_p fr ?_
        refine A5 (aF3 A3 (Ae rfl) (Ae rfl) fun l0_ l1_ l2_=>w11 (by omega) l0_ a0 (wi .i64 (s9.2.1 + 40)) (wi .i64 ((s9.2.2.2.2.2.1.length:Int) + 1))) fun y7 hy7=>q_p (fun _=>bd35 rfl)<|AT rfl fun b4=>AN 0 rfl rfl rfl (by decide) rfl<|DN (I:=(fun (s:Int×Int×(List Int)×(List Af)×(List Ah)×(List Ag)×Int×(List Int)×(List Af)×(List Ah)×(List Ag)) l L=>∃ (fl13:Bool) (fl14:Bool) (fl15:Bool) (fl16:Bool) (fl17:Bool) (fl18:Bool) (fl19:Bool) (fl20:Bool),l = []∧L = [bx b4 [iW s.1,iW s.2.1,.rsl false fl13 (s.2.2.1.map (Enc.cs false)),.rsl false fl14 (s.2.2.2.1.map (Enc.cs false)),.rsl false fl15 (s.2.2.2.2.1.map (Enc.cs false)),.rsl false fl16 (s.2.2.2.2.2.1.map (Enc.cs false))],bx b2 [iW s.2.2.2.2.2.2.1,.rsl false fl17 (s.2.2.2.2.2.2.2.1.map (Enc.cs false)),.rsl false fl18 (s.2.2.2.2.2.2.2.2.1.map (Enc.cs false)),.rsl false fl19 (s.2.2.2.2.2.2.2.2.2.1.map (Enc.cs false)),.rsl false fl20 (s.2.2.2.2.2.2.2.2.2.2.map (Enc.cs false))],sl false v2 (s2:List Int),bx b1 [iW 0,.rsl false true [],.rsl false true [],.rsl false true [],.rsl false true []]])) ?_ ?_ ?_ ?_
        ·refine q_p fr<|A5 (aF3 A3 (Ae rfl) (Ae rfl) fun l0_ l1_ l2_=>w11 (by omega) l0_ a0 (wi .i64 (s9.2.1 + 50)) 14) fun y8 hy8=>AY (A:=fun (s:Bool)=>[.bool s]) (B:=fun s=>[bx b4 [iW 0,iW 0,.rsl false true [],.rsl false true [],.rsl false true [],.rsl false true []],bx b2 [iW s9.2.2.1,.rsl false fl9 (s9.2.2.2.1.map (Enc.cs false)),.rsl false fl10 (s9.2.2.2.2.1.map (Enc.cs false)),.rsl false fl11 (s9.2.2.2.2.2.1.map (Enc.cs false)),.rsl false fl12 (s9.2.2.2.2.2.2.map (Enc.cs false))],sl false v2 (s2:List Int),bx b1 [iW 0,.rsl false true [],.rsl false true [],.rsl false true [],.rsl false true []]]) ?_ ?_ ?_ ?_
         ·exact q_p fr<|q_i (Ad 0 rr)<|q_p fr<|Ad 0 rr
         ·intro s17
          refine q_i ?_ ?_
          ·exact AB 1 rfl rfl rfl<|A5 (fun S hS=>ET (AS (Ab (Ae rfl) (Ab A3 (Ab A3 (Ab A3 (Ab A3 Ao)))))) (Ae rfl) (Ae rfl) (Ae rfl) hS fun l0_ l1_ l2_ l3_=>w14 (by omega) l0_ (⟨s9.2.2.1,s9.2.2.2.1,s9.2.2.2.2.1,s9.2.2.2.2.2.1,s9.2.2.2.2.2.2⟩:Aa) (wi .i64 (1 + y4)) (wi .i64 (1 + y5)) y6) fun y9 hy9=>AN 0 rfl rfl rfl (by decide) rfl<|Ad 0 ⟨false,false,false,false,fl9,fl10,fl11,fl12,rfl,rfl⟩
          ·refine AY (A:=fun (s:Bool)=>[.bool s]) (B:=fun s=>[bx b4 [iW 0,iW 0,.rsl false true [],.rsl false true [],.rsl false true [],.rsl false true []],bx b2 [iW s9.2.2.1,.rsl false fl9 (s9.2.2.2.1.map (Enc.cs false)),.rsl false fl10 (s9.2.2.2.2.1.map (Enc.cs false)),.rsl false fl11 (s9.2.2.2.2.2.1.map (Enc.cs false)),.rsl false fl12 (s9.2.2.2.2.2.2.map (Enc.cs false))],sl false v2 (s2:List Int),bx b1 [iW 0,.rsl false true [],.rsl false true [],.rsl false true [],.rsl false true []]]) ?_ ?_ ?_ ?_
           ·exact q_p fr<|q_i (Ad 0 rr)<|q_p fr<|q_i (Ad 0 rr)<|q_p fr<|q_i (Ad 0 rr)<|q_p fr<|Ad 0 rr
           ·intro s19
            refine q_i ?_ ?_
            ·refine BW (I:=(fun (s:Int×Int×(List Int)×(List Af)×(List Ah)×(List Ag)) l L=>∃ (fl13:Bool) (fl14:Bool) (fl15:Bool) (fl16:Bool),l = [iW s.1]∧L = [bx b4 [iW 0,iW 0,.rsl false true [],.rsl false true [],.rsl false true [],.rsl false true []],bx b2 [iW s.2.1,.rsl false fl13 (s.2.2.1.map (Enc.cs false)),.rsl false fl14 (s.2.2.2.1.map (Enc.cs false)),.rsl false fl15 (s.2.2.2.2.1.map (Enc.cs false)),.rsl false fl16 (s.2.2.2.2.2.map (Enc.cs false))],sl false v2 (s2:List Int),bx b1 [iW 0,.rsl false true [],.rsl false true [],.rsl false true [],.rsl false true []]])) 0 ⟨fl9,fl10,fl11,fl12,rfl,rfl⟩ ?_ ?_ ?_
             ·rintro s20 _ _ ⟨fl13,fl14,fl15,fl16,rfl,rfl⟩
              unfold jF Pe
              refine AY (A:=fun (s:Bool)=>[.bool s]) (B:=fun s=>[bx b4 [iW 0,iW 0,.rsl false true [],.rsl false true [],.rsl false true [],.rsl false true []],bx b2 [iW s20.2.1,.rsl false fl13 (s20.2.2.1.map (Enc.cs false)),.rsl false fl14 (s20.2.2.2.1.map (Enc.cs false)),.rsl false fl15 (s20.2.2.2.2.1.map (Enc.cs false)),.rsl false fl16 (s20.2.2.2.2.2.map (Enc.cs false))],sl false v2 (s2:List Int),bx b1 [iW 0,.rsl false true [],.rsl false true [],.rsl false true [],.rsl false true []]]) ?_ ?_ ?_ ?_
              ·refine AY (A:=fun (s:Bool)=>[.bool s]) (B:=fun s=>[bx b4 [iW 0,iW 0,.rsl false true [],.rsl false true [],.rsl false true [],.rsl false true []],bx b2 [iW s20.2.1,.rsl false fl13 (s20.2.2.1.map (Enc.cs false)),.rsl false fl14 (s20.2.2.2.1.map (Enc.cs false)),.rsl false fl15 (s20.2.2.2.2.1.map (Enc.cs false)),.rsl false fl16 (s20.2.2.2.2.2.map (Enc.cs false))],sl false v2 (s2:List Int),bx b1 [iW 0,.rsl false true [],.rsl false true [],.rsl false true [],.rsl false true []]]) ?_ ?_ ?_ ?_
               ·exact q_p fr<|Au 1 rfl rfl<|A7<|q_p fr<|q_k (q_p fr<|Au 0 rfl rfl<|q_p fr<|Ad 0 rr)<|Ad 0 rr
               ·exact fun s23=>q_i (Ad 0 rr)<|Ap 0 rr
               ·exact fun i9 s23=>Ap 0 rr
               ·exact fun s23=>Am 0 rr
              ·intro s24
               refine DN (I:=(fun (s:Int×(List Int)×(List Af)×(List Ah)×(List Ag)) l L=>∃ (fl17:Bool) (fl18:Bool) (fl19:Bool) (fl20:Bool),l = []∧L = [bx b4 [iW 0,iW 0,.rsl false true [],.rsl false true [],.rsl false true [],.rsl false true []],bx b2 [iW s.1,.rsl false fl17 (s.2.1.map (Enc.cs false)),.rsl false fl18 (s.2.2.1.map (Enc.cs false)),.rsl false fl19 (s.2.2.2.1.map (Enc.cs false)),.rsl false fl20 (s.2.2.2.2.map (Enc.cs false))],sl false v2 (s2:List Int),bx b1 [iW 0,.rsl false true [],.rsl false true [],.rsl false true [],.rsl false true []]])) ?_ ?_ ?_ ?_
               ·exact q_p fr<|Au 1 rfl rfl<|Bd rfl fun x2 hx2=>q_p fr<|q_p fr<|q_p fr<|q_i (AB 1 rfl rfl rfl<|A5 (aF3 (AS (Ab (Ae rfl) (Ab A3 (Ab A3 (Ab A3 (Ab A3 Ao)))))) (Ae rfl) (Ae rfl) fun l0_ l1_ l2_=>w15 (by omega) l0_ (⟨s20.2.1,s20.2.2.1,s20.2.2.2.1,s20.2.2.2.2.1,s20.2.2.2.2.2⟩:Aa) (wi .i64 (1 + y4)) s20.1) fun y10 hy10=>AT rfl fun b5=>AN 0 rfl rfl rfl (by decide) rfl<|q_p fr<|Au 0 rfl rfl<|q_p fr<|q_i (q_p fr<|AB 0 rfl rfl rfl<|AN 2 rfl rfl rfl (by decide) rfl<|Ad 1 ⟨false,false,false,false,rfl,rfl⟩)<|Ad 1 ⟨fl13,fl14,fl15,fl16,rfl,rfl⟩)<|Ad 0 ⟨fl13,fl14,fl15,fl16,rfl,rfl⟩
               ·rintro s26 _ _ ⟨fl17,fl18,fl19,fl20,rfl,rfl⟩
                exact q_p fr<|Ad 0 ⟨fl17,fl18,fl19,fl20,rfl,rfl⟩
               ·rintro i11 s26 _ _ ⟨fl21,fl22,fl23,fl24,rfl,rfl⟩
                exact Ap 0 ⟨fl21,fl22,fl23,fl24,rfl,rfl⟩
               ·rintro s26 _ _ ⟨fl25,fl26,fl27,fl28,rfl,rfl⟩
                exact Am 0 ⟨fl25,fl26,fl27,fl28,rfl,rfl⟩
              ·exact fun i10 s24=>Ap 0 ⟨fl13,fl14,fl15,fl16,rfl,rfl⟩
              ·exact fun s24=>Am 0 ⟨fl13,fl14,fl15,fl16,rfl,rfl⟩
             ·rintro i12 s27 _ _ ⟨fl29,fl30,fl31,fl32,rfl,rfl⟩
              exact q_n (q_p fr<|AN 0 rfl rfl rfl (by decide) rfl<|Ad 0 ⟨true,true,true,true,fl29,fl30,fl31,fl32,rfl,rfl⟩)<|q_n (Ad 0 ⟨true,true,true,true,fl29,fl30,fl31,fl32,rfl,rfl⟩)<|Ap 0 ⟨true,true,true,true,fl29,fl30,fl31,fl32,rfl,rfl⟩
             ·rintro s27 _ _ ⟨fl33,fl34,fl35,fl36,rfl,rfl⟩
              exact Am 0 ⟨true,true,true,true,fl33,fl34,fl35,fl36,rfl,rfl⟩
            ·refine AY (A:=fun (s:Bool)=>[.bool s]) (B:=fun s=>[bx b4 [iW 0,iW 0,.rsl false true [],.rsl false true [],.rsl false true [],.rsl false true []],bx b2 [iW s9.2.2.1,.rsl false fl9 (s9.2.2.2.1.map (Enc.cs false)),.rsl false fl10 (s9.2.2.2.2.1.map (Enc.cs false)),.rsl false fl11 (s9.2.2.2.2.2.1.map (Enc.cs false)),.rsl false fl12 (s9.2.2.2.2.2.2.map (Enc.cs false))],sl false v2 (s2:List Int),bx b1 [iW 0,.rsl false true [],.rsl false true [],.rsl false true [],.rsl false true []]]) ?_ ?_ ?_ ?_
             ·exact q_p fr<|q_i (Ad 0 rr)<|q_p fr<|q_i (Ad 0 rr)<|q_p fr<|Ad 0 rr
             ·intro s29
              refine q_i ?_ ?_
              ·refine BW (I:=(fun (s:Int×Int×(List Int)×(List Af)×(List Ah)×(List Ag)) l L=>∃ (fl37:Bool) (fl38:Bool) (fl39:Bool) (fl40:Bool),l = [iW s.1]∧L = [bx b4 [iW 0,iW 0,.rsl false true [],.rsl false true [],.rsl false true [],.rsl false true []],bx b2 [iW s.2.1,.rsl false fl37 (s.2.2.1.map (Enc.cs false)),.rsl false fl38 (s.2.2.2.1.map (Enc.cs false)),.rsl false fl39 (s.2.2.2.2.1.map (Enc.cs false)),.rsl false fl40 (s.2.2.2.2.2.map (Enc.cs false))],sl false v2 (s2:List Int),bx b1 [iW 0,.rsl false true [],.rsl false true [],.rsl false true [],.rsl false true []]])) 0 ⟨fl9,fl10,fl11,fl12,rfl,rfl⟩ ?_ ?_ ?_
               ·rintro s30 _ _ ⟨fl37,fl38,fl39,fl40,rfl,rfl⟩
                unfold jE OZ
                refine q_p fr<|q_i ?_ ?_
                ·refine DN (I:=(fun (s:Int×(List Int)×(List Af)×(List Ah)×(List Ag)) l L=>∃ (fl41:Bool) (fl42:Bool) (fl43:Bool) (fl44:Bool),l = []∧L = [bx b4 [iW 0,iW 0,.rsl false true [],.rsl false true [],.rsl false true [],.rsl false true []],bx b2 [iW s.1,.rsl false fl41 (s.2.1.map (Enc.cs false)),.rsl false fl42 (s.2.2.1.map (Enc.cs false)),.rsl false fl43 (s.2.2.2.1.map (Enc.cs false)),.rsl false fl44 (s.2.2.2.2.map (Enc.cs false))],sl false v2 (s2:List Int),bx b1 [iW 0,.rsl false true [],.rsl false true [],.rsl false true [],.rsl false true []]])) ?_ ?_ ?_ ?_
                 ·exact AB 1 rfl rfl rfl<|A5 (fun S hS=>ET (AS (Ab (Ae rfl) (Ab A3 (Ab A3 (Ab A3 (Ab A3 Ao)))))) (Ae rfl) (Ae rfl) (Ae rfl) hS fun l0_ l1_ l2_ l3_=>w16 (by omega) l0_ (⟨s30.2.1,s30.2.2.1,s30.2.2.2.1,s30.2.2.2.2.1,s30.2.2.2.2.2⟩:Aa) (wi .i64 (1 + y4)) (wi .i64 (1 + y5)) s30.1) fun y11 hy11=>AT rfl fun b6=>AN 0 rfl rfl rfl (by decide) rfl<|q_p fr<|Au 0 rfl rfl<|q_p fr<|q_i (q_p fr<|AB 0 rfl rfl rfl<|AN 2 rfl rfl rfl (by decide) rfl<|Ad 1 ⟨false,false,false,false,rfl,rfl⟩)<|Ad 1 ⟨fl37,fl38,fl39,fl40,rfl,rfl⟩
                 ·rintro s32 _ _ ⟨fl41,fl42,fl43,fl44,rfl,rfl⟩
                  exact q_p fr<|Ad 0 ⟨fl41,fl42,fl43,fl44,rfl,rfl⟩
                 ·rintro i14 s32 _ _ ⟨fl45,fl46,fl47,fl48,rfl,rfl⟩
                  exact Ap 0 ⟨fl45,fl46,fl47,fl48,rfl,rfl⟩
                 ·rintro s32 _ _ ⟨fl49,fl50,fl51,fl52,rfl,rfl⟩
                  exact Am 0 ⟨fl49,fl50,fl51,fl52,rfl,rfl⟩
                ·exact Ap 0 ⟨fl37,fl38,fl39,fl40,rfl,rfl⟩
               ·rintro i15 s33 _ _ ⟨fl53,fl54,fl55,fl56,rfl,rfl⟩
                exact q_n (q_p fr<|AN 0 rfl rfl rfl (by decide) rfl<|Ad 0 ⟨true,true,true,true,fl53,fl54,fl55,fl56,rfl,rfl⟩)<|q_n (Ad 0 ⟨true,true,true,true,fl53,fl54,fl55,fl56,rfl,rfl⟩)<|Ap 0 ⟨true,true,true,true,fl53,fl54,fl55,fl56,rfl,rfl⟩
               ·rintro s33 _ _ ⟨fl57,fl58,fl59,fl60,rfl,rfl⟩
                exact Am 0 ⟨true,true,true,true,fl57,fl58,fl59,fl60,rfl,rfl⟩
              ·refine q_p fr<|q_i ?_ ?_
               ·exact AB 1 rfl rfl rfl<|q_p fr<|A5 (aF3 A3 (Ae rfl) (Ae rfl) fun l0_ l1_ l2_=>w11 (by omega) l0_ a0 (wi .i64 (s9.2.1 + 60)) 3) fun y12 hy12=>q_p fr<|A5 (aF3 (AS (Ab (Ae rfl) (Ab A3 (Ab A3 (Ab A3 (Ab A3 Ao)))))) (Ae rfl) (Ae rfl) fun l0_ l1_ l2_=>w17 (by omega) l0_ (⟨s9.2.2.1,s9.2.2.2.1,s9.2.2.2.2.1,s9.2.2.2.2.2.1,s9.2.2.2.2.2.2⟩:Aa) (wi .i64 (1 + y4)) (wi .i64 (1 + y12))) fun y13 hy13=>AN 0 rfl rfl rfl (by decide) rfl<|Ad 0 ⟨false,false,false,false,fl9,fl10,fl11,fl12,rfl,rfl⟩
               ·refine q_p fr<|q_i ?_ ?_
                ·exact AB 1 rfl rfl rfl<|A5 (aF2 (AS (Ab (Ae rfl) (Ab A3 (Ab A3 (Ab A3 (Ab A3 Ao)))))) (Ae rfl) fun l0_ l1_=>w18 (by omega) l0_ (⟨s9.2.2.1,s9.2.2.2.1,s9.2.2.2.2.1,s9.2.2.2.2.2.1,s9.2.2.2.2.2.2⟩:Aa) (wi .i64 (1 + y4))) fun y14 hy14=>AN 0 rfl rfl rfl (by decide) rfl<|Ad 0 ⟨false,false,false,false,fl9,fl10,fl11,fl12,rfl,rfl⟩
                ·refine q_p fr<|q_i ?_ ?_
                 ·refine AB 1 rfl rfl rfl<|A5 (aF3 (AS (Ab (Ae rfl) (Ab A3 (Ab A3 (Ab A3 (Ab A3 Ao)))))) (Ae rfl) (Ae rfl) fun l0_ l1_ l2_=>w19 (by omega) l0_ (⟨s9.2.2.1,s9.2.2.2.1,s9.2.2.2.2.1,s9.2.2.2.2.2.1,s9.2.2.2.2.2.2⟩:Aa) (wi .i64 (1 + y4)) y7) fun y15 hy15=>AN 0 rfl rfl rfl (by decide) rfl<|BW (I:=(fun (s:Int×Int×Int×(List Int)×(List Af)×(List Ah)×(List Ag)) l L=>∃ (fl61:Bool) (fl62:Bool) (fl63:Bool) (fl64:Bool),l = [iW s.1]∧L = [bx b4 [iW s.2.1,iW s.2.2.1,.rsl false fl61 (s.2.2.2.1.map (Enc.cs false)),.rsl false fl62 (s.2.2.2.2.1.map (Enc.cs false)),.rsl false fl63 (s.2.2.2.2.2.1.map (Enc.cs false)),.rsl false fl64 (s.2.2.2.2.2.2.map (Enc.cs false))],bx b2 [iW s9.2.2.1,.rsl false fl9 (s9.2.2.2.1.map (Enc.cs false)),.rsl false fl10 (s9.2.2.2.2.1.map (Enc.cs false)),.rsl false fl11 (s9.2.2.2.2.2.1.map (Enc.cs false)),.rsl false fl12 (s9.2.2.2.2.2.2.map (Enc.cs false))],sl false v2 (s2:List Int),bx b1 [iW 0,.rsl false true [],.rsl false true [],.rsl false true [],.rsl false true []]])) 0 ⟨false,false,false,false,rfl,rfl⟩ ?_ ?_ ?_
                  ·rintro s34 _ _ ⟨fl61,fl62,fl63,fl64,rfl,rfl⟩
                   unfold jD OY
                   refine AY (A:=fun (s:Bool)=>[.bool s]) (B:=fun s=>[bx b4 [iW s34.2.1,iW s34.2.2.1,.rsl false fl61 (s34.2.2.2.1.map (Enc.cs false)),.rsl false fl62 (s34.2.2.2.2.1.map (Enc.cs false)),.rsl false fl63 (s34.2.2.2.2.2.1.map (Enc.cs false)),.rsl false fl64 (s34.2.2.2.2.2.2.map (Enc.cs false))],bx b2 [iW s9.2.2.1,.rsl false fl9 (s9.2.2.2.1.map (Enc.cs false)),.rsl false fl10 (s9.2.2.2.2.1.map (Enc.cs false)),.rsl false fl11 (s9.2.2.2.2.2.1.map (Enc.cs false)),.rsl false fl12 (s9.2.2.2.2.2.2.map (Enc.cs false))],sl false v2 (s2:List Int),bx b1 [iW 0,.rsl false true [],.rsl false true [],.rsl false true [],.rsl false true []]]) ?_ ?_ ?_ ?_
                   ·refine AY (A:=fun (s:Bool)=>[.bool s]) (B:=fun s=>[bx b4 [iW s34.2.1,iW s34.2.2.1,.rsl false fl61 (s34.2.2.2.1.map (Enc.cs false)),.rsl false fl62 (s34.2.2.2.2.1.map (Enc.cs false)),.rsl false fl63 (s34.2.2.2.2.2.1.map (Enc.cs false)),.rsl false fl64 (s34.2.2.2.2.2.2.map (Enc.cs false))],bx b2 [iW s9.2.2.1,.rsl false fl9 (s9.2.2.2.1.map (Enc.cs false)),.rsl false fl10 (s9.2.2.2.2.1.map (Enc.cs false)),.rsl false fl11 (s9.2.2.2.2.2.1.map (Enc.cs false)),.rsl false fl12 (s9.2.2.2.2.2.2.map (Enc.cs false))],sl false v2 (s2:List Int),bx b1 [iW 0,.rsl false true [],.rsl false true [],.rsl false true [],.rsl false true []]]) ?_ ?_ ?_ ?_
                    ·exact q_p fr<|Au 1 rfl rfl<|A7<|q_p fr<|q_k (q_p fr<|Au 0 rfl rfl<|q_p fr<|Ad 0 rr)<|Ad 0 rr
                    ·exact fun s37=>q_i (Ad 0 rr)<|Ap 0 rr
                    ·exact fun i16 s37=>Ap 0 rr
                    ·exact fun s37=>Am 0 rr
                   ·exact fun s38=>AB 1 rfl rfl rfl<|A5 (aF3 (AS (Ab (Ae rfl) (Ab A3 (Ab A3 (Ab A3 (Ab A3 Ao)))))) (Ae rfl) (Ae rfl) fun l0_ l1_ l2_=>w19 (by omega) l0_ (⟨s9.2.2.1,s9.2.2.2.1,s9.2.2.2.2.1,s9.2.2.2.2.2.1,s9.2.2.2.2.2.2⟩:Aa) (wi .i64 (1 + y4)) s34.1) fun y16 hy16=>AN 0 rfl rfl rfl (by decide) rfl<|q_p fr<|Ad 0 ⟨false,false,false,false,rfl,rfl⟩
                   ·exact fun i17 s38=>Ap 0 ⟨fl61,fl62,fl63,fl64,rfl,rfl⟩
                   ·exact fun s38=>Am 0 ⟨fl61,fl62,fl63,fl64,rfl,rfl⟩
                  ·rintro i18 s39 _ _ ⟨fl65,fl66,fl67,fl68,rfl,rfl⟩
                   exact q_n (Ad 0 ⟨fl65,fl66,fl67,fl68,fl9,fl10,fl11,fl12,rfl,rfl⟩)<|q_n (Ad 0 ⟨fl65,fl66,fl67,fl68,fl9,fl10,fl11,fl12,rfl,rfl⟩)<|Ap 0 ⟨fl65,fl66,fl67,fl68,fl9,fl10,fl11,fl12,rfl,rfl⟩
                  ·rintro s39 _ _ ⟨fl69,fl70,fl71,fl72,rfl,rfl⟩
                   exact Am 0 ⟨fl69,fl70,fl71,fl72,fl9,fl10,fl11,fl12,rfl,rfl⟩
                 ·refine q_p fr<|q_i ?_ ?_
                  ·exact AB 1 rfl rfl rfl<|A5 (aF2 (AS (Ab (Ae rfl) (Ab A3 (Ab A3 (Ab A3 (Ab A3 Ao)))))) (Ae rfl) fun l0_ l1_=>w20 (by omega) l0_ (⟨s9.2.2.1,s9.2.2.2.1,s9.2.2.2.2.1,s9.2.2.2.2.2.1,s9.2.2.2.2.2.2⟩:Aa) (wi .i64 (1 + y4))) fun y17 hy17=>AN 0 rfl rfl rfl (by decide) rfl<|Ad 0 ⟨false,false,false,false,fl9,fl10,fl11,fl12,rfl,rfl⟩
                  ·refine q_p fr<|A5 (aF3 A3 (Ae rfl) (Ae rfl) fun l0_ l1_ l2_=>w11 (by omega) l0_ a0 (wi .i64 (s9.2.1 + 60)) 4) fun y18 hy18=>q_p fr<|q_p fr<|A5 (aF3 A3 (Ae rfl) (Ae rfl) fun l0_ l1_ l2_=>w11 (by omega) l0_ a0 (wi .i64 (s9.2.1 + 70)) 3) fun y19 hy19=>q_p (fun _=>Fz rfl)<|AT rfl fun b7=>AN 0 rfl rfl rfl (by decide) rfl<|DN (I:=(fun (s:Int×Int×Int×Int×(List AE)) l L=>∃ (fl73:Bool),l = []∧L = [bx b7 [iW s.1,iW s.2.1,iW (wi .i64 (1 + y4)),iW s.2.2.1,iW s.2.2.2.1,.rsl false fl73 (s.2.2.2.2.map (Enc.cs false)),.rsl false true []],bx b4 [iW 0,iW 0,.rsl false true [],.rsl false true [],.rsl false true [],.rsl false true []],bx b2 [iW s9.2.2.1,.rsl false fl9 (s9.2.2.2.1.map (Enc.cs false)),.rsl false fl10 (s9.2.2.2.2.1.map (Enc.cs false)),.rsl false fl11 (s9.2.2.2.2.2.1.map (Enc.cs false)),.rsl false fl12 (s9.2.2.2.2.2.2.map (Enc.cs false))],sl false v2 (s2:List Int),bx b1 [iW 0,.rsl false true [],.rsl false true [],.rsl false true [],.rsl false true []]])) ?_ ?_ ?_ ?_
                   ·exact q_p fr<|Au 0 rfl rfl<|q_p fr<|q_i (q_p fr<|Au 0 rfl rfl<|q_p fr<|q_p (fun _=>Rx rfl)<|AN 0 rfl rfl rfl (by decide) rfl<|q_p fr<|A5 (aF3 A3 (Ae rfl) (Ae rfl) fun l0_ l1_ l2_=>w11 (by omega) l0_ a0 (wi .i64 (s9.2.1 + 80)) 2) fun y20 hy20=>q_p fr<|q_i (q_p (fun _=>GA rfl)<|q_e (fun _=>XZ rfl)<|q_p fr<|AN 0 rfl rfl rfl (by decide) rfl<|Ad 0 ⟨true,rfl,rfl⟩)<|Ad 0 ⟨true,rfl,rfl⟩)<|Ad 0 ⟨true,rfl,rfl⟩
                   ·rintro s41 _ _ ⟨fl73,rfl,rfl⟩
                    exact AB 2 rfl rfl rfl<|AB 0 rfl rfl rfl<|A5 (aF2 (AS (Ab (Ae rfl) (Ab A3 (Ab A3 (Ab A3 (Ab A3 Ao)))))) (AS (Ab (Ae rfl) (Ab (Ae rfl) (Ab (Ae rfl) (Ab (Ae rfl) (Ab (Ae rfl) (Ab A3 (Ab (A3 (α:=Int) (l0:=false) (fl:=true) (xs:=[])) Ao)))))))) fun l0_ l1_=>w21 (by omega) l0_ (⟨s9.2.2.1,s9.2.2.2.1,s9.2.2.2.2.1,s9.2.2.2.2.2.1,s9.2.2.2.2.2.2⟩:Aa) l1_ (⟨s41.1,s41.2.1,wi .i64 (1 + y4),s41.2.2.1,s41.2.2.2.1,s41.2.2.2.2,[]⟩:Ah)) fun y21 hy21=>AN 1 rfl rfl rfl (by decide) rfl<|Ad 1 ⟨false,false,false,false,fl9,fl10,fl11,fl12,rfl,rfl⟩
                   ·rintro i19 s41 _ _ ⟨fl74,rfl,rfl⟩
                    exact q_n (Ad 1 ⟨true,true,true,true,fl9,fl10,fl11,fl12,rfl,rfl⟩)<|Ap 1 ⟨true,true,true,true,fl9,fl10,fl11,fl12,rfl,rfl⟩
                   ·rintro s41 _ _ ⟨fl75,rfl,rfl⟩
                    exact Am 1 ⟨true,true,true,true,fl9,fl10,fl11,fl12,rfl,rfl⟩
             ·exact fun i13 s29=>q_n (Ad 0 ⟨true,true,true,true,fl9,fl10,fl11,fl12,rfl,rfl⟩)<|Ap 0 ⟨true,true,true,true,fl9,fl10,fl11,fl12,rfl,rfl⟩
             ·exact fun s29=>Am 0 ⟨true,true,true,true,fl9,fl10,fl11,fl12,rfl,rfl⟩
           ·exact fun i8 s19=>q_n (Ad 0 ⟨true,true,true,true,fl9,fl10,fl11,fl12,rfl,rfl⟩)<|Ap 0 ⟨true,true,true,true,fl9,fl10,fl11,fl12,rfl,rfl⟩
           ·exact fun s19=>Am 0 ⟨true,true,true,true,fl9,fl10,fl11,fl12,rfl,rfl⟩
         ·exact fun i7 s17=>q_n (Ad 0 ⟨true,true,true,true,fl9,fl10,fl11,fl12,rfl,rfl⟩)<|Ap 0 ⟨true,true,true,true,fl9,fl10,fl11,fl12,rfl,rfl⟩
         ·exact fun s17=>Am 0 ⟨true,true,true,true,fl9,fl10,fl11,fl12,rfl,rfl⟩
        ·rintro s42 _ _ ⟨fl76,fl77,fl78,fl79,fl80,fl81,fl82,fl83,rfl,rfl⟩
         refine DN (I:=(fun (s:Int×(List Int)×(List Af)×(List Ah)×(List Ag)) l L=>∃ (fl84:Bool) (fl85:Bool) (fl86:Bool) (fl87:Bool),l = []∧L = [bx b4 [iW s42.1,iW s42.2.1,.rsl false fl76 (s42.2.2.1.map (Enc.cs false)),.rsl false fl77 (s42.2.2.2.1.map (Enc.cs false)),.rsl false fl78 (s42.2.2.2.2.1.map (Enc.cs false)),.rsl false fl79 (s42.2.2.2.2.2.1.map (Enc.cs false))],bx b2 [iW s.1,.rsl false fl84 (s.2.1.map (Enc.cs false)),.rsl false fl85 (s.2.2.1.map (Enc.cs false)),.rsl false fl86 (s.2.2.2.1.map (Enc.cs false)),.rsl false fl87 (s.2.2.2.2.map (Enc.cs false))],sl false v2 (s2:List Int),bx b1 [iW 0,.rsl false true [],.rsl false true [],.rsl false true [],.rsl false true []]])) ?_ ?_ ?_ ?_
         ·exact q_p fr<|Au 0 rfl rfl<|q_p fr<|q_i (q_p fr<|AB 0 rfl rfl rfl<|AN 1 rfl rfl rfl (by decide) rfl<|Ad 0 ⟨fl76,fl77,fl78,fl79,rfl,rfl⟩)<|Ad 0 ⟨fl80,fl81,fl82,fl83,rfl,rfl⟩
         ·rintro s44 _ _ ⟨fl84,fl85,fl86,fl87,rfl,rfl⟩
          exact AB 1 rfl rfl rfl<|A5 (aF1 (AS (Ab (Ae rfl) (Ab A3 (Ab A3 (Ab A3 (Ab A3 Ao)))))) fun l0_=>w22 (by omega) l0_ (⟨s44.1,s44.2.1,s44.2.2.1,s44.2.2.2.1,s44.2.2.2.2⟩:Aa)) fun y22 hy22=>q_p fr<|Ad 1 ⟨fl84,fl85,fl86,fl87,rfl,rfl⟩
         ·rintro i21 s44 _ _ ⟨fl88,fl89,fl90,fl91,rfl,rfl⟩
          exact q_n (Ad 1 ⟨fl88,fl89,fl90,fl91,rfl,rfl⟩)<|Ap 1 ⟨fl88,fl89,fl90,fl91,rfl,rfl⟩
         ·rintro s44 _ _ ⟨fl92,fl93,fl94,fl95,rfl,rfl⟩
          exact Am 1 ⟨fl92,fl93,fl94,fl95,rfl,rfl⟩
        ·rintro i20 s42 _ _ ⟨fl96,fl97,fl98,fl99,fl100,fl101,fl102,fl103,rfl,rfl⟩
         exact q_n (Ad 1 ⟨fl100,fl101,fl102,fl103,rfl,rfl⟩)<|Ap 1 ⟨fl100,fl101,fl102,fl103,rfl,rfl⟩
        ·rintro s42 _ _ ⟨fl104,fl105,fl106,fl107,fl108,fl109,fl110,fl111,rfl,rfl⟩
         exact Am 1 ⟨fl108,fl109,fl110,fl111,rfl,rfl⟩
       ·rintro s45 _ _ ⟨fl112,fl113,fl114,fl115,rfl,rfl⟩
        exact q_p fr<|Ad 0 ⟨fl112,fl113,fl114,fl115,rfl,rfl⟩
       ·rintro i22 s45 _ _ ⟨fl116,fl117,fl118,fl119,rfl,rfl⟩
        exact Ap 0 ⟨fl116,fl117,fl118,fl119,rfl,rfl⟩
       ·rintro s45 _ _ ⟨fl120,fl121,fl122,fl123,rfl,rfl⟩
        exact Am 0 ⟨fl120,fl121,fl122,fl123,rfl,rfl⟩
      ·exact fun i6 s13=>Ap 0 ⟨fl9,fl10,fl11,fl12,rfl,rfl⟩
      ·exact fun s13=>Am 0 ⟨fl9,fl10,fl11,fl12,rfl,rfl⟩
     ·rintro i23 s46 _ _ ⟨fl124,fl125,fl126,fl127,rfl,rfl⟩
      exact q_n (AB 0 rfl rfl rfl<|AN 2 rfl rfl rfl (by decide) rfl<|CZ (fun S hS=>Gm (hS.lda 2 rfl rfl) rfl) (Hh (Ab (AS (Ab (Ae rfl) (Ab A3 (Ab A3 (Ab A3 (Ab A3 Ao)))))) (Ab (Ae rfl) Ao))) rfl)<|As
     ·rintro s46 _ _ ⟨fl128,fl129,fl130,fl131,rfl,rfl⟩
      exact CZ (fun S hS=>Gm (hS.lda 2 rfl rfl) rfl) (Hh (Ab (AS (Ab (Ae rfl) (Ab (A3 (α:=Int) (l0:=false) (fl:=true) (xs:=[])) (Ab (A3 (α:=Af) (l0:=false) (fl:=true) (xs:=[])) (Ab (A3 (α:=Ah) (l0:=false) (fl:=true) (xs:=[])) (Ab (A3 (α:=Ag) (l0:=false) (fl:=true) (xs:=[])) Ao)))))) (Ab (Ae rfl) Ao))) rfl
    ·exact As
   ·rintro s8 _ _ ⟨fl132,fl133,fl134,fl135,rfl,rfl⟩
    exact CZ (fun S hS=>Gm (hS.lda 2 rfl rfl) rfl) (Hh (Ab (AS (Ab (Ae rfl) (Ab (A3 (α:=Int) (l0:=false) (fl:=true) (xs:=[])) (Ab (A3 (α:=Af) (l0:=false) (fl:=true) (xs:=[])) (Ab (A3 (α:=Ah) (l0:=false) (fl:=true) (xs:=[])) (Ab (A3 (α:=Ag) (l0:=false) (fl:=true) (xs:=[])) Ao)))))) (Ab (Ae rfl) Ao))) rfl
  ·rintro i1 s2 _ _ ⟨v3,rfl,rfl⟩
   exact As
  ·rintro s2 _ _ ⟨v4,rfl,rfl⟩
   exact CZ (fun S hS=>Gm (hS.lda 1 rfl rfl) rfl) (Hh (Ab (AS (Ab (Ae rfl) (Ab (A3 (α:=Int) (l0:=false) (fl:=true) (xs:=[])) (Ab (A3 (α:=Af) (l0:=false) (fl:=true) (xs:=[])) (Ab (A3 (α:=Ah) (l0:=false) (fl:=true) (xs:=[])) (Ab (A3 (α:=Ag) (l0:=false) (fl:=true) (xs:=[])) Ao)))))) (Ab (Ae rfl) Ao))) rfl
def Sl (a0:Aa) (s1:Bool×Int):Option (LO (Bool×Int)):=bif decide (s1.2≤30) then (m31 a0.F a0.Ledger s1.2).bind fun y2=>bif decide ((y2.length:Int) > 1) then some (LO.ret (false,s1.2)) else some (LO.norm (s1.1,wi .i64 (s1.2 + 1))) else some (LO.exit 0 (s1.1,s1.2))
def m9 (a0:Aa):Option (Bool):=(m22 a0).bind fun y1=>bif y1 != 0 then some false else (Ax (Sl a0) NN (false,1)).bind (Ai (fun _=>none) (fun i1 s2=>if i1 = 0 then some true else none) (fun s2=>some s2.1))
theorem w9 {d:Nat} (hd:144≤d) (k0:Bool) (a0:Aa):Fit (R NN d 9 [.agg (Enc.cs k0 a0)] []) (m9 a0) PB:=by
  obtain ⟨d,rfl,g⟩:=up hd
  refine A8 (t9 NN d _) ?_
  unfold b9 m9
  refine AD (n:=5) rfl rfl (by decide) fun b1=>AB 0 rfl rfl rfl<|A5 (aF1 (AS (Ar (l0:=k0) (x:=a0))) fun l0_=>w22 (by omega) l0_ a0) fun y1 hy1=>q_p fr<|q_i ?_ ?_
  ·exact Ak (Ae rfl) rfl
  ·refine Cc (A:=fun (s:Bool×Int)=>[.bool s.1,iW s.2]) (B:=fun s=>[bx b1 [iW a0.F,.rsl k0 false (a0.Bad.map (Enc.cs k0)),.rsl k0 false (a0.Replicas.map (Enc.cs k0)),.rsl k0 false (a0.Ledger.map (Enc.cs k0)),.rsl k0 false (a0.Requests.map (Enc.cs k0))]]) 0 rr ?_ ?_ ?_
   ·intro s1
    unfold jB Sl
    exact q_p fr<|q_i (q_p fr<|Au 0 rfl rfl<|q_p fr<|Au 0 rfl rfl<|A5 (aF3 (Ae rfl) A3 (Ae rfl) fun l0_ l1_ l2_=>w31 (by omega) a0.F l1_ a0.Ledger s1.2) fun y2 hy2=>A7<|q_p fr<|q_i (Am 0 rr)<|q_p fr<|Ad 0 rr)<|Ap 0 rr
   ·exact fun i1 s2=>q_n (Ak (Ae rfl) rfl)<|As
   ·exact fun s2=>Ak (Ae rfl) rfl
def Dm (a0:Int) (a1:Int) (a2:Int):Bool:=bif decide (a0 ≥ a1) then decide (a0≤a2) else false
theorem F3 {d:Nat} (hd:1≤d) (a0:Int) (a1:Int) (a2:Int):Fit (R NN d 113 [iW a0,iW a1,iW a2] []) (some (Dm a0 a1 a2)) PB:=by
  obtain ⟨d,rfl,g⟩:=up hd
  refine A8 (t113 NN d _ _ _) ?_
  unfold oJ Dm
  exact q_p fr<|VZ (fun h1=>q_p fr<|Ak (Ae rfl) rfl) fun h1=>Ak (Ae rfl) rfl
def Zl (a0:Int):Bool:=(Dm a0 1 2)
theorem w108 {d:Nat} (hd:2≤d) (a0:Int):Fit (R NN d 108 [iW a0] []) (some (Zl a0)) PB:=by
  obtain ⟨d,rfl,g⟩:=up hd
  refine A8 (t108 NN d _) ?_
  unfold oP Zl
  exact AA (aF3 (Ae rfl) (Ae rfl) (Ae rfl) fun l0_ l1_ l2_=>F3 (by omega) a0 1 2)<|Ak (Ae rfl) rfl
def Us (a0:Int) (a1:Int):Bool:=(Dm a1 1 (wi .i64 ((wi .i64 (3 * a0)) + 1)))
theorem dC {d:Nat} (hd:2≤d) (a0:Int) (a1:Int):Fit (R NN d 110 [iW a0,iW a1] []) (some (Us a0 a1)) PB:=by
  obtain ⟨d,rfl,g⟩:=up hd
  refine A8 (t110 NN d _ _) ?_
  unfold oN Us
  exact q_p fr<|q_p fr<|AA (aF3 (Ae rfl) (Ae rfl) (Ae rfl) fun l0_ l1_ l2_=>F3 (by omega) a1 1 (wi .i64 ((wi .i64 (3 * a0)) + 1)))<|Ak (Ae rfl) rfl
def WQ (a0:Ah):Option (Bool):=( bif (Dm a0.Kind 1 5) then bif (Dm a0.Kind 1 3) then bif a0.Kind == 4 then bif a0.Kind == 5 then some (LO.norm true) else some (LO.norm ((a0.Refs.length:Int) == 0)) else bif (a0.Certs.length:Int) == 0 then bif a0.Kind == 5 then some (LO.norm true) else some (LO.norm ((a0.Refs.length:Int) == 0)) else some (LO.norm false) else bif a0.Slot == 0 then bif a0.Value == 0 then bif a0.Kind == 4 then bif a0.Kind == 5 then some (LO.norm true) else some (LO.norm ((a0.Refs.length:Int) == 0)) else bif (a0.Certs.length:Int) == 0 then bif a0.Kind == 5 then some (LO.norm true) else some (LO.norm ((a0.Refs.length:Int) == 0)) else some (LO.norm false) else some (LO.norm false) else some (LO.norm false) else some (LO.norm false)).bind (Ai (fun s2=>some s2) (fun i1 s2=>none) (fun s2=>some s2))
theorem w180 {d:Nat} (hd:2≤d) (k0:Bool) (a0:Ah):Fit (R NN d 180 [.rp k0 (Enc.cs k0 a0)] []) (WQ a0) PB:=by
  obtain ⟨d,rfl,g⟩:=up hd
  refine A8 (t180 NN d _) ?_
  unfold mM WQ
  refine q_q fr<|q_p fr<|q_p fr<|AA (aF3 (Ae rfl) (Ae rfl) (Ae rfl) fun l0_ l1_ l2_=>F3 (by omega) a0.Kind 1 3)<|AY (A:=fun (s:Bool)=>[.bool s]) (B:=fun s=>[]) ?_ ?_ ?_ ?_
  ·exact q_q fr<|q_p fr<|q_p fr<|AA (aF3 (Ae rfl) (Ae rfl) (Ae rfl) fun l0_ l1_ l2_=>F3 (by omega) a0.Kind 1 5)<|q_k (q_j (q_q fr<|q_p fr<|q_p fr<|q_p fr<|q_j (q_q fr<|q_p fr<|q_p fr<|q_p fr<|q_j (Ad 0 rr)<|q_q fr<|q_p fr<|q_p fr<|A7<|q_p fr<|Ad 0 rr)<|q_q fr<|q_p fr<|q_p fr<|A7<|q_p fr<|q_k (q_q fr<|q_p fr<|q_p fr<|q_p fr<|q_j (Ad 0 rr)<|q_q fr<|q_p fr<|q_p fr<|A7<|q_p fr<|Ad 0 rr)<|Ad 0 rr)<|q_q fr<|q_p fr<|q_p fr<|q_p fr<|q_k (q_q fr<|q_p fr<|q_p fr<|q_p fr<|q_k (q_q fr<|q_p fr<|q_p fr<|q_p fr<|q_j (q_q fr<|q_p fr<|q_p fr<|q_p fr<|q_j (Ad 0 rr)<|q_q fr<|q_p fr<|q_p fr<|A7<|q_p fr<|Ad 0 rr)<|q_q fr<|q_p fr<|q_p fr<|A7<|q_p fr<|q_k (q_q fr<|q_p fr<|q_p fr<|q_p fr<|q_j (Ad 0 rr)<|q_q fr<|q_p fr<|q_p fr<|A7<|q_p fr<|Ad 0 rr)<|Ad 0 rr)<|Ad 0 rr)<|Ad 0 rr)<|Ad 0 rr
  ·exact fun s2=>Ak (Ae rfl) rfl
  ·exact fun i1 s2=>As
  ·exact fun s2=>Ak (Ae rfl) rfl
def G1 (a0:Ah) (s1:Int×Int):Option (LO (Int×Int)):=bif decide (s1.2 < (a0.Certs.length:Int)) then (Aq a0.Certs s1.2).bind fun x1=>(Aq a0.Certs (wi .i64 (s1.2 - 1))).bind fun x2=>bif decide (x1.Slot≤x2.Slot) then some (LO.ret (1,s1.2)) else some (LO.norm (s1.1,wi .i64 (s1.2 + 1))) else some (LO.exit 0 (s1.1,s1.2))
def G0 (a0:Ah) (s3:Int×Int):Option (LO (Int×Int)):=bif decide (s3.2 < (a0.Refs.length:Int)) then (Aq a0.Refs s3.2).bind fun x3=>(Aq a0.Refs (wi .i64 (s3.2 - 1))).bind fun x4=>bif decide (x3≤x4) then some (LO.ret (1,s3.2)) else some (LO.norm (s3.1,wi .i64 (s3.2 + 1))) else some (LO.exit 2 (s3.1,s3.2))
def Gz (a0:Ah) (s5:Int×Int):Option (LO (Int×Int)):=bif decide (s5.2 < (a0.Certs.length:Int)) then ( (Aq a0.Certs s5.2).bind fun x5=>( bif !(Dm x5.Slot 1 30) then some (LO.norm true) else bif !(Dm x5.View 0 (wi .i64 (a0.View - 1))) then some (LO.norm true) else some (LO.norm (!(Dm x5.Value 0 12)))).bind (Ai (fun s8=>bif s8 then some (LO.ret 3) else some (LO.norm s5.1)) (fun i3 s8=>if i3 = 5 then some (LO.norm s5.1) else some (LO.exit i3 s5.1)) (fun s8=>some (LO.ret s5.1)))).bind (Ai (fun s9=>some (LO.norm (s9,wi .i64 (s5.2 + 1)))) (fun i4 s9=>some (LO.exit i4 (s9,s5.2))) (fun s9=>some (LO.ret (s9,s5.2)))) else some (LO.exit 4 (s5.1,s5.2))
def Gy (a0:Ah) (s11:Int×Int):Option (LO (Int×Int)):=bif decide (s11.2 < (a0.Refs.length:Int)) then (Aq a0.Refs s11.2).bind fun x6=>bif !(Dm x6 0 239) then some (LO.ret (3,s11.2)) else some (LO.norm (s11.1,wi .i64 (s11.2 + 1))) else some (LO.exit 6 (s11.1,s11.2))
def WO (a0:Ah):Option (Int):=(Ax (G1 a0) NN (0,1)).bind (Ai (fun _=>none) (fun i1 s2=>if i1 = 0 then (Ax (G0 a0) NN (s2.1,1)).bind (Ai (fun _=>none) (fun i2 s4=>if i2 = 2 then (Ax (Gz a0) NN (s4.1,0)).bind (Ai (fun _=>none) (fun i5 s10=>if i5 = 4 then (Ax (Gy a0) NN (s10.1,0)).bind (Ai (fun _=>none) (fun i6 s12=>if i6 = 6 then some 0 else none) (fun s12=>some s12.1)) else none) (fun s10=>some s10.1)) else none) (fun s4=>some s4.1)) else none) (fun s2=>some s2.1))
theorem w181 {d:Nat} (hd:2≤d) (k0:Bool) (a0:Ah):Fit (R NN d 181 [.rp k0 (Enc.cs k0 a0)] []) (WO a0) PI:=by
  obtain ⟨d,rfl,g⟩:=up hd
  refine A8 (t181 NN d _) ?_
  unfold mL WO
  refine Cc (A:=fun (s:Int×Int)=>[iW s.1,iW s.2]) (B:=fun s=>[]) 0 rr ?_ ?_ ?_
  ·intro s1
   unfold Vx G1
   exact q_q fr<|q_p fr<|q_p fr<|A7<|q_p fr<|q_i (q_q fr<|q_p fr<|q_p fr<|Bd rfl fun x1 hx1=>q_p fr<|q_p fr<|q_q fr<|q_p fr<|q_p fr<|q_p fr<|Bd rfl fun x2 hx2=>q_p fr<|q_p fr<|q_p fr<|q_i (Am 0 rr)<|q_p fr<|Ad 0 rr)<|Ap 0 rr
  ·intro i1 s2
   refine q_n ?_ ?_
   ·refine Cc (A:=fun (s:Int×Int)=>[iW s.1,iW s.2]) (B:=fun s=>[]) 0 rr ?_ ?_ ?_
    ·intro s3
     unfold Vw G0
     exact q_q fr<|q_p fr<|q_p fr<|A7<|q_p fr<|q_i (q_q fr<|q_p fr<|q_p fr<|Bd rfl fun x3 hx3=>q_p fr<|q_q fr<|q_p fr<|q_p fr<|q_p fr<|Bd rfl fun x4 hx4=>q_p fr<|q_p fr<|q_i (Am 0 rr)<|q_p fr<|Ad 0 rr)<|Ap 0 rr
    ·intro i2 s4
     refine q_n ?_ ?_
     ·refine Cc (A:=fun (s:Int×Int)=>[iW s.1,iW s.2]) (B:=fun s=>[]) 0 rr ?_ ?_ ?_
      ·intro s5
       unfold Vv Gz
       refine q_q fr<|q_p fr<|q_p fr<|A7<|q_p fr<|q_i ?_ ?_
       ·refine AY (A:=fun (s:Int)=>[iW s]) (B:=fun s=>[]) ?_ ?_ ?_ ?_
        ·refine q_q fr<|q_p fr<|q_p fr<|Bd rfl fun x5 hx5=>q_p fr<|AT rfl fun b1=>AN 0 rfl rfl rfl (by decide) rfl<|AY (A:=fun (s:Bool)=>[.bool s]) (B:=fun s=>[bx b1 [iW x5.Slot,iW x5.View,iW x5.Value]]) ?_ ?_ ?_ ?_
         ·exact q_p fr<|Au 0 rfl rfl<|AA (aF3 (Ae rfl) (Ae rfl) (Ae rfl) fun l0_ l1_ l2_=>F3 (by omega) x5.Slot 1 30)<|q_p fr<|q_j (Ad 0 rr)<|q_p fr<|Au 0 rfl rfl<|q_q fr<|q_p fr<|q_p fr<|q_p fr<|AA (aF3 (Ae rfl) (Ae rfl) (Ae rfl) fun l0_ l1_ l2_=>F3 (by omega) x5.View 0 (wi .i64 (a0.View - 1)))<|q_p fr<|q_j (Ad 0 rr)<|q_p fr<|Au 0 rfl rfl<|AA (aF3 (Ae rfl) (Ae rfl) (Ae rfl) fun l0_ l1_ l2_=>F3 (by omega) x5.Value 0 12)<|q_p fr<|Ad 0 rr
         ·exact fun s8=>q_i (Am 1 rr)<|Ad 1 rr
         ·exact fun i3 s8=>q_n (Ad 1 rr)<|Ap 1 rr
         ·exact fun s8=>Am 1 rr
        ·exact fun s9=>q_p fr<|Ad 0 rr
        ·exact fun i4 s9=>Ap 0 rr
        ·exact fun s9=>Am 0 rr
       ·exact Ap 0 rr
      ·intro i5 s10
       refine q_n ?_ ?_
       ·refine Cc (A:=fun (s:Int×Int)=>[iW s.1,iW s.2]) (B:=fun s=>[]) 0 rr ?_ ?_ ?_
        ·intro s11
         unfold Vu Gy
         exact q_q fr<|q_p fr<|q_p fr<|A7<|q_p fr<|q_i (q_q fr<|q_p fr<|q_p fr<|Bd rfl fun x6 hx6=>q_p fr<|AA (aF3 (Ae rfl) (Ae rfl) (Ae rfl) fun l0_ l1_ l2_=>F3 (by omega) x6 0 239)<|q_p fr<|q_i (Am 0 rr)<|q_p fr<|Ad 0 rr)<|Ap 0 rr
        ·exact fun i6 s12=>q_n (Ak (Ae rfl) rfl)<|As
        ·exact fun s12=>Ak (Ae rfl) rfl
       ·exact As
      ·exact fun s10=>Ak (Ae rfl) rfl
     ·exact As
    ·exact fun s4=>Ak (Ae rfl) rfl
   ·exact As
  ·exact fun s2=>Ak (Ae rfl) rfl
def Xa (a0:Int) (a1:Ah):Option (Int):=(WQ a1).bind fun y1=>bif !y1 then some 1 else ( ( bif !(Dm a1.View 0 20) then some (LO.norm true) else bif !(Us a0 a1.From) then some (LO.norm true) else bif decide (a1.Kind≤3) then bif !(Dm a1.Slot 1 30) then some (LO.norm true) else some (LO.norm (!(Dm a1.Value 0 12))) else some (LO.norm false)).bind (Ai (fun s3=>bif s3 then some (LO.ret 3) else some (LO.norm 0)) (fun i1 s3=>some (LO.exit i1 0)) (fun s3=>some (LO.ret 0)))).bind (Ai (fun s4=>( bif decide ((a1.Certs.length:Int) > 30) then some (LO.ret 2) else bif decide ((a1.Refs.length:Int) > (wi .i64 ((wi .i64 (3 * a0)) + 1))) then some (LO.ret 2) else some (LO.norm s4)).bind (Ai (fun s6=>(WO a1).bind fun y2=>some y2) (fun i3 s6=>none) (fun s6=>some s6))) (fun i2 s4=>none) (fun s4=>some s4))
theorem w147 {d:Nat} (hd:3≤d) (a0:Int) (k1:Bool) (a1:Ah):Fit (R NN d 147 [iW a0,.rp k1 (Enc.cs k1 a1)] []) (Xa a0 a1) PI:=by
  obtain ⟨d,rfl,g⟩:=up hd
  refine A8 (t147 NN d _ _) ?_
  unfold nD Xa
  refine A5 (aF1 (Bc (Ar (l0:=k1) (x:=a1)) (fun _ _ _ h=>Enc.frz k1 a1 _ _ _ h)) fun l0_=>w180 (by omega) l0_ a1) fun y1 hy1=>q_p fr<|q_i ?_ ?_
  ·exact Ak (Ae rfl) rfl
  ·refine q_q fr<|q_p fr<|q_p fr<|q_p fr<|AY (A:=fun (s:Int)=>[iW s]) (B:=fun s=>[]) ?_ ?_ ?_ ?_
   ·refine AY (A:=fun (s:Bool)=>[.bool s]) (B:=fun s=>[]) ?_ ?_ ?_ ?_
    ·exact q_q fr<|q_p fr<|q_p fr<|AA (aF3 (Ae rfl) (Ae rfl) (Ae rfl) fun l0_ l1_ l2_=>F3 (by omega) a1.View 0 20)<|q_p fr<|q_j (Ad 0 rr)<|q_q fr<|q_p fr<|q_p fr<|AA (aF2 (Ae rfl) (Ae rfl) fun l0_ l1_=>dC (by omega) a0 a1.From)<|q_p fr<|q_j (Ad 0 rr)<|q_k (q_q fr<|q_p fr<|q_p fr<|AA (aF3 (Ae rfl) (Ae rfl) (Ae rfl) fun l0_ l1_ l2_=>F3 (by omega) a1.Slot 1 30)<|q_p fr<|q_j (Ad 0 rr)<|q_q fr<|q_p fr<|q_p fr<|AA (aF3 (Ae rfl) (Ae rfl) (Ae rfl) fun l0_ l1_ l2_=>F3 (by omega) a1.Value 0 12)<|q_p fr<|Ad 0 rr)<|Ad 0 rr
    ·exact fun s3=>q_i (Am 0 rr)<|Ad 0 rr
    ·exact fun i1 s3=>Ap 0 rr
    ·exact fun s3=>Am 0 rr
   ·intro s4
    refine AY (A:=fun (s:Int)=>[iW s]) (B:=fun s=>[]) ?_ ?_ ?_ ?_
    ·refine q_q fr<|q_p fr<|q_p fr<|A7<|q_p fr<|q_j ?_ ?_
     ·first | refine BL ?_ | skip
      exact Am 0 rr
     ·exact q_q fr<|q_p fr<|q_p fr<|A7<|q_p fr<|q_p fr<|q_p fr<|q_i (Am 0 rr)<|Ad 0 rr
    ·exact fun s6=>A5 (aF1 (Bc (Ar (l0:=k1) (x:=a1)) (fun _ _ _ h=>Enc.frz k1 a1 _ _ _ h)) fun l0_=>w181 (by omega) l0_ a1) fun y2 hy2=>Ak (Ae rfl) rfl
    ·exact fun i3 s6=>As
    ·exact fun s6=>Ak (Ae rfl) rfl
   ·exact fun i2 s4=>As
   ·exact fun s4=>Ak (Ae rfl) rfl
def Sv (a0:Ah) (a1:Int) (s1:Bool×Int):Option (LO (Bool×Int)):=bif decide (s1.2 < (a0.Refs.length:Int)) then (Aq a0.Refs s1.2).bind fun x1=>bif decide (x1 ≥ a1) then some (LO.ret (false,s1.2)) else some (LO.norm (s1.1,wi .i64 (s1.2 + 1))) else some (LO.exit 0 (s1.1,s1.2))
def Zf (a0:Ah) (a1:Int):Option (Bool):=(Ax (Sv a0 a1) NN (false,0)).bind (Ai (fun _=>none) (fun i1 s2=>if i1 = 0 then some true else none) (fun s2=>some s2.1))
theorem w148 {d:Nat} (hd:1≤d) (k0:Bool) (a0:Ah) (a1:Int):Fit (R NN d 148 [.rp k0 (Enc.cs k0 a0),iW a1] []) (Zf a0 a1) PB:=by
  obtain ⟨d,rfl,g⟩:=up hd
  refine A8 (t148 NN d _ _) ?_
  unfold nC Zf
  refine Cc (A:=fun (s:Bool×Int)=>[.bool s.1,iW s.2]) (B:=fun s=>[]) 0 rr ?_ ?_ ?_
  ·intro s1
   unfold V8 Sv
   exact q_q fr<|q_p fr<|q_p fr<|A7<|q_p fr<|q_i (q_q fr<|q_p fr<|q_p fr<|Bd rfl fun x1 hx1=>q_p fr<|q_p fr<|q_i (Am 0 rr)<|q_p fr<|Ad 0 rr)<|Ap 0 rr
  ·exact fun i1 s2=>q_n (Ak (Ae rfl) rfl)<|As
  ·exact fun s2=>Ak (Ae rfl) rfl
def Kq (a0:Ah) (a1:Ah) (s5:Bool×Int):Option (LO (Bool×Int)):=bif decide (s5.2 < (a0.Certs.length:Int)) then (Aq a0.Certs s5.2).bind fun x1=>(Aq a1.Certs s5.2).bind fun x2=>bif !(((x1.Slot == x2.Slot) && ((x1.View == x2.View) && ((x1.Value == x2.Value) && true)))) then some (LO.ret (false,s5.2)) else some (LO.norm (s5.1,wi .i64 (s5.2 + 1))) else some (LO.exit 0 (s5.1,s5.2))
def Ko (a0:Ah) (a1:Ah) (s7:Bool×Int):Option (LO (Bool×Int)):=bif decide (s7.2 < (a0.Refs.length:Int)) then (Aq a0.Refs s7.2).bind fun x3=>(Aq a1.Refs s7.2).bind fun x4=>bif x3 != x4 then some (LO.ret (false,s7.2)) else some (LO.norm (s7.1,wi .i64 (s7.2 + 1))) else some (LO.exit 2 (s7.1,s7.2))
def Ud (a0:Ah) (a1:Ah):Option (Bool):=( ( bif a0.Kind != a1.Kind then some (LO.norm true) else bif a0.View != a1.View then some (LO.norm true) else bif a0.From != a1.From then some (LO.norm true) else bif a0.Slot != a1.Slot then some (LO.norm true) else bif a0.Value != a1.Value then some (LO.norm true) else bif (a0.Certs.length:Int) != (a1.Certs.length:Int) then some (LO.norm true) else some (LO.norm ((a0.Refs.length:Int) != (a1.Refs.length:Int)))).bind (Ai (fun s3=>bif s3 then some (LO.ret false) else some (LO.norm false)) (fun i1 s3=>some (LO.exit i1 false)) (fun s3=>some (LO.ret false)))).bind (Ai (fun s4=>(Ax (Kq a0 a1) NN (s4,0)).bind (Ai (fun _=>none) (fun i3 s6=>if i3 = 0 then (Ax (Ko a0 a1) NN (s6.1,0)).bind (Ai (fun _=>none) (fun i4 s8=>if i4 = 2 then some true else none) (fun s8=>some s8.1)) else none) (fun s6=>some s6.1))) (fun i2 s4=>none) (fun s4=>some s4))
theorem w182 {d:Nat} (hd:1≤d) (k0:Bool) (a0:Ah) (k1:Bool) (a1:Ah):Fit (R NN d 182 [.rp k0 (Enc.cs k0 a0),.rp k1 (Enc.cs k1 a1)] []) (Ud a0 a1) PB:=by
  obtain ⟨d,rfl,g⟩:=up hd
  refine A8 (t182 NN d _ _) ?_
  unfold mK Ud
  refine AY (A:=fun (s:Bool)=>[.bool s]) (B:=fun s=>[]) ?_ ?_ ?_ ?_
  ·refine AY (A:=fun (s:Bool)=>[.bool s]) (B:=fun s=>[]) ?_ ?_ ?_ ?_
   ·exact q_q fr<|q_p fr<|q_p fr<|q_q fr<|q_p fr<|q_p fr<|q_p fr<|q_j (Ad 0 rr)<|q_q fr<|q_p fr<|q_p fr<|q_q fr<|q_p fr<|q_p fr<|q_p fr<|q_j (Ad 0 rr)<|q_q fr<|q_p fr<|q_p fr<|q_q fr<|q_p fr<|q_p fr<|q_p fr<|q_j (Ad 0 rr)<|q_q fr<|q_p fr<|q_p fr<|q_q fr<|q_p fr<|q_p fr<|q_p fr<|q_j (Ad 0 rr)<|q_q fr<|q_p fr<|q_p fr<|q_q fr<|q_p fr<|q_p fr<|q_p fr<|q_j (Ad 0 rr)<|q_q fr<|q_p fr<|q_p fr<|A7<|q_q fr<|q_p fr<|q_p fr<|A7<|q_p fr<|q_j (Ad 0 rr)<|q_q fr<|q_p fr<|q_p fr<|A7<|q_q fr<|q_p fr<|q_p fr<|A7<|q_p fr<|Ad 0 rr
   ·exact fun s3=>q_i (Am 0 rr)<|Ad 0 rr
   ·exact fun i1 s3=>Ap 0 rr
   ·exact fun s3=>Am 0 rr
  ·intro s4
   refine Cc (A:=fun (s:Bool×Int)=>[.bool s.1,iW s.2]) (B:=fun s=>[]) 0 rr ?_ ?_ ?_
   ·intro s5
    unfold Vt Kq
    exact q_q fr<|q_p fr<|q_p fr<|A7<|q_p fr<|q_i (q_q fr<|q_p fr<|q_p fr<|Bd rfl fun x1 hx1=>q_p fr<|q_q fr<|q_p fr<|q_p fr<|Bd rfl fun x2 hx2=>q_p fr<|q_p (fun _=>RE _ _ _ _ _ _)<|q_i (Am 0 rr)<|q_p fr<|Ad 0 rr)<|Ap 0 rr
   ·intro i3 s6
    refine q_n ?_ ?_
    ·refine Cc (A:=fun (s:Bool×Int)=>[.bool s.1,iW s.2]) (B:=fun s=>[]) 0 rr ?_ ?_ ?_
     ·intro s7
      unfold Vs Ko
      exact q_q fr<|q_p fr<|q_p fr<|A7<|q_p fr<|q_i (q_q fr<|q_p fr<|q_p fr<|Bd rfl fun x3 hx3=>q_p fr<|q_q fr<|q_p fr<|q_p fr<|Bd rfl fun x4 hx4=>q_p fr<|q_p fr<|q_i (Am 0 rr)<|q_p fr<|Ad 0 rr)<|Ap 0 rr
     ·exact fun i4 s8=>q_n (Ak (Ae rfl) rfl)<|As
     ·exact fun s8=>Ak (Ae rfl) rfl
    ·exact As
   ·exact fun s6=>Ak (Ae rfl) rfl
  ·exact fun i2 s4=>As
  ·exact fun s4=>Ak (Ae rfl) rfl
def Su (a0:List Ah) (a1:Ah) (s1:Int×Int):Option (LO (Int×Int)):=bif decide (s1.2 < (a0.length:Int)) then (Aq a0 s1.2).bind fun x1=>(Ud x1 a1).bind fun y1=>bif y1 then some (LO.ret (s1.2,s1.2)) else some (LO.norm (s1.1,wi .i64 (s1.2 + 1))) else some (LO.exit 0 (s1.1,s1.2))
def WZ (a0:List Ah) (a1:Ah):Option (Int):=(Ax (Su a0 a1) NN (0,0)).bind (Ai (fun _=>none) (fun i1 s2=>if i1 = 0 then some (-1) else none) (fun s2=>some s2.1))
theorem hZ {d:Nat} (hd:2≤d) (k0:Bool) (a0:List Ah) (k1:Bool) (a1:Ah):Fit (R NN d 149 [.rsl k0 false (a0.map (Enc.cs k0)),.rp k1 (Enc.cs k1 a1)] []) (WZ a0 a1) PI:=by
  obtain ⟨d,rfl,g⟩:=up hd
  refine A8 (t149 NN d _ _) ?_
  unfold nB WZ
  refine Cc (A:=fun (s:Int×Int)=>[iW s.1,iW s.2]) (B:=fun s=>[]) 0 rr ?_ ?_ ?_
  ·intro s1
   unfold V7 Su
   exact A7<|q_p fr<|q_i (Bd rfl fun x1 hx1=>A5 (aF2 (Bc (Ar (l0:=k0) (x:=x1)) (fun _ _ _ h=>Enc.frz k0 x1 _ _ _ h)) (Bc (Ar (l0:=k1) (x:=a1)) (fun _ _ _ h=>Enc.frz k1 a1 _ _ _ h)) fun l0_ l1_=>w182 (by omega) l0_ x1 l1_ a1) fun y1 hy1=>q_i (Am 0 rr)<|q_p fr<|Ad 0 rr)<|Ap 0 rr
  ·exact fun i1 s2=>q_n (Ak (Ae rfl) rfl)<|As
  ·exact fun s2=>Ak (Ae rfl) rfl
def H8 (a0:Int) (a1:List Ah) (s1:Int×Int):Option (LO (Int×Int)):=bif decide (s1.2 < (a1.length:Int)) then (Aq a1 s1.2).bind fun x1=>(Xa a0 x1).bind fun y1=>bif y1 != 0 then some (LO.ret (y1,s1.2)) else (Aq a1 s1.2).bind fun x2=>(Zf x2 s1.2).bind fun y2=>bif !y2 then some (LO.ret (4,s1.2)) else (Aq a1 s1.2).bind fun x3=>(WZ a1 x3).bind fun y3=>bif y3 != s1.2 then some (LO.ret (6,s1.2)) else some (LO.norm (s1.1,wi .i64 (s1.2 + 1))) else some (LO.exit 0 (s1.1,s1.2))
def Zk (a0:Int) (a1:List Ah):Option (Int):=bif decide ((a1.length:Int) > 240) then some 2 else (Ax (H8 a0 a1) NN (0,0)).bind (Ai (fun _=>none) (fun i1 s2=>if i1 = 0 then some 0 else none) (fun s2=>some s2.1))
theorem w109 {d:Nat} (hd:4≤d) (a0:Int) (k1:Bool) (a1:List Ah):Fit (R NN d 109 [iW a0,.rsl k1 false (a1.map (Enc.cs k1))] []) (Zk a0 a1) PI:=by
  obtain ⟨d,rfl,g⟩:=up hd
  refine A8 (t109 NN d _ _) ?_
  unfold oO Zk
  refine A7<|q_p fr<|q_i ?_ ?_
  ·exact Ak (Ae rfl) rfl
  ·refine Cc (A:=fun (s:Int×Int)=>[iW s.1,iW s.2]) (B:=fun s=>[]) 0 rr ?_ ?_ ?_
   ·intro s1
    unfold VJ H8
    exact A7<|q_p fr<|q_i (Bd rfl fun x1 hx1=>A5 (aF2 (Ae rfl) (Bc (Ar (l0:=k1) (x:=x1)) (fun _ _ _ h=>Enc.frz k1 x1 _ _ _ h)) fun l0_ l1_=>w147 (by omega) a0 l1_ x1) fun y1 hy1=>q_p fr<|q_i (Am 0 rr)<|Bd rfl fun x2 hx2=>A5 (aF2 (Bc (Ar (l0:=k1) (x:=x2)) (fun _ _ _ h=>Enc.frz k1 x2 _ _ _ h)) (Ae rfl) fun l0_ l1_=>w148 (by omega) l0_ x2 s1.2) fun y2 hy2=>q_p fr<|q_i (Am 0 rr)<|Bd rfl fun x3 hx3=>A5 (aF2 A3 (Bc (Ar (l0:=k1) (x:=x3)) (fun _ _ _ h=>Enc.frz k1 x3 _ _ _ h)) fun l0_ l1_=>hZ (by omega) l0_ a1 l1_ x3) fun y3 hy3=>q_p fr<|q_i (Am 0 rr)<|q_p fr<|Ad 0 rr)<|Ap 0 rr
   ·exact fun i1 s2=>q_n (Ak (Ae rfl) rfl)<|As
   ·exact fun s2=>Ak (Ae rfl) rfl
def m65 (a0:Int) (a1:List Ah):Option (Int):=bif !(Zl a0) then some 3 else (Zk a0 a1).bind fun y1=>some y1
theorem w65 {d:Nat} (hd:5≤d) (a0:Int) (k1:Bool) (a1:List Ah):Fit (R NN d 65 [iW a0,.rsl k1 false (a1.map (Enc.cs k1))] []) (m65 a0 a1) PI:=by
  obtain ⟨d,rfl,g⟩:=up hd
  refine A8 (t65 NN d _ _) ?_
  unfold b65 m65
  exact AA (aF1 (Ae rfl) fun l0_=>w108 (by omega) a0)<|q_p fr<|q_i (Ak (Ae rfl) rfl)<|A5 (aF2 (Ae rfl) A3 fun l0_ l1_=>w109 (by omega) a0 l1_ a1) fun y1 hy1=>Ak (Ae rfl) rfl
def NX (a0:Int) (a1:List Int) (s1:Int×Int):Option (LO (Int×Int)):=bif decide (s1.2 < (a1.length:Int)) then ( (Aq a1 s1.2).bind fun x1=>bif !(Us a0 x1) then some (LO.ret 3) else bif decide (s1.2 > 0) then (Aq a1 s1.2).bind fun x2=>(Aq a1 (wi .i64 (s1.2 - 1))).bind fun x3=>bif decide (x2≤x3) then some (LO.ret 1) else some (LO.norm s1.1) else some (LO.norm s1.1)).bind (Ai (fun s3=>some (LO.norm (s3,wi .i64 (s1.2 + 1)))) (fun i1 s3=>some (LO.exit i1 (s3,s1.2))) (fun s3=>some (LO.ret (s3,s1.2)))) else some (LO.exit 0 (s1.1,s1.2))
def m66 (a0:Int) (a1:List Int):Option (Int):=bif decide ((a1.length:Int) > a0) then some 2 else (Ax (NX a0 a1) NN (0,0)).bind (Ai (fun _=>none) (fun i2 s4=>if i2 = 0 then some 0 else none) (fun s4=>some s4.1))
theorem w66 {d:Nat} (hd:3≤d) (a0:Int) (k1:Bool) (a1:List Int):Fit (R NN d 66 [iW a0,.rsl k1 false (a1.map (Enc.cs k1))] []) (m66 a0 a1) PI:=by
  obtain ⟨d,rfl,g⟩:=up hd
  refine A8 (t66 NN d _ _) ?_
  unfold b66 m66
  refine A7<|q_p fr<|q_i ?_ ?_
  ·exact Ak (Ae rfl) rfl
  ·refine Cc (A:=fun (s:Int×Int)=>[iW s.1,iW s.2]) (B:=fun s=>[]) 0 rr ?_ ?_ ?_
   ·intro s1
    unfold aK NX
    refine A7<|q_p fr<|q_i ?_ ?_
    ·refine AY (A:=fun (s:Int)=>[iW s]) (B:=fun s=>[]) ?_ ?_ ?_ ?_
     ·refine Bd rfl fun x1 hx1=>q_p fr<|AA (aF2 (Ae rfl) (Ae rfl) fun l0_ l1_=>dC (by omega) a0 x1)<|q_p fr<|q_i ?_ ?_
      ·exact Am 0 rr
      ·refine q_p fr<|q_k ?_ ?_
       ·exact Bd rfl fun x2 hx2=>q_p fr<|q_p fr<|Bd rfl fun x3 hx3=>q_p fr<|q_p fr<|q_i (Am 0 rr)<|Ad 0 rr
       ·first | refine Dy ?_ | skip
        exact Ad 0 rr
     ·exact fun s3=>q_p fr<|Ad 0 rr
     ·exact fun i1 s3=>Ap 0 rr
     ·exact fun s3=>Am 0 rr
    ·exact Ap 0 rr
   ·exact fun i2 s4=>q_n (Ak (Ae rfl) rfl)<|As
   ·exact fun s4=>Ak (Ae rfl) rfl
def Jp (a0:List Int) (a1:Int) (s1:Bool×Int):Option (LO (Bool×Int)):=bif decide (s1.2 < (a0.length:Int)) then (Aq a0 s1.2).bind fun x1=>bif x1 == a1 then some (LO.ret (true,s1.2)) else some (LO.norm (s1.1,wi .i64 (s1.2 + 1))) else some (LO.exit 0 (s1.1,s1.2))
def m29 (a0:List Int) (a1:Int):Option (Bool):=(Ax (Jp a0 a1) NN (false,0)).bind (Ai (fun _=>none) (fun i1 s2=>if i1 = 0 then some false else none) (fun s2=>some s2.1))
theorem w29 {d:Nat} (hd:1≤d) (k0:Bool) (a0:List Int) (a1:Int):Fit (R NN d 29 [.rsl k0 false (a0.map (Enc.cs k0)),iW a1] []) (m29 a0 a1) PB:=by
  obtain ⟨d,rfl,g⟩:=up hd
  refine A8 (t29 NN d _ _) ?_
  unfold b29 m29
  refine Cc (A:=fun (s:Bool×Int)=>[.bool s.1,iW s.2]) (B:=fun s=>[]) 0 rr ?_ ?_ ?_
  ·intro s1
   unfold aX Jp
   exact A7<|q_p fr<|q_i (Bd rfl fun x1 hx1=>q_p fr<|q_p fr<|q_i (Am 0 rr)<|q_p fr<|Ad 0 rr)<|Ap 0 rr
  ·exact fun i1 s2=>q_n (Ak (Ae rfl) rfl)<|As
  ·exact fun s2=>Ak (Ae rfl) rfl
def m70 (a0:List Ah) (a1:Int) (a2:Int):Option (Bool):=bif (Dm a1 0 (wi .i64 ((a0.length:Int) - 1))) then (Aq a0 a1).bind fun x1=>some (x1.Kind == a2) else some false
theorem w70 {d:Nat} (hd:2≤d) (k0:Bool) (a0:List Ah) (a1:Int) (a2:Int):Fit (R NN d 70 [.rsl k0 false (a0.map (Enc.cs k0)),iW a1,iW a2] []) (m70 a0 a1 a2) PB:=by
  obtain ⟨d,rfl,g⟩:=up hd
  refine A8 (t70 NN d _ _ _) ?_
  unfold b70 m70
  exact A7<|q_p fr<|AA (aF3 (Ae rfl) (Ae rfl) (Ae rfl) fun l0_ l1_ l2_=>F3 (by omega) a1 0 (wi .i64 ((a0.length:Int) - 1)))<|q_k (Bd rfl fun x1 hx1=>q_p fr<|q_p fr<|q_p fr<|Ak (Ae rfl) rfl)<|Ak (Ae rfl) rfl
def II (a0:Int) (a1:List Ah) (a2:Int) (a3:AE) (s1:Int×(List Int)):Option (LO (Int×(List Int))):=bif decide (s1.1≤(wi .i64 ((wi .i64 (3 * a0)) + 1))) then ( (WZ a1 (⟨a2,a3.View,s1.1,a3.Slot,a3.Value,[],[]⟩:Ah)).bind fun y1=>bif decide (y1 ≥ 0) then (B7 8 s1.2 [s1.1]).bind fun z1=>some (LO.norm z1) else some (LO.norm s1.2)).bind (Ai (fun s3=>some (LO.norm (wi .i64 (s1.1 + 1),s3))) (fun i1 s3=>some (LO.exit i1 (s1.1,s3))) (fun s3=>some (LO.ret (s1.1,s3)))) else some (LO.exit 0 (s1.1,s1.2))
def Xk (a0:Int) (a1:List Ah) (a2:Int) (a3:AE):Option ((List Int)):=(Ax (II a0 a1 a2 a3) NN (1,[])).bind (Ai (fun _=>none) (fun i2 s4=>if i2 = 0 then some s4.2 else none) (fun s4=>some []))
theorem w116 {d:Nat} (hd:3≤d) (a0:Int) (k1:Bool) (a1:List Ah) (a2:Int) (k3:Bool) (a3:AE):Fit (R NN d 116 [iW a0,.rsl k1 false (a1.map (Enc.cs k1)),iW a2,.agg (Enc.cs k3 a3)] []) (Xk a0 a1 a2 a3) (P0 (fun (t:List Int)=>AV.rsl false false (t.map (Enc.cs false)))):=by
  obtain ⟨d,rfl,g⟩:=up hd
  refine A8 (t116 NN d _ _ _ _) ?_
  unfold oG Xk
  refine AD (n:=3) rfl rfl (by decide) fun b1=>q_q (fun _=>Em)<|Eo (α:=Int) false<|BW (I:=(fun (s:Int×(List Int)) l L=>∃ (v1:AV),l = [v1,iW s.1]∧L = [sl false v1 (s.2:List Int),bx b1 [iW a3.Slot,iW a3.View,iW a3.Value]])) 0 ⟨(.rsl false true []),rfl,rfl⟩ ?_ ?_ ?_
  ·rintro s1 _ _ ⟨v1,rfl,rfl⟩
   unfold VI II
   refine q_p fr<|q_p fr<|q_p fr<|q_i ?_ ?_
   ·refine DN (I:=(fun (s:(List Int)) l L=>∃ (v2:AV),l = [v2]∧L = [sl false v2 (s:List Int),bx b1 [iW a3.Slot,iW a3.View,iW a3.Value]])) ?_ ?_ ?_ ?_
    ·exact q_p fr<|Au 1 rfl rfl<|q_p fr<|Au 1 rfl rfl<|q_p fr<|Au 1 rfl rfl<|q_p (fun _=>Fz rfl)<|AT rfl fun b2=>AN 0 rfl rfl rfl (by decide) rfl<|A5 (aF2 A3 (Bv 0 rfl (Ab (Ae rfl) (Ab (Ae rfl) (Ab (Ae rfl) (Ab (Ae rfl) (Ab (Ae rfl) (Ab (A3 (α:=AE) (l0:=false) (fl:=true) (xs:=[])) (Ab (A3 (α:=Int) (l0:=false) (fl:=true) (xs:=[])) Ao)))))))) fun l0_ l1_=>hZ (by omega) l0_ a1 l1_ (⟨a2,a3.View,s1.1,a3.Slot,a3.Value,[],[]⟩:Ah)) fun y1 hy1=>q_p fr<|q_i (q_q (fun _=>EM)<|Ed (ys:=[s1.1]) 1 rfl rfl (fun _ _=>rfl) fun v2 z1 hz1=>Ad 1 ⟨v2,rfl,rfl⟩)<|Ad 1 ⟨v1,rfl,rfl⟩
    ·rintro s3 _ _ ⟨v3,rfl,rfl⟩
     exact q_p fr<|Ad 0 ⟨v3,rfl,rfl⟩
    ·rintro i1 s3 _ _ ⟨v4,rfl,rfl⟩
     exact Ap 0 ⟨v4,rfl,rfl⟩
    ·rintro s3 _ _ ⟨v5,rfl,rfl⟩
     exact Am 0 ⟨v5,rfl,rfl⟩
   ·exact Ap 0 ⟨v1,rfl,rfl⟩
  ·rintro i2 s4 _ _ ⟨v6,rfl,rfl⟩
   exact q_n (Ak (Io 0 rfl) rfl)<|As
  ·rintro s4 _ _ ⟨v7,rfl,rfl⟩
   exact Ak (A3 (α:=Int) (l0:=false) (fl:=true) (xs:=[])) rfl
def Xj (a0:Int):Int:=wi .i64 ((wi .i64 (2 * a0)) + 1)
theorem iH {d:Nat} (hd:1≤d) (a0:Int):Fit (R NN d 117 [iW a0] []) (some (Xj a0)) PI:=by
  obtain ⟨d,rfl,g⟩:=up hd
  refine A8 (t117 NN d _) ?_
  unfold oD Xj
  exact q_p fr<|q_p fr<|Ak (Ae rfl) rfl
def m71 (a0:Int) (a1:List Ah) (a2:Int) (a3:AE):Option (Bool):=(Xk a0 a1 a2 a3).bind fun y1=>some (decide ((y1.length:Int) ≥ (Xj a0)))
theorem w71 {d:Nat} (hd:4≤d) (a0:Int) (k1:Bool) (a1:List Ah) (a2:Int) (k3:Bool) (a3:AE):Fit (R NN d 71 [iW a0,.rsl k1 false (a1.map (Enc.cs k1)),iW a2,.agg (Enc.cs k3 a3)] []) (m71 a0 a1 a2 a3) PB:=by
  obtain ⟨d,rfl,g⟩:=up hd
  refine A8 (t71 NN d _ _ _ _) ?_
  unfold b71 m71
  exact AD (n:=3) rfl rfl (by decide) fun b1=>AB 0 rfl rfl rfl<|A5 (fun S hS=>ET (Ae rfl) A3 (Ae rfl) (AS (Ar (l0:=false) (x:=a3))) hS fun l0_ l1_ l2_ l3_=>w116 (by omega) a0 l1_ a1 a2 l3_ a3) fun y1 hy1=>A7<|AA (aF1 (Ae rfl) fun l0_=>iH (by omega) a0)<|q_p fr<|Ak (Ae rfl) rfl
def Jo (a0:Int) (a1:List Ah) (a2:Int) (s3:Bool×Int):Option (LO (Bool×Int)):=(Aq a1 a2).bind fun x2=>bif decide (s3.2 < (x2.Certs.length:Int)) then (Aq a1 a2).bind fun x3=>(Aq x3.Certs s3.2).bind fun x4=>(m71 a0 a1 2 x4).bind fun y2=>bif !y2 then some (LO.ret (false,s3.2)) else some (LO.norm (s3.1,wi .i64 (s3.2 + 1))) else some (LO.exit 0 (s3.1,s3.2))
def m30 (a0:Int) (a1:List Ah) (a2:Int):Option (Bool):=( (m70 a1 a2 4).bind fun y1=>bif !y1 then some (LO.ret false) else (Aq a1 a2).bind fun x1=>bif decide (x1.View < 1) then some (LO.ret false) else some (LO.norm false)).bind (Ai (fun s2=>(Ax (Jo a0 a1 a2) NN (s2,0)).bind (Ai (fun _=>none) (fun i2 s4=>if i2 = 0 then some true else none) (fun s4=>some s4.1))) (fun i1 s2=>none) (fun s2=>some s2))
theorem w30 {d:Nat} (hd:5≤d) (a0:Int) (k1:Bool) (a1:List Ah) (a2:Int):Fit (R NN d 30 [iW a0,.rsl k1 false (a1.map (Enc.cs k1)),iW a2] []) (m30 a0 a1 a2) PB:=by
  obtain ⟨d,rfl,g⟩:=up hd
  refine A8 (t30 NN d _ _ _) ?_
  unfold b30 m30
  refine AY (A:=fun (s:Bool)=>[.bool s]) (B:=fun s=>[]) ?_ ?_ ?_ ?_
  ·refine A5 (aF3 A3 (Ae rfl) (Ae rfl) fun l0_ l1_ l2_=>w70 (by omega) l0_ a1 a2 4) fun y1 hy1=>q_p fr<|q_j ?_ ?_
   ·first | refine BL ?_ | skip
    exact Am 0 rr
   ·exact Bd rfl fun x1 hx1=>q_p fr<|q_p fr<|q_p fr<|q_i (Am 0 rr)<|Ad 0 rr
  ·intro s2
   refine Cc (A:=fun (s:Bool×Int)=>[.bool s.1,iW s.2]) (B:=fun s=>[]) 0 rr ?_ ?_ ?_
   ·intro s3
    unfold aW Jo
    exact Bd rfl fun x2 hx2=>q_p fr<|q_p fr<|A7<|q_p fr<|q_i (Bd rfl fun x3 hx3=>q_p fr<|q_p fr<|Bd rfl fun x4 hx4=>q_p fr<|A5 (fun S hS=>ET (Ae rfl) A3 (Ae rfl) (AS (Ar (l0:=k1) (x:=x4))) hS fun l0_ l1_ l2_ l3_=>w71 (by omega) a0 l1_ a1 2 l3_ x4) fun y2 hy2=>q_p fr<|q_i (Am 0 rr)<|q_p fr<|Ad 0 rr)<|Ap 0 rr
   ·exact fun i2 s4=>q_n (Ak (Ae rfl) rfl)<|As
   ·exact fun s4=>Ak (Ae rfl) rfl
  ·exact fun i1 s2=>As
  ·exact fun s2=>Ak (Ae rfl) rfl
def WI (a0:Int) (a1:Int):Option (Int):=(I0 a1 (wi .i64 ((wi .i64 (3 * a0)) + 1))).bind fun q1=>some (wi .i64 (1 + q1))
theorem w197 {d:Nat} (hd:1≤d) (a0:Int) (a1:Int):Fit (R NN d 197 [iW a0,iW a1] []) (WI a0 a1) PI:=by
  obtain ⟨d,rfl,g⟩:=up hd
  refine A8 (t197 NN d _ _) ?_
  unfold mE WI
  exact q_p fr<|q_p fr<|Jh fun q1 hq1=>q_p fr<|Ak (Ae rfl) rfl
def H4 (a0:List Ah) (a1:List Int) (a2:Int) (s1:Bool×Int):Option (LO (Bool×Int)):=bif decide (s1.2 < (a1.length:Int)) then (Aq a1 s1.2).bind fun x1=>(Aq a0 x1).bind fun x2=>bif x2.From == a2 then some (LO.ret (true,s1.2)) else some (LO.norm (s1.1,wi .i64 (s1.2 + 1))) else some (LO.exit 0 (s1.1,s1.2))
def WH (a0:List Ah) (a1:List Int) (a2:Int):Option (Bool):=(Ax (H4 a0 a1 a2) NN (false,0)).bind (Ai (fun _=>none) (fun i1 s2=>if i1 = 0 then some false else none) (fun s2=>some s2.1))
theorem w198 {d:Nat} (hd:1≤d) (k0:Bool) (a0:List Ah) (k1:Bool) (a1:List Int) (a2:Int):Fit (R NN d 198 [.rsl k0 false (a0.map (Enc.cs k0)),.rsl k1 false (a1.map (Enc.cs k1)),iW a2] []) (WH a0 a1 a2) PB:=by
  obtain ⟨d,rfl,g⟩:=up hd
  refine A8 (t198 NN d _ _ _) ?_
  unfold mD WH
  refine Cc (A:=fun (s:Bool×Int)=>[.bool s.1,iW s.2]) (B:=fun s=>[]) 0 rr ?_ ?_ ?_
  ·intro s1
   unfold Vn H4
   exact A7<|q_p fr<|q_i (Bd rfl fun x1 hx1=>q_p fr<|Bd rfl fun x2 hx2=>q_p fr<|q_p fr<|q_p fr<|q_i (Am 0 rr)<|q_p fr<|Ad 0 rr)<|Ap 0 rr
  ·exact fun i1 s2=>q_n (Ak (Ae rfl) rfl)<|As
  ·exact fun s2=>Ak (Ae rfl) rfl
def H6 (a0:Int) (a1:List Ah) (x1:Ah) (s5:Bool×Int):Option (LO (Bool×Int)):=bif decide (s5.2 < (x1.Refs.length:Int)) then ( ( (Aq x1.Refs s5.2).bind fun x2=>(m30 a0 a1 x2).bind fun y3=>bif !y3 then some (LO.norm true) else (Aq x1.Refs s5.2).bind fun x3=>(Aq a1 x3).bind fun x4=>bif x4.View != x1.View then some (LO.norm true) else (DV x1.Refs 0 s5.2).bind fun ys1=>(Aq x1.Refs s5.2).bind fun x5=>(Aq a1 x5).bind fun x6=>(WH a1 ys1 x6.From).bind fun y4=>some (LO.norm y4)).bind (Ai (fun s8=>bif s8 then some (LO.ret false) else some (LO.norm s5.1)) (fun i3 s8=>if i3 = 1 then some (LO.norm s5.1) else some (LO.exit i3 s5.1)) (fun s8=>some (LO.ret s5.1)))).bind (Ai (fun s9=>some (LO.norm (s9,wi .i64 (s5.2 + 1)))) (fun i4 s9=>some (LO.exit i4 (s9,s5.2))) (fun s9=>some (LO.ret (s9,s5.2)))) else some (LO.exit 0 (s5.1,s5.2))
def WN (a0:Int) (a1:List Ah) (a2:Int):Option (Bool):=(m70 a1 a2 5).bind fun y1=>bif !y1 then some false else (Aq a1 a2).bind fun x1=>( ( bif decide (x1.View < 1) then some (LO.norm true) else (WI a0 x1.View).bind fun y2=>bif x1.From != y2 then some (LO.norm true) else some (LO.norm (decide ((x1.Refs.length:Int) < (Xj a0))))).bind (Ai (fun s3=>bif s3 then some (LO.ret false) else some (LO.norm false)) (fun i1 s3=>some (LO.exit i1 false)) (fun s3=>some (LO.ret false)))).bind (Ai (fun s4=>(Ax (H6 a0 a1 x1) NN (s4,0)).bind (Ai (fun _=>none) (fun i5 s10=>if i5 = 0 then some true else none) (fun s10=>some s10.1))) (fun i2 s4=>none) (fun s4=>some s4))
theorem w183 {d:Nat} (hd:6≤d) (a0:Int) (k1:Bool) (a1:List Ah) (a2:Int):Fit (R NN d 183 [iW a0,.rsl k1 false (a1.map (Enc.cs k1)),iW a2] []) (WN a0 a1 a2) PB:=by
  obtain ⟨d,rfl,g⟩:=up hd
  refine A8 (t183 NN d _ _ _) ?_
  unfold mJ WN
  refine A5 (aF3 A3 (Ae rfl) (Ae rfl) fun l0_ l1_ l2_=>w70 (by omega) l0_ a1 a2 5) fun y1 hy1=>q_p fr<|q_i ?_ ?_
  ·exact Ak (Ae rfl) rfl
  ·refine Bd rfl fun x1 hx1=>AY (A:=fun (s:Bool)=>[.bool s]) (B:=fun s=>[]) ?_ ?_ ?_ ?_
   ·refine AY (A:=fun (s:Bool)=>[.bool s]) (B:=fun s=>[]) ?_ ?_ ?_ ?_
    ·exact q_q fr<|q_p fr<|q_p fr<|q_p fr<|q_j (Ad 0 rr)<|q_q fr<|q_p fr<|q_p fr<|q_q fr<|q_p fr<|q_p fr<|A5 (aF2 (Ae rfl) (Ae rfl) fun l0_ l1_=>w197 (by omega) a0 x1.View) fun y2 hy2=>q_p fr<|q_j (Ad 0 rr)<|q_q fr<|q_p fr<|q_p fr<|A7<|AA (aF1 (Ae rfl) fun l0_=>iH (by omega) a0)<|q_p fr<|Ad 0 rr
    ·exact fun s3=>q_i (Am 0 rr)<|Ad 0 rr
    ·exact fun i1 s3=>Ap 0 rr
    ·exact fun s3=>Am 0 rr
   ·intro s4
    refine Cc (A:=fun (s:Bool×Int)=>[.bool s.1,iW s.2]) (B:=fun s=>[]) 0 rr ?_ ?_ ?_
    ·intro s5
     unfold Vr H6
     refine q_q fr<|q_p fr<|q_p fr<|A7<|q_p fr<|q_i ?_ ?_
     ·refine AY (A:=fun (s:Bool)=>[.bool s]) (B:=fun s=>[]) ?_ ?_ ?_ ?_
      ·refine AY (A:=fun (s:Bool)=>[.bool s]) (B:=fun s=>[]) ?_ ?_ ?_ ?_
       ·exact q_q fr<|q_p fr<|q_p fr<|Bd rfl fun x2 hx2=>q_p fr<|A5 (aF3 (Ae rfl) A3 (Ae rfl) fun l0_ l1_ l2_=>w30 (by omega) a0 l1_ a1 x2) fun y3 hy3=>q_p fr<|q_j (Ad 0 rr)<|q_q fr<|q_p fr<|q_p fr<|Bd rfl fun x3 hx3=>q_p fr<|Bd rfl fun x4 hx4=>q_p fr<|q_p fr<|q_q fr<|q_p fr<|q_p fr<|q_p fr<|q_j (Ad 0 rr)<|q_q fr<|q_p fr<|q_p fr<|OO rfl (.inr ⟨rfl,rfl⟩) (.inl rfl) fun fl1 ys1 hys1=>q_q fr<|q_p fr<|q_p fr<|Bd rfl fun x5 hx5=>q_p fr<|Bd rfl fun x6 hx6=>q_p fr<|q_p fr<|A5 (aF3 A3 A3 (Ae rfl) fun l0_ l1_ l2_=>w198 (by omega) l0_ a1 l1_ ys1 x6.From) fun y4 hy4=>Ad 0 rr
       ·exact fun s8=>q_i (Am 0 rr)<|Ad 0 rr
       ·exact fun i3 s8=>q_n (Ad 0 rr)<|Ap 0 rr
       ·exact fun s8=>Am 0 rr
      ·exact fun s9=>q_p fr<|Ad 0 rr
      ·exact fun i4 s9=>Ap 0 rr
      ·exact fun s9=>Am 0 rr
     ·exact Ap 0 rr
    ·exact fun i5 s10=>q_n (Ak (Ae rfl) rfl)<|As
    ·exact fun s10=>Ak (Ae rfl) rfl
   ·exact fun i2 s4=>As
   ·exact fun s4=>Ak (Ae rfl) rfl
def WY (a0:Int) (a1:List Ah) (a2:Int) (a3:Int):Option (Bool):=bif a2 == 0 then some (a3 == (-1)) else (WN a0 a1 a3).bind fun y1=>bif y1 then (Aq a1 a3).bind fun x1=>some (x1.View == a2) else some false
theorem w150 {d:Nat} (hd:7≤d) (a0:Int) (k1:Bool) (a1:List Ah) (a2:Int) (a3:Int):Fit (R NN d 150 [iW a0,.rsl k1 false (a1.map (Enc.cs k1)),iW a2,iW a3] []) (WY a0 a1 a2 a3) PB:=by
  obtain ⟨d,rfl,g⟩:=up hd
  refine A8 (t150 NN d _ _ _ _) ?_
  unfold m8 WY
  exact q_p fr<|q_i (q_p fr<|Ak (Ae rfl) rfl)<|A5 (aF3 (Ae rfl) A3 (Ae rfl) fun l0_ l1_ l2_=>w183 (by omega) a0 l1_ a1 a3) fun y1 hy1=>q_k (Bd rfl fun x1 hx1=>q_p fr<|q_p fr<|q_p fr<|Ak (Ae rfl) rfl)<|Ak (Ae rfl) rfl
def KX (a0:Int) (a1:List Ah) (a2:Int) (s1:Int×(List Int)) (s3:Bool×Int):Option (LO (Bool×Int)):=( ( bif decide (s3.2 < (a1.length:Int)) then some (LO.norm (!s3.1)) else some (LO.norm false)).bind (Ai (fun s6=>bif s6 then some (LO.norm s6) else some (LO.exit 2 s6)) (fun i1 s6=>some (LO.exit i1 s6)) (fun s6=>some (LO.ret s6)))).bind (Ai (fun s7=>( (Aq a1 s3.2).bind fun x1=>( bif x1.Kind == 3 then bif x1.Slot == a2 then some (LO.norm (x1.Value == s1.1)) else some (LO.norm false) else some (LO.norm false)).bind (Ai (fun s10=>bif s10 then (m71 a0 a1 3 (⟨a2,x1.View,s1.1⟩:AE)).bind fun y1=>some (LO.norm y1) else some (LO.norm s3.1)) (fun i3 s10=>if i3 = 3 then some (LO.norm s3.1) else some (LO.exit i3 s3.1)) (fun s10=>some (LO.ret s3.1)))).bind (Ai (fun s11=>some (LO.norm (s11,wi .i64 (s3.2 + 1)))) (fun i4 s11=>some (LO.exit i4 (s11,s3.2))) (fun s11=>some (LO.ret (s11,s3.2))))) (fun i2 s7=>some (LO.exit i2 (s3.1,s3.2))) (fun s7=>some (LO.ret (s3.1,s3.2))))
def KW (a0:Int) (a1:List Ah) (a2:Int) (s1:Int×(List Int)):Option (LO (Int×(List Int))):=bif decide (s1.1≤12) then ( (Ax (KX a0 a1 a2 s1) NN (false,0)).bind (Ai (fun _=>none) (fun i5 s12=>if i5 = 2 then bif s12.1 then (B7 8 s1.2 [s1.1]).bind fun z1=>some (LO.norm z1) else some (LO.norm s1.2) else if i5 = 1 then some (LO.norm s1.2) else some (LO.exit i5 s1.2)) (fun s12=>some (LO.ret s1.2)))).bind (Ai (fun s13=>some (LO.norm (wi .i64 (s1.1 + 1),s13))) (fun i6 s13=>some (LO.exit i6 (s1.1,s13))) (fun s13=>some (LO.ret (s1.1,s13)))) else some (LO.exit 0 (s1.1,s1.2))
def m32 (a0:Int) (a1:List Ah) (a2:Int):Option ((List Int)):=(Ax (KW a0 a1 a2) NN (0,[])).bind (Ai (fun _=>none) (fun i7 s14=>if i7 = 0 then some s14.2 else none) (fun s14=>some []))
theorem w32 {d:Nat} (hd:5≤d) (a0:Int) (k1:Bool) (a1:List Ah) (a2:Int):Fit (R NN d 32 [iW a0,.rsl k1 false (a1.map (Enc.cs k1)),iW a2] []) (m32 a0 a1 a2) (P0 (fun (t:List Int)=>AV.rsl false false (t.map (Enc.cs false)))):=by
  obtain ⟨d,rfl,g⟩:=up hd
  refine A8 (t32 NN d _ _ _) ?_
  unfold b32 m32
  refine q_q (fun _=>Em)<|Eo (α:=Int) false<|BW (I:=(fun (s:Int×(List Int)) l L=>∃ (v1:AV),l = [v1,iW s.1]∧L = [sl false v1 (s.2:List Int)])) 0 ⟨(.rsl false true []),rfl,rfl⟩ ?_ ?_ ?_
  ·rintro s1 _ _ ⟨v1,rfl,rfl⟩
   unfold aT KW
   refine q_p fr<|q_i ?_ ?_
   ·refine DN (I:=(fun (s:(List Int)) l L=>∃ (v2:AV),l = [v2]∧L = [sl false v2 (s:List Int)])) ?_ ?_ ?_ ?_
    ·refine Cc (A:=fun (s:Bool×Int)=>[.bool s.1,iW s.2]) (B:=fun s=>[sl false v1 (s1.2:List Int)]) 0 rr ?_ ?_ ?_
     ·intro s3
      unfold aU KX
      refine AY (A:=fun (s:Bool)=>[.bool s]) (B:=fun s=>[sl false v1 (s1.2:List Int)]) ?_ ?_ ?_ ?_
      ·refine AY (A:=fun (s:Bool)=>[.bool s]) (B:=fun s=>[sl false v1 (s1.2:List Int)]) ?_ ?_ ?_ ?_
       ·exact A7<|q_p fr<|q_k (q_p fr<|Ad 0 rr)<|Ad 0 rr
       ·exact fun s6=>q_i (Ad 0 rr)<|Ap 0 rr
       ·exact fun i1 s6=>Ap 0 rr
       ·exact fun s6=>Am 0 rr
      ·intro s7
       refine AY (A:=fun (s:Bool)=>[.bool s]) (B:=fun s=>[sl false v1 (s1.2:List Int)]) ?_ ?_ ?_ ?_
       ·refine Bd rfl fun x1 hx1=>AY (A:=fun (s:Bool)=>[.bool s]) (B:=fun s=>[sl false v1 (s1.2:List Int)]) ?_ ?_ ?_ ?_
        ·exact q_q fr<|q_p fr<|q_p fr<|q_p fr<|q_k (q_q fr<|q_p fr<|q_p fr<|q_p fr<|q_k (q_q fr<|q_p fr<|q_p fr<|q_p fr<|Ad 0 rr)<|Ad 0 rr)<|Ad 0 rr
        ·exact fun s10=>q_i (q_q fr<|q_p fr<|q_p fr<|q_p (fun _=>GA rfl)<|A5 (fun S hS=>ET (Ae rfl) A3 (Ae rfl) (AS (Ab (Ae rfl) (Ab (Ae rfl) (Ab (Ae rfl) Ao)))) hS fun l0_ l1_ l2_ l3_=>w71 (by omega) a0 l1_ a1 3 l3_ (⟨a2,x1.View,s1.1⟩:AE)) fun y1 hy1=>Ad 0 rr)<|Ad 0 rr
        ·exact fun i3 s10=>q_n (Ad 0 rr)<|Ap 0 rr
        ·exact fun s10=>Am 0 rr
       ·exact fun s11=>q_p fr<|Ad 0 rr
       ·exact fun i4 s11=>Ap 0 rr
       ·exact fun s11=>Am 0 rr
      ·exact fun i2 s7=>Ap 0 rr
      ·exact fun s7=>Am 0 rr
     ·exact fun i5 s12=>q_n (q_i (q_q (fun _=>EM)<|Ed (ys:=[s1.1]) 0 rfl rfl (fun _ _=>rfl) fun v2 z1 hz1=>Ad 0 ⟨v2,rfl,rfl⟩)<|Ad 0 ⟨v1,rfl,rfl⟩)<|q_n (Ad 0 ⟨v1,rfl,rfl⟩)<|Ap 0 ⟨v1,rfl,rfl⟩
     ·exact fun s12=>Am 0 ⟨v1,rfl,rfl⟩
    ·rintro s13 _ _ ⟨v3,rfl,rfl⟩
     exact q_p fr<|Ad 0 ⟨v3,rfl,rfl⟩
    ·rintro i6 s13 _ _ ⟨v4,rfl,rfl⟩
     exact Ap 0 ⟨v4,rfl,rfl⟩
    ·rintro s13 _ _ ⟨v5,rfl,rfl⟩
     exact Am 0 ⟨v5,rfl,rfl⟩
   ·exact Ap 0 ⟨v1,rfl,rfl⟩
  ·rintro i7 s14 _ _ ⟨v6,rfl,rfl⟩
   exact q_n (Ak (Io 0 rfl) rfl)<|As
  ·rintro s14 _ _ ⟨v7,rfl,rfl⟩
   exact Ak (A3 (α:=Int) (l0:=false) (fl:=true) (xs:=[])) rfl
def IF (a0:Int) (a1:List Ah) (s1:Bool×Int×(List Int)):Option (LO (Bool×Int×(List Int))):=bif s1.1 then none else bif decide (s1.2.1≤30) then (m32 a0 a1 s1.2.1).bind fun y1=>bif (y1.length:Int) == 0 then some (LO.ret (true,s1.2.1,s1.2.2)) else (Aq y1 0).bind fun x1=>(B7 8 s1.2.2 [x1]).bind fun z1=>some (LO.norm (false,wi .i64 (s1.2.1 + 1),z1)) else some (LO.exit 0 (false,s1.2.1,s1.2.2))
def Ui (a0:Int) (a1:List Ah):Option ((List Int)):=(Ax (IF a0 a1) NN (false,1,[])).bind (Ai (fun _=>none) (fun i1 s2=>if i1 = 0 then some s2.2.2 else none) (fun s2=>some (bif s2.1 then s2.2.2 else [])))
theorem w151 {d:Nat} (hd:6≤d) (a0:Int) (k1:Bool) (a1:List Ah):Fit (R NN d 151 [iW a0,.rsl k1 false (a1.map (Enc.cs k1))] []) (Ui a0 a1) (P0 (fun (t:List Int)=>AV.rsl false false (t.map (Enc.cs false)))):=by
  obtain ⟨d,rfl,g⟩:=up hd
  refine A8 (t151 NN d _ _) ?_
  unfold m7 Ui
  refine q_q (fun _=>Em)<|Eo (α:=Int) false<|BW (I:=(fun (s:Bool×Int×(List Int)) l L=>∃ (v1:AV),l = [(bif s.1 then v1 else AV.rsl false true []),v1,iW s.2.1]∧L = [sl false v1 (s.2.2:List Int)])) 0 ⟨(.rsl false true []),rfl,rfl⟩ ?_ ?_ ?_
  ·rintro s1 _ _ ⟨v1,rfl,rfl⟩
   unfold V6 IF
   refine d5 (b:=s1.1) fun hfg_=>?_
   try rw [hfg_]
   exact q_p fr<|q_i (A5 (aF3 (Ae rfl) A3 (Ae rfl) fun l0_ l1_ l2_=>w32 (by omega) a0 l1_ a1 s1.2.1) fun y1 hy1=>A7<|q_p fr<|q_i (Am 0 ⟨v1,rfl,rfl⟩)<|Bd rfl fun x1 hx1=>q_p fr<|q_q (fun _=>EM)<|Ed (ys:=[x1]) 0 rfl rfl (fun _ _=>rfl) fun v2 z1 hz1=>q_p fr<|Ad 0 ⟨v2,rfl,rfl⟩)<|Ap 0 ⟨v1,rfl,rfl⟩
  ·rintro i1 s2 _ _ ⟨v3,rfl,rfl⟩
   exact q_n (Ak (Io 0 rfl) rfl)<|As
  ·rintro s2 _ _ ⟨v4,rfl,rfl⟩
   exact Ak (fH 0 rfl) rfl
def Xl (a0:Int) (a1:List Ah) (a2:Af):Option (Int):=( ( bif !(Us a0 a2.Id) then some (LO.norm true) else bif !(Dm a2.View 0 20) then some (LO.norm true) else some (LO.norm (!(Dm a2.Done 0 30)))).bind (Ai (fun s3=>bif s3 then some (LO.ret 3) else some (LO.norm 0)) (fun i1 s3=>some (LO.exit i1 0)) (fun s3=>some (LO.ret 0)))).bind (Ai (fun s4=>( ( bif a2.Start != (-1) then bif a2.View == 0 then some (LO.norm true) else (WY a0 a1 a2.View a2.Start).bind fun y1=>some (LO.norm (!y1)) else some (LO.norm false)).bind (Ai (fun s7=>bif s7 then some (LO.ret 1) else some (LO.norm s4)) (fun i3 s7=>some (LO.exit i3 s4)) (fun s7=>some (LO.ret s4)))).bind (Ai (fun s8=>( bif decide (a2.Done > 0) then (Ui a0 a1).bind fun y2=>bif decide (a2.Done > (y2.length:Int)) then some (LO.ret 8) else some (LO.norm s8) else some (LO.norm s8)).bind (Ai (fun s10=>some 0) (fun i5 s10=>none) (fun s10=>some s10))) (fun i4 s8=>none) (fun s8=>some s8))) (fun i2 s4=>none) (fun s4=>some s4))
theorem w111 {d:Nat} (hd:8≤d) (a0:Int) (k1:Bool) (a1:List Ah) (k2:Bool) (a2:Af):Fit (R NN d 111 [iW a0,.rsl k1 false (a1.map (Enc.cs k1)),.rp k2 (Enc.cs k2 a2)] []) (Xl a0 a1 a2) PI:=by
  obtain ⟨d,rfl,g⟩:=up hd
  refine A8 (t111 NN d _ _ _) ?_
  unfold oM Xl
  refine AY (A:=fun (s:Int)=>[iW s]) (B:=fun s=>[]) ?_ ?_ ?_ ?_
  ·refine AY (A:=fun (s:Bool)=>[.bool s]) (B:=fun s=>[]) ?_ ?_ ?_ ?_
   ·exact q_q fr<|q_p fr<|q_p fr<|AA (aF2 (Ae rfl) (Ae rfl) fun l0_ l1_=>dC (by omega) a0 a2.Id)<|q_p fr<|q_j (Ad 0 rr)<|q_q fr<|q_p fr<|q_p fr<|AA (aF3 (Ae rfl) (Ae rfl) (Ae rfl) fun l0_ l1_ l2_=>F3 (by omega) a2.View 0 20)<|q_p fr<|q_j (Ad 0 rr)<|q_q fr<|q_p fr<|q_p fr<|AA (aF3 (Ae rfl) (Ae rfl) (Ae rfl) fun l0_ l1_ l2_=>F3 (by omega) a2.Done 0 30)<|q_p fr<|Ad 0 rr
   ·exact fun s3=>q_i (Am 0 rr)<|Ad 0 rr
   ·exact fun i1 s3=>Ap 0 rr
   ·exact fun s3=>Am 0 rr
  ·intro s4
   refine AY (A:=fun (s:Int)=>[iW s]) (B:=fun s=>[]) ?_ ?_ ?_ ?_
   ·refine AY (A:=fun (s:Bool)=>[.bool s]) (B:=fun s=>[]) ?_ ?_ ?_ ?_
    ·exact q_q fr<|q_p fr<|q_p fr<|q_p fr<|q_k (q_q fr<|q_p fr<|q_p fr<|q_p fr<|q_j (Ad 0 rr)<|q_q fr<|q_p fr<|q_p fr<|q_q fr<|q_p fr<|q_p fr<|A5 (fun S hS=>ET (Ae rfl) A3 (Ae rfl) (Ae rfl) hS fun l0_ l1_ l2_ l3_=>w150 (by omega) a0 l1_ a1 a2.View a2.Start) fun y1 hy1=>q_p fr<|Ad 0 rr)<|Ad 0 rr
    ·exact fun s7=>q_i (Am 0 rr)<|Ad 0 rr
    ·exact fun i3 s7=>Ap 0 rr
    ·exact fun s7=>Am 0 rr
   ·intro s8
    refine AY (A:=fun (s:Int)=>[iW s]) (B:=fun s=>[]) ?_ ?_ ?_ ?_
    ·refine q_q fr<|q_p fr<|q_p fr<|q_p fr<|q_k ?_ ?_
     ·exact q_q fr<|q_p fr<|q_p fr<|A5 (aF2 (Ae rfl) A3 fun l0_ l1_=>w151 (by omega) a0 l1_ a1) fun y2 hy2=>A7<|q_p fr<|q_i (Am 0 rr)<|Ad 0 rr
     ·first | refine Dy ?_ | skip
      exact Ad 0 rr
    ·exact fun s10=>Ak (Ae rfl) rfl
    ·exact fun i5 s10=>As
    ·exact fun s10=>Ak (Ae rfl) rfl
   ·exact fun i4 s8=>As
   ·exact fun s8=>Ak (Ae rfl) rfl
  ·exact fun i2 s4=>As
  ·exact fun s4=>Ak (Ae rfl) rfl
def Gx (a0:Aa) (s1:Int×Int×Int):Option (LO (Int×Int×Int)):=bif decide (s1.2.2≤(wi .i64 ((wi .i64 (3 * a0.F)) + 1))) then ( (m29 a0.Bad s1.2.2).bind fun y1=>bif y1 then some (LO.norm (s1.1,s1.2.1)) else ( bif decide (s1.2.1 ≥ (a0.Replicas.length:Int)) then some (LO.ret 1) else (Aq a0.Replicas s1.2.1).bind fun x1=>bif x1.Id != s1.2.2 then some (LO.ret 1) else some (LO.norm s1.1)).bind (Ai (fun s4=>some (LO.norm (s4,wi .i64 (s1.2.1 + 1)))) (fun i1 s4=>if i1 = 1 then some (LO.norm (s4,s1.2.1)) else some (LO.exit i1 (s4,s1.2.1))) (fun s4=>some (LO.ret (s4,s1.2.1))))).bind (Ai (fun s5=>some (LO.norm (s5.1,s5.2,wi .i64 (s1.2.2 + 1)))) (fun i2 s5=>some (LO.exit i2 (s5.1,s5.2,s1.2.2))) (fun s5=>some (LO.ret (s5.1,s5.2,s1.2.2)))) else some (LO.exit 0 (s1.1,s1.2.1,s1.2.2))
def Ia (a0:Aa) (s7:Int×Int):Option (LO (Int×Int)):=bif decide (s7.2 < (a0.Replicas.length:Int)) then (Aq a0.Replicas s7.2).bind fun x2=>(Xl a0.F a0.Ledger x2).bind fun y2=>bif y2 != 0 then some (LO.ret (y2,s7.2)) else some (LO.norm (s7.1,wi .i64 (s7.2 + 1))) else some (LO.exit 2 (s7.1,s7.2))
def m67 (a0:Aa):Option (Int):=(Ax (Gx a0) NN (0,0,1)).bind (Ai (fun _=>none) (fun i3 s6=>if i3 = 0 then bif s6.2.1 != (a0.Replicas.length:Int) then some 1 else (Ax (Ia a0) NN (s6.1,0)).bind (Ai (fun _=>none) (fun i4 s8=>if i4 = 2 then some 0 else none) (fun s8=>some s8.1)) else none) (fun s6=>some s6.1))
theorem w67 {d:Nat} (hd:9≤d) (k0:Bool) (a0:Aa):Fit (R NN d 67 [.rp k0 (Enc.cs k0 a0)] []) (m67 a0) PI:=by
  obtain ⟨d,rfl,g⟩:=up hd
  refine A8 (t67 NN d _) ?_
  unfold b67 m67
  refine Cc (A:=fun (s:Int×Int×Int)=>[iW s.1,iW s.2.1,iW s.2.2]) (B:=fun s=>[]) 0 rr ?_ ?_ ?_
  ·intro s1
   unfold aJ Gx
   refine q_q fr<|q_p fr<|q_p fr<|q_p fr<|q_p fr<|q_p fr<|q_i ?_ ?_
   ·refine AY (A:=fun (s:Int×Int)=>[iW s.1,iW s.2]) (B:=fun s=>[]) ?_ ?_ ?_ ?_
    ·refine q_q fr<|q_p fr<|q_p fr<|A5 (aF2 A3 (Ae rfl) fun l0_ l1_=>w29 (by omega) l0_ a0.Bad s1.2.2) fun y1 hy1=>q_i ?_ ?_
     ·exact Ad 0 rr
     ·refine AY (A:=fun (s:Int)=>[iW s]) (B:=fun s=>[]) ?_ ?_ ?_ ?_
      ·refine q_q fr<|q_p fr<|q_p fr<|A7<|q_p fr<|q_j ?_ ?_
       ·first | refine BL ?_ | skip
        exact Am 0 rr
       ·exact q_q fr<|q_p fr<|q_p fr<|Bd rfl fun x1 hx1=>q_p fr<|q_p fr<|q_p fr<|q_i (Am 0 rr)<|Ad 0 rr
      ·exact fun s4=>q_p fr<|Ad 0 rr
      ·exact fun i1 s4=>q_n (Ad 0 rr)<|Ap 0 rr
      ·exact fun s4=>Am 0 rr
    ·exact fun s5=>q_p fr<|Ad 0 rr
    ·exact fun i2 s5=>Ap 0 rr
    ·exact fun s5=>Am 0 rr
   ·exact Ap 0 rr
  ·intro i3 s6
   refine q_n ?_ ?_
   ·refine q_q fr<|q_p fr<|q_p fr<|A7<|q_p fr<|q_i ?_ ?_
    ·exact Ak (Ae rfl) rfl
    ·refine Cc (A:=fun (s:Int×Int)=>[iW s.1,iW s.2]) (B:=fun s=>[]) 0 rr ?_ ?_ ?_
     ·intro s7
      unfold aI Ia
      exact q_q fr<|q_p fr<|q_p fr<|A7<|q_p fr<|q_i (q_q fr<|q_p fr<|q_p fr<|q_q fr<|q_p fr<|q_p fr<|q_q fr<|q_p fr<|q_p fr<|Bd rfl fun x2 hx2=>A5 (aF3 (Ae rfl) A3 (Bc (Ar (l0:=k0) (x:=x2)) (fun _ _ _ h=>Enc.frz k0 x2 _ _ _ h)) fun l0_ l1_ l2_=>w111 (by omega) a0.F l1_ a0.Ledger l2_ x2) fun y2 hy2=>q_p fr<|q_i (Am 0 rr)<|q_p fr<|Ad 0 rr)<|Ap 0 rr
     ·exact fun i4 s8=>q_n (Ak (Ae rfl) rfl)<|As
     ·exact fun s8=>Ak (Ae rfl) rfl
   ·exact As
  ·exact fun s6=>Ak (Ae rfl) rfl
def Zj (a0:Int):Bool:=(Dm a0 1 9)
theorem w112 {d:Nat} (hd:2≤d) (a0:Int):Fit (R NN d 112 [iW a0] []) (some (Zj a0)) PB:=by
  obtain ⟨d,rfl,g⟩:=up hd
  refine A8 (t112 NN d _) ?_
  unfold oK Zj
  exact AA (aF3 (Ae rfl) (Ae rfl) (Ae rfl) fun l0_ l1_ l2_=>F3 (by omega) a0 1 9)<|Ak (Ae rfl) rfl
def Zi (a0:Int):Bool:=(Dm a0 0 9000)
theorem w114 {d:Nat} (hd:2≤d) (a0:Int):Fit (R NN d 114 [iW a0] []) (some (Zi a0)) PB:=by
  obtain ⟨d,rfl,g⟩:=up hd
  refine A8 (t114 NN d _) ?_
  unfold oI Zi
  exact AA (aF3 (Ae rfl) (Ae rfl) (Ae rfl) fun l0_ l1_ l2_=>F3 (by omega) a0 0 9000)<|Ak (Ae rfl) rfl
def JQ (a0:Int):Bool:=(Dm a0 3 8)
theorem hU {d:Nat} (hd:2≤d) (a0:Int):Fit (R NN d 152 [iW a0] []) (some (JQ a0)) PB:=by
  obtain ⟨d,rfl,g⟩:=up hd
  refine A8 (t152 NN d _) ?_
  unfold m3 JQ
  exact AA (aF3 (Ae rfl) (Ae rfl) (Ae rfl) fun l0_ l1_ l2_=>F3 (by omega) a0 3 8)<|Ak (Ae rfl) rfl
def JP (a0:Int):Bool:=bif a0 == 3 then true else a0 == 5
theorem hJ {d:Nat} (hd:1≤d) (a0:Int):Fit (R NN d 153 [iW a0] []) (some (JP a0)) PB:=by
  obtain ⟨d,rfl,g⟩:=up hd
  refine A8 (t153 NN d _) ?_
  unfold mZ JP
  exact q_p fr<|Wa (fun h1=>Ak (Ae rfl) rfl) fun h1=>q_p fr<|Ak (Ae rfl) rfl
def IN (a0:Int):Option (Bool):=( bif a0 == 4 then some (LO.norm true) else bif a0 == 5 then some (LO.norm true) else some (LO.norm (a0 == 8))).bind (Ai (fun s2=>some s2) (fun i1 s2=>none) (fun s2=>some s2))
theorem YB {d:Nat} (hd:1≤d) (a0:Int):Fit (R NN d 154 [iW a0] []) (IN a0) PB:=by
  obtain ⟨d,rfl,g⟩:=up hd
  refine A8 (t154 NN d _) ?_
  unfold mY IN
  refine AY (A:=fun (s:Bool)=>[.bool s]) (B:=fun s=>[]) ?_ ?_ ?_ ?_
  ·exact q_p fr<|q_j (Ad 0 rr)<|q_p fr<|q_j (Ad 0 rr)<|q_p fr<|Ad 0 rr
  ·exact fun s2=>Ak (Ae rfl) rfl
  ·exact fun i1 s2=>As
  ·exact fun s2=>Ak (Ae rfl) rfl
def IA (a0:Str) (a1:Int) (s1:Int×Int×(List Str)):Option (LO (Int×Int×(List Str))):=bif decide (s1.2.1≤(a0.length:Int)) then ( bif s1.2.1 == (a0.length:Int) then (DV a0 s1.1 s1.2.1).bind fun t2=>(B7 16 s1.2.2 [t2]).bind fun z2=>some (LO.norm (wi .i64 (s1.2.1 + 1),z2)) else (Aq a0 s1.2.1).bind fun c1=>bif (c1.toNat:Int) == a1 then (DV a0 s1.1 s1.2.1).bind fun t1=>(B7 16 s1.2.2 [t1]).bind fun z1=>some (LO.norm (wi .i64 (s1.2.1 + 1),z1)) else some (LO.norm (s1.1,s1.2.2))).bind (Ai (fun s3=>some (LO.norm (s3.1,wi .i64 (s1.2.1 + 1),s3.2))) (fun i1 s3=>some (LO.exit i1 (s3.1,s1.2.1,s3.2))) (fun s3=>some (LO.ret (s3.1,s1.2.1,s3.2)))) else some (LO.exit 0 (s1.1,s1.2.1,s1.2.2))
def Uc (a0:Str) (a1:Int):Option ((List Str)):=(Ax (IA a0 a1) NN (0,0,[])).bind (Ai (fun _=>none) (fun i2 s4=>if i2 = 0 then some s4.2.2 else none) (fun s4=>some []))
theorem gU {d:Nat} (hd:1≤d) (a0:Str) (a1:Int):Fit (R NN d 184 [Cb a0,.int .u8 a1] []) (Uc a0 a1) (P0 (fun (t:List Str)=>AV.rsl false false (t.map (Enc.cs false)))):=by
  obtain ⟨d,rfl,g⟩:=up hd
  refine A8 (t184 NN d _ _) ?_
  unfold mI Uc
  refine q_q (fun _=>RO)<|Eo (α:=Str) false<|BW (I:=(fun (s:Int×Int×(List Str)) l L=>∃ (v1:AV),l = [v1,iW s.1,iW s.2.1]∧L = [sl false v1 (s.2.2:List Str)])) 0 ⟨(.rsl false true []),rfl,rfl⟩ ?_ ?_ ?_
  ·rintro s1 _ _ ⟨v1,rfl,rfl⟩
   unfold Vq IA
   refine FH<|q_p fr<|q_i ?_ ?_
   ·refine DN (I:=(fun (s:Int×(List Str)) l L=>∃ (v2:AV),l = [v2,iW s.1]∧L = [sl false v2 (s.2:List Str)])) ?_ ?_ ?_ ?_
    ·refine FH<|q_p fr<|q_j ?_ ?_
     ·first | refine BL ?_ | skip
      exact NP (.inl rfl) (.inl rfl) fun t2 ht2=>q_q (fun _=>RN)<|Ed (ys:=[t2]) 0 rfl rfl (fun _ _=>rfl) fun v3 z2 hz2=>q_p fr<|Ad 0 ⟨v3,rfl,rfl⟩
     ·exact I4 fun c1 hc1=>q_p fr<|q_i (NP (.inl rfl) (.inl rfl) fun t1 ht1=>q_q (fun _=>RN)<|Ed (ys:=[t1]) 0 rfl rfl (fun _ _=>rfl) fun v2 z1 hz1=>q_p fr<|Ad 0 ⟨v2,rfl,rfl⟩)<|Ad 0 ⟨v1,rfl,rfl⟩
    ·rintro s3 _ _ ⟨v4,rfl,rfl⟩
     exact q_p fr<|Ad 0 ⟨v4,rfl,rfl⟩
    ·rintro i1 s3 _ _ ⟨v5,rfl,rfl⟩
     exact Ap 0 ⟨v5,rfl,rfl⟩
    ·rintro s3 _ _ ⟨v6,rfl,rfl⟩
     exact Am 0 ⟨v6,rfl,rfl⟩
   ·exact Ap 0 ⟨v1,rfl,rfl⟩
  ·rintro i2 s4 _ _ ⟨v7,rfl,rfl⟩
   exact q_n (Ak (Io 0 rfl) rfl)<|As
  ·rintro s4 _ _ ⟨v8,rfl,rfl⟩
   exact Ak (A3 (α:=Str) (l0:=false) (fl:=true) (xs:=[])) rfl
def JY (a0:Str) (s1:Bool×Int):Option (LO (Bool×Int)):=bif decide (s1.2 < (a0.length:Int)) then ( ( (Aq a0 s1.2).bind fun c1=>bif decide ((c1.toNat:Int) < 97) then (Aq a0 s1.2).bind fun c5=>bif decide ((c5.toNat:Int) < 48) then some (LO.norm true) else (Aq a0 s1.2).bind fun c6=>some (LO.norm (decide ((c6.toNat:Int) > 57))) else (Aq a0 s1.2).bind fun c2=>bif decide ((c2.toNat:Int) > 122) then (Aq a0 s1.2).bind fun c3=>bif decide ((c3.toNat:Int) < 48) then some (LO.norm true) else (Aq a0 s1.2).bind fun c4=>some (LO.norm (decide ((c4.toNat:Int) > 57))) else some (LO.norm false)).bind (Ai (fun s4=>bif s4 then some (LO.ret false) else some (LO.norm s1.1)) (fun i1 s4=>if i1 = 1 then some (LO.norm s1.1) else some (LO.exit i1 s1.1)) (fun s4=>some (LO.ret s1.1)))).bind (Ai (fun s5=>some (LO.norm (s5,wi .i64 (s1.2 + 1)))) (fun i2 s5=>some (LO.exit i2 (s5,s1.2))) (fun s5=>some (LO.ret (s5,s1.2)))) else some (LO.exit 0 (s1.1,s1.2))
def Pg (a0:Str):Option (Bool):=(Ax (JY a0) NN (false,0)).bind (Ai (fun _=>none) (fun i3 s6=>if i3 = 0 then some (Dm (a0.length:Int) 1 8) else none) (fun s6=>some s6.1))
theorem w199 {d:Nat} (hd:2≤d) (a0:Str):Fit (R NN d 199 [Cb a0] []) (Pg a0) PB:=by
  obtain ⟨d,rfl,g⟩:=up hd
  refine A8 (t199 NN d _) ?_
  unfold mC Pg
  refine Cc (A:=fun (s:Bool×Int)=>[.bool s.1,iW s.2]) (B:=fun s=>[]) 0 rr ?_ ?_ ?_
  ·intro s1
   unfold Vm JY
   refine FH<|q_p fr<|q_i ?_ ?_
   ·refine AY (A:=fun (s:Bool)=>[.bool s]) (B:=fun s=>[]) ?_ ?_ ?_ ?_
    ·refine AY (A:=fun (s:Bool)=>[.bool s]) (B:=fun s=>[]) ?_ ?_ ?_ ?_
     ·exact I4 fun c1 hc1=>q_p fr<|q_j (I4 fun c5 hc5=>q_p fr<|q_j (Ad 0 rr)<|I4 fun c6 hc6=>q_p fr<|Ad 0 rr)<|I4 fun c2 hc2=>q_p fr<|q_k (I4 fun c3 hc3=>q_p fr<|q_j (Ad 0 rr)<|I4 fun c4 hc4=>q_p fr<|Ad 0 rr)<|Ad 0 rr
     ·exact fun s4=>q_i (Am 0 rr)<|Ad 0 rr
     ·exact fun i1 s4=>q_n (Ad 0 rr)<|Ap 0 rr
     ·exact fun s4=>Am 0 rr
    ·exact fun s5=>q_p fr<|Ad 0 rr
    ·exact fun i2 s5=>Ap 0 rr
    ·exact fun s5=>Am 0 rr
   ·exact Ap 0 rr
  ·exact fun i3 s6=>q_n (FH<|AA (aF3 (Ae rfl) (Ae rfl) (Ae rfl) fun l0_ l1_ l2_=>F3 (by omega) (a0.length:Int) 1 8)<|Ak (Ae rfl) rfl)<|As
  ·exact fun s6=>Ak (Ae rfl) rfl
end
end Go.Proofs.YtjlecnhninhmnaaGreatDoor
