/- Plain functions, and that the evaluator computes them. -/
import Derived.Test.YtgjljhchmokhfaaGreatW1
namespace Go.Proofs.YtgjljhchmokhfaaGreat
open Go Go.Rf
set_option linter.unusedVariables false
set_option linter.unusedSimpArgs false
noncomputable section
def m70 (a0:Ad) (a1:Int):Bool:=a0.Slot == a1
theorem w70 {d:Nat} (hd:1≤d) (k0:Bool) (a0:Ad) (k1:Bool) (a1:Int):Fit (R NN d 70 [.agg (Enc.cs k0 a0),.rp k1 (Enc.cs k1 a1)] []) (some (m70 a0 a1)) PB:=by
  obtain ⟨d,rfl,g⟩:=up hd
  refine AC (t70 NN d _ _) ?_
  unfold b70 m70
  exact Bg (n:=7) rfl rfl (by decide) fun b1=>q_p fr<|Av 0 rfl rfl<|q_p fr<|q_p fr<|Ah (Ab rfl) rfl
def m96 (a0:Ad) (a1:Aj) (a2:Int) (a3_0:Int):Option (Bool):=( bif a0.From == a1.Id then bif a0.Kind == a2 then bif a0.View == a1.View then some (LO.norm (m70 a0 a3_0)) else some (LO.norm false) else some (LO.norm false) else some (LO.norm false)).bind (Ac (fun s2=>some s2) (fun i1 s2=>none) (fun s2=>some s2))
theorem w96 {d:Nat} (hd:2≤d) (k0:Bool) (a0:Ad) (k1:Bool) (a1:Aj) (k2:Bool) (a2:Int) (k3:Bool) (k3_0:Bool) (a3_0:Int):Fit (R NN d 96 [.agg (Enc.cs k0 a0),.rp k1 [.rp k1 (Enc.cs k1 a1)],.rp k2 (Enc.cs k2 a2),.rp k3 [.fn 70 [.rp k3_0 (Enc.cs k3_0 a3_0)]]] []) (m96 a0 a1 a2 a3_0) PB:=by
  obtain ⟨d,rfl,g⟩:=up hd
  refine AC (t96 NN d _ _ _ _) ?_
  unfold b96 m96
  refine Bg (n:=7) rfl rfl (by decide) fun b1=>AD (A:=fun (s:Bool)=>[.bool s]) (B:=fun s=>[bx b1 [iW a0.Kind,iW a0.View,iW a0.From,iW a0.Slot,iW a0.Value,.rsl k0 false (a0.Certs.map (Enc.cs k0)),.rsl k0 false (a0.Refs.map (Enc.cs k0))]]) ?_ ?_ ?_ ?_
  ·exact q_p fr<|Av 0 rfl rfl<|q_p fr<|q_q fr<|q_p fr<|q_p fr<|q_p fr<|q_k (q_p fr<|Av 0 rfl rfl<|q_p fr<|q_p fr<|q_k (q_p fr<|Av 0 rfl rfl<|q_p fr<|q_q fr<|q_p fr<|q_p fr<|q_p fr<|q_k (q_p fr<|B0 0 rfl rfl rfl<|US (y:=m70 a0 a3_0) (E:=(fun (t:Bool)=>AV.bool t)) (fun S=>Ug _ _ _ _) (aF2 (Cd (A3 (l0:=k0) (x:=a0))) (AP (A3 (l0:=k3_0) (x:=a3_0)) (fun _ _ _ h=>Enc.frz k3_0 a3_0 _ _ _ h)) fun l0_ l1_=>w70 (by omega) l0_ a0 l1_ a3_0)<|Aa 0 rr)<|Aa 0 rr)<|Aa 0 rr)<|Aa 0 rr
  ·exact fun s2=>Ah (Ab rfl) rfl
  ·exact fun i1 s2=>Ao
  ·exact fun s2=>Ah (Ab rfl) rfl
def m64 (a0:Aj) (a1:List Ad) (a2:Int) (a3_0:Int):Option (Bool):=(m95 a1 (fun x0_=>m96 x0_ a0 a2 a3_0)).bind fun y1=>some y1
theorem w64 {d:Nat} (hd:5≤d) (k0:Bool) (a0:Aj) (k1:Bool) (a1:List Ad) (a2:Int) (k3_0:Bool) (a3_0:Int):Fit (R NN d 64 [.rp k0 (Enc.cs k0 a0),.rsl k1 false (a1.map (Enc.cs k1)),iW a2,.fn 70 [.rp k3_0 (Enc.cs k3_0 a3_0)]] []) (m64 a0 a1 a2 a3_0) PB:=by
  obtain ⟨d,rfl,g⟩:=up hd
  refine AC (t64 NN d _ _ _ _) ?_
  unfold b64 m64
  exact Bg (n:=1) rfl rfl (by decide) fun b1=>Bg (n:=1) rfl rfl (by decide) fun b2=>Bg (n:=1) rfl rfl (by decide) fun b3=>A4 (aF2 A8 (Eg (Ae (DK 2 rfl (Ae (AP (A3 (l0:=k0) (x:=a0)) (fun _ _ _ h=>Enc.frz k0 a0 _ _ _ h)) As)) (Ae (DK 1 rfl (A3 (l0:=false) (x:=a2))) (Ae (DK 0 rfl (Ae (Eg (Ae (AP (A3 (l0:=k3_0) (x:=a3_0)) (fun _ _ _ h=>Enc.frz k3_0 a3_0 _ _ _ h)) As)) As)) As)))) fun l0_ l1_=>w95 (Dc:=2) (by omega) l0_ a1 (fun l=>.fn 96 [.rp l [.rp l (Enc.cs l a0)],.rp l (Enc.cs l a2),.rp l [.fn 70 [.rp l (Enc.cs l a3_0)]]]) (fun l=>Eg (Ae (F6 (l0:=l) (Ae (AP (A3 (l0:=l) (x:=a0)) (fun _ _ _ h=>Enc.frz _ a0 _ _ _ h)) As) 1 (fun _ _ _ h=>KR h)) (Ae (AP (A3 (l0:=l) (x:=a2)) (fun _ _ _ h=>Enc.frz _ a2 _ _ _ h)) (Ae (F6 (l0:=l) (Ae (Eg (Ae (AP (A3 (l0:=l) (x:=a3_0)) (fun _ _ _ h=>Enc.frz _ a3_0 _ _ _ h)) As)) As) 3 (fun _ _ _ h=>KT h (by simp))) As)))) (fun x0_=>m96 x0_ a0 a2 a3_0) (fun d hd l q0_ x0_ S t ht=>(Uh _ _ _ _).trans (D9 (E:=(fun (t:Bool)=>AV.bool t)) (mg:=m96 x0_ a0 a2 a3_0) (SD (M:=fun a=>Fit (R NN d 96 a []) _ _) (Cd (A3 (l0:=q0_) (x:=x0_))) (F6 (l0:=l) (Ae (AP (A3 (l0:=l) (x:=a0)) (fun _ _ _ h=>Enc.frz _ a0 _ _ _ h)) As) 1 (fun _ _ _ h=>KR h)) (AP (A3 (l0:=l) (x:=a2)) (fun _ _ _ h=>Enc.frz _ a2 _ _ _ h)) (F6 (l0:=l) (Ae (Eg (Ae (AP (A3 (l0:=l) (x:=a3_0)) (fun _ _ _ h=>Enc.frz _ a3_0 _ _ _ h)) As)) As) 3 (fun _ _ _ h=>KT h (by simp))) HP.nil fun u0_ v0_ v1_ v2_=>w96 hd u0_ x0_ v0_ a0 v1_ a2 v2_ v2_ a3_0) ht)) l1_) fun y1 hy1=>Ah (Ab rfl) rfl
def m41 (a0:Aj) (a1:List Ad) (a2:Int) (a3:Int):Option (Bool):=(m64 a0 a1 a2 a3).bind fun y1=>some y1
theorem w41 {d:Nat} (hd:7≤d) (k0:Bool) (a0:Aj) (k1:Bool) (a1:List Ad) (a2:Int) (a3:Int):Fit (R NN d 41 [.rp k0 (Enc.cs k0 a0),.rsl k1 false (a1.map (Enc.cs k1)),iW a2,iW a3] []) (m41 a0 a1 a2 a3) PB:=by
  obtain ⟨d,rfl,g⟩:=up hd
  refine AC (t41 NN d _ _ _ _) ?_
  unfold b41 m41
  exact Bg (n:=1) rfl rfl (by decide) fun b1=>A4 (fun S hS=>C0 (AP (A3 (l0:=k0) (x:=a0)) (fun _ _ _ h=>Enc.frz k0 a0 _ _ _ h)) A8 (Ab rfl) (Eg (Ae (DK 0 rfl (A3 (l0:=false) (x:=a3))) As)) hS fun l0_ l1_ l2_ l3_=>w64 (by omega) l0_ a0 l1_ a1 a2 l3_ a3) fun y1 hy1=>Ah (Ab rfl) rfl
def m20 (a0:Aj) (a1:Int) (a2:List Ad) (a3:Int):Option (Int):=( (m27 a1 a2 a3 a0.Start).bind fun y1=>bif !y1 then some (LO.ret 1) else (Am a2 a3).bind fun x1=>bif x1.View != a0.View then some (LO.ret 1) else some (LO.norm 0)).bind (Ac (fun s2=>(Am a2 a3).bind fun x2=>(m41 a0 a2 2 x2.Slot).bind fun y2=>bif y2 then some 6 else some 0) (fun i1 s2=>none) (fun s2=>some s2))
theorem w20 {d:Nat} (hd:146≤d) (k0:Bool) (a0:Aj) (a1:Int) (k2:Bool) (a2:List Ad) (a3:Int):Fit (R NN d 20 [.rp k0 (Enc.cs k0 a0),iW a1,.rsl k2 false (a2.map (Enc.cs k2)),iW a3] []) (m20 a0 a1 a2 a3) PI:=by
  obtain ⟨d,rfl,g⟩:=up hd
  refine AC (t20 NN d _ _ _ _) ?_
  unfold b20 m20
  refine AD (A:=fun (s:Int)=>[iW s]) (B:=fun s=>[]) ?_ ?_ ?_ ?_
  ·refine q_q fr<|q_p fr<|q_p fr<|A4 (fun S hS=>C0 (Ab rfl) A8 (Ab rfl) (Ab rfl) hS fun l0_ l1_ l2_ l3_=>w27 (by omega) a1 l1_ a2 a3 a0.Start) fun y1 hy1=>q_p fr<|q_j ?_ ?_
   ·first | refine Dh ?_ | skip
    exact Ag 0 rr
   ·exact AL rfl fun x1 hx1=>q_p fr<|q_p fr<|q_q fr<|q_p fr<|q_p fr<|q_p fr<|q_i (Ag 0 rr)<|Aa 0 rr
  ·exact fun s2=>AL rfl fun x2 hx2=>q_p fr<|q_p fr<|A4 (fun S hS=>C0 (AP (A3 (l0:=k0) (x:=a0)) (fun _ _ _ h=>Enc.frz k0 a0 _ _ _ h)) A8 (Ab rfl) (Ab rfl) hS fun l0_ l1_ l2_ l3_=>w41 (by omega) l0_ a0 l1_ a2 2 x2.Slot) fun y2 hy2=>q_i (Ah (Ab rfl) rfl)<|Ah (Ab rfl) rfl
  ·exact fun i1 s2=>Ao
  ·exact fun s2=>Ah (Ab rfl) rfl
def m6 (a0:Int) (a1:List Ad) (a2:Aj) (a3:Int):Option (Int):=(m12 a0 a1 a2).bind fun y1=>bif y1 != 0 then some y1 else (m20 a2 a0 a1 a3).bind fun y2=>some y2
theorem w6 {d:Nat} (hd:147≤d) (a0:Int) (k1:Bool) (a1:List Ad) (k2:Bool) (a2:Aj) (a3:Int):Fit (R NN d 6 [iW a0,.rsl k1 false (a1.map (Enc.cs k1)),.agg (Enc.cs k2 a2),iW a3] []) (m6 a0 a1 a2 a3) PI:=by
  obtain ⟨d,rfl,g⟩:=up hd
  refine AC (t6 NN d _ _ _ _) ?_
  unfold b6 m6
  exact Bg (n:=4) rfl rfl (by decide) fun b1=>B0 0 rfl rfl rfl<|A4 (aF3 (Ab rfl) A8 (Cd (A3 (l0:=false) (x:=a2))) fun l0_ l1_ l2_=>w12 (by omega) a0 l1_ a1 l2_ a2) fun y1 hy1=>q_p fr<|q_i (Ah (Ab rfl) rfl)<|A4 (fun S hS=>C0 (DK 0 rfl (Ae (Ab rfl) (Ae (Ab rfl) (Ae (Ab rfl) (Ae (Ab rfl) As))))) (Ab rfl) A8 (Ab rfl) hS fun l0_ l1_ l2_ l3_=>w20 (by omega) l0_ a2 a0 l2_ a1 a3) fun y2 hy2=>Ah (Ab rfl) rfl
def m7 (a0:List U8):Option (Int×(List Ad)×Aj×Int×Int):=(m17 a0).bind fun y1=>(m18 a0 3).bind fun y2=>(m21 y2 [1,2,1,2,31]).bind fun y3=>(m21 y3.2 [1,2,1,2,0]).bind fun y4=>some (y1.1,y1.2.1,y1.2.2,y3.1,y4.1)
theorem w7 {d:Nat} (hd:8≤d) (k0:Bool) (a0:List U8):Fit (R NN d 7 [.rsl k0 false (a0.map (Enc.cs k0))] []) (m7 a0) (P0 (fun (t:Int×(List Ad)×Aj×Int×Int)=>AV.tup [iW t.1,.rsl false false (t.2.1.map (Enc.cs false)),.agg (Enc.cs false t.2.2.1),iW t.2.2.2.1,iW t.2.2.2.2])):=by
  obtain ⟨d,rfl,g⟩:=up hd
  refine AC (t7 NN d _) ?_
  unfold b7 m7
  exact Bt rfl fun b1=>A4 (aF1 A8 fun l0_=>w17 (by omega) l0_ a0) fun y1 hy1=>q_q fr<|q_q fr<|q_q fr<|Bt rfl fun b2=>Bj 0 rfl rfl rfl (by decide) rfl<|ID (mg:=m18 a0 3) (fun S=>rfl) (w18 (by omega) _ k0 a0 3) fun y2 hy2 b3=>B0 1 rfl rfl rfl<|q_q (fun _=>K8)<|q_q (fun _=>K8)<|q_s (mg:=m21 y2 [1,2,1,2,31]) (w21 (by omega) _ _ k0 y2 _ _ [1,2,1,2,31]) fun y3 hy3=>G7 1 rfl rfl<|q_s (mg:=m21 y3.2 [1,2,1,2,0]) (w21 (by omega) _ _ k0 y3.2 _ _ [1,2,1,2,0]) fun y4 hy4=>G7 1 rfl rfl<|Bj 2 rfl rfl rfl (by decide) rfl<|IF (fun S hS=>K6 rfl rfl (hS.lda 2 rfl rfl) rfl rfl) (Jk (Ae (Ab rfl) (Ae A8 (Ae (Cd (A3 (l0:=false) (x:=y1.2.2))) (Ae (Ab rfl) (Ae (Ab rfl) As)))))) rfl
def m44 (a0:Aj):Bool:=bif a0.View == 0 then true else a0.Start != (-1)
theorem w44 {d:Nat} (hd:1≤d) (k0:Bool) (a0:Aj):Fit (R NN d 44 [.rp k0 (Enc.cs k0 a0)] []) (some (m44 a0)) PB:=by
  obtain ⟨d,rfl,g⟩:=up hd
  refine AC (t44 NN d _) ?_
  unfold b44 m44
  exact q_q fr<|q_p fr<|q_p fr<|q_p fr<|UU (fun h1=>Ah (Ab rfl) rfl) fun h1=>q_q fr<|q_p fr<|q_p fr<|q_p fr<|Ah (Ab rfl) rfl
def m22 (a0:Aj) (a1:Int) (a2:List Ad) (a3:Int) (a4:Int):Option (Int):=( bif !(m42 a3) then some (LO.ret 3) else bif !(m43 a4) then some (LO.ret 3) else bif !(m44 a0) then some (LO.ret 8) else (m30 a1 a2 (⟨a3,a0.View,a4⟩:Ar)).bind fun y1=>bif !y1 then some (LO.ret 10) else (m41 a0 a2 3 a3).bind fun y2=>bif y2 then some (LO.ret 6) else some (LO.norm 0)).bind (Ac (fun s2=>some 0) (fun i1 s2=>none) (fun s2=>some s2))
theorem w22 {d:Nat} (hd:140≤d) (k0:Bool) (a0:Aj) (a1:Int) (k2:Bool) (a2:List Ad) (a3:Int) (a4:Int):Fit (R NN d 22 [.rp k0 (Enc.cs k0 a0),iW a1,.rsl k2 false (a2.map (Enc.cs k2)),iW a3,iW a4] []) (m22 a0 a1 a2 a3 a4) PI:=by
  obtain ⟨d,rfl,g⟩:=up hd
  refine AC (t22 NN d _ _ _ _ _) ?_
  unfold b22 m22
  refine AD (A:=fun (s:Int)=>[iW s]) (B:=fun s=>[]) ?_ ?_ ?_ ?_
  ·refine AH (aF1 (Ab rfl) fun l0_=>w42 (by omega) a3)<|q_p fr<|q_j ?_ ?_
   ·first | refine Dh ?_ | skip
    exact Ag 0 rr
   ·exact AH (aF1 (Ab rfl) fun l0_=>w43 (by omega) a4)<|q_p fr<|q_i (Ag 0 rr)<|AH (aF1 (AP (A3 (l0:=k0) (x:=a0)) (fun _ _ _ h=>Enc.frz k0 a0 _ _ _ h)) fun l0_=>w44 (by omega) l0_ a0)<|q_p fr<|q_i (Ag 0 rr)<|q_q fr<|q_p fr<|q_p fr<|q_p (fun _=>Dy rfl)<|A4 (aF3 (Ab rfl) A8 (Cd (Ae (Ab rfl) (Ae (Ab rfl) (Ae (Ab rfl) As)))) fun l0_ l1_ l2_=>w30 (by omega) a1 l1_ a2 l2_ (⟨a3,a0.View,a4⟩:Ar)) fun y1 hy1=>q_p fr<|q_i (Ag 0 rr)<|A4 (fun S hS=>C0 (AP (A3 (l0:=k0) (x:=a0)) (fun _ _ _ h=>Enc.frz k0 a0 _ _ _ h)) A8 (Ab rfl) (Ab rfl) hS fun l0_ l1_ l2_ l3_=>w41 (by omega) l0_ a0 l1_ a2 3 a3) fun y2 hy2=>q_i (Ag 0 rr)<|Aa 0 rr
  ·exact fun s2=>Ah (Ab rfl) rfl
  ·exact fun i1 s2=>Ao
  ·exact fun s2=>Ah (Ab rfl) rfl
def m8 (a0:Int) (a1:List Ad) (a2:Aj) (a3:Int) (a4:Int):Option (Int):=(m12 a0 a1 a2).bind fun y1=>bif y1 != 0 then some y1 else (m22 a2 a0 a1 a3 a4).bind fun y2=>some y2
theorem w8 {d:Nat} (hd:147≤d) (a0:Int) (k1:Bool) (a1:List Ad) (k2:Bool) (a2:Aj) (a3:Int) (a4:Int):Fit (R NN d 8 [iW a0,.rsl k1 false (a1.map (Enc.cs k1)),.agg (Enc.cs k2 a2),iW a3,iW a4] []) (m8 a0 a1 a2 a3 a4) PI:=by
  obtain ⟨d,rfl,g⟩:=up hd
  refine AC (t8 NN d _ _ _ _ _) ?_
  unfold b8 m8
  exact Bg (n:=4) rfl rfl (by decide) fun b1=>B0 0 rfl rfl rfl<|A4 (aF3 (Ab rfl) A8 (Cd (A3 (l0:=false) (x:=a2))) fun l0_ l1_ l2_=>w12 (by omega) a0 l1_ a1 l2_ a2) fun y1 hy1=>q_p fr<|q_i (Ah (Ab rfl) rfl)<|A4 (fun S hS=>Et (DK 0 rfl (Ae (Ab rfl) (Ae (Ab rfl) (Ae (Ab rfl) (Ae (Ab rfl) As))))) (Ab rfl) A8 (Ab rfl) (Ab rfl) hS fun l0_ l1_ l2_ l3_ l4_=>w22 (by omega) l0_ a2 a0 l2_ a1 a3 a4) fun y2 hy2=>Ah (Ab rfl) rfl
def m74 (a0:Int) (a1:Int) (a2:Int):Bool:=bif decide (a0 ≥ a1) then decide (a0≤a2) else false
theorem w74 {d:Nat} (hd:1≤d) (a0:Int) (a1:Int) (a2:Int):Fit (R NN d 74 [iW a0,iW a1,iW a2] []) (some (m74 a0 a1 a2)) PB:=by
  obtain ⟨d,rfl,g⟩:=up hd
  refine AC (t74 NN d _ _ _) ?_
  unfold b74 m74
  exact q_p fr<|Q3 (fun h1=>q_p fr<|Ah (Ab rfl) rfl) fun h1=>Ah (Ab rfl) rfl
def m71 (a0:Int):Bool:=(m74 a0 1 2)
theorem w71 {d:Nat} (hd:2≤d) (a0:Int):Fit (R NN d 71 [iW a0] []) (some (m71 a0)) PB:=by
  obtain ⟨d,rfl,g⟩:=up hd
  refine AC (t71 NN d _) ?_
  unfold b71 m71
  exact AH (aF3 (Ab rfl) (Ab rfl) (Ab rfl) fun l0_ l1_ l2_=>w74 (by omega) a0 1 2)<|Ah (Ab rfl) rfl
def m73 (a0:Int) (a1:Int):Bool:=(m74 a1 1 (wi .i64 ((wi .i64 (3 * a0)) + 1)))
theorem w73 {d:Nat} (hd:2≤d) (a0:Int) (a1:Int):Fit (R NN d 73 [iW a0,iW a1] []) (some (m73 a0 a1)) PB:=by
  obtain ⟨d,rfl,g⟩:=up hd
  refine AC (t73 NN d _ _) ?_
  unfold b73 m73
  exact q_p fr<|q_p fr<|AH (aF3 (Ab rfl) (Ab rfl) (Ab rfl) fun l0_ l1_ l2_=>w74 (by omega) a1 1 (wi .i64 ((wi .i64 (3 * a0)) + 1)))<|Ah (Ab rfl) rfl
def Re (a0:Ad):Option (Bool):=( bif (m74 a0.Kind 1 5) then bif (m74 a0.Kind 1 3) then bif a0.Kind == 4 then bif a0.Kind == 5 then some (LO.norm true) else some (LO.norm ((a0.Refs.length:Int) == 0)) else bif (a0.Certs.length:Int) == 0 then bif a0.Kind == 5 then some (LO.norm true) else some (LO.norm ((a0.Refs.length:Int) == 0)) else some (LO.norm false) else bif a0.Slot == 0 then bif a0.Value == 0 then bif a0.Kind == 4 then bif a0.Kind == 5 then some (LO.norm true) else some (LO.norm ((a0.Refs.length:Int) == 0)) else bif (a0.Certs.length:Int) == 0 then bif a0.Kind == 5 then some (LO.norm true) else some (LO.norm ((a0.Refs.length:Int) == 0)) else some (LO.norm false) else some (LO.norm false) else some (LO.norm false) else some (LO.norm false)).bind (Ac (fun s2=>some s2) (fun i1 s2=>none) (fun s2=>some s2))
theorem w116 {d:Nat} (hd:2≤d) (k0:Bool) (a0:Ad):Fit (R NN d 116 [.rp k0 (Enc.cs k0 a0)] []) (Re a0) PB:=by
  obtain ⟨d,rfl,g⟩:=up hd
  refine AC (t116 NN d _) ?_
  unfold XJ Re
  refine q_q fr<|q_p fr<|q_p fr<|AH (aF3 (Ab rfl) (Ab rfl) (Ab rfl) fun l0_ l1_ l2_=>w74 (by omega) a0.Kind 1 3)<|AD (A:=fun (s:Bool)=>[.bool s]) (B:=fun s=>[]) ?_ ?_ ?_ ?_
  ·exact q_q fr<|q_p fr<|q_p fr<|AH (aF3 (Ab rfl) (Ab rfl) (Ab rfl) fun l0_ l1_ l2_=>w74 (by omega) a0.Kind 1 5)<|q_k (q_j (q_q fr<|q_p fr<|q_p fr<|q_p fr<|q_j (q_q fr<|q_p fr<|q_p fr<|q_p fr<|q_j (Aa 0 rr)<|q_q fr<|q_p fr<|q_p fr<|AB<|q_p fr<|Aa 0 rr)<|q_q fr<|q_p fr<|q_p fr<|AB<|q_p fr<|q_k (q_q fr<|q_p fr<|q_p fr<|q_p fr<|q_j (Aa 0 rr)<|q_q fr<|q_p fr<|q_p fr<|AB<|q_p fr<|Aa 0 rr)<|Aa 0 rr)<|q_q fr<|q_p fr<|q_p fr<|q_p fr<|q_k (q_q fr<|q_p fr<|q_p fr<|q_p fr<|q_k (q_q fr<|q_p fr<|q_p fr<|q_p fr<|q_j (q_q fr<|q_p fr<|q_p fr<|q_p fr<|q_j (Aa 0 rr)<|q_q fr<|q_p fr<|q_p fr<|AB<|q_p fr<|Aa 0 rr)<|q_q fr<|q_p fr<|q_p fr<|AB<|q_p fr<|q_k (q_q fr<|q_p fr<|q_p fr<|q_p fr<|q_j (Aa 0 rr)<|q_q fr<|q_p fr<|q_p fr<|AB<|q_p fr<|Aa 0 rr)<|Aa 0 rr)<|Aa 0 rr)<|Aa 0 rr)<|Aa 0 rr
  ·exact fun s2=>Ah (Ab rfl) rfl
  ·exact fun i1 s2=>Ao
  ·exact fun s2=>Ah (Ab rfl) rfl
def EV (a0:Ad) (s1:Int×Int):Option (LO (Int×Int)):=bif decide (s1.2 < (a0.Certs.length:Int)) then (Am a0.Certs s1.2).bind fun x1=>(Am a0.Certs (wi .i64 (s1.2 - 1))).bind fun x2=>bif decide (x1.Slot≤x2.Slot) then some (LO.ret (1,s1.2)) else some (LO.norm (s1.1,wi .i64 (s1.2 + 1))) else some (LO.exit 0 (s1.1,s1.2))
def EU (a0:Ad) (s3:Int×Int):Option (LO (Int×Int)):=bif decide (s3.2 < (a0.Refs.length:Int)) then (Am a0.Refs s3.2).bind fun x3=>(Am a0.Refs (wi .i64 (s3.2 - 1))).bind fun x4=>bif decide (x3≤x4) then some (LO.ret (1,s3.2)) else some (LO.norm (s3.1,wi .i64 (s3.2 + 1))) else some (LO.exit 2 (s3.1,s3.2))
def ET (a0:Ad) (s5:Int×Int):Option (LO (Int×Int)):=bif decide (s5.2 < (a0.Certs.length:Int)) then ( (Am a0.Certs s5.2).bind fun x5=>( bif !(m74 x5.Slot 1 30) then some (LO.norm true) else bif !(m74 x5.View 0 (wi .i64 (a0.View - 1))) then some (LO.norm true) else some (LO.norm (!(m74 x5.Value 0 12)))).bind (Ac (fun s8=>bif s8 then some (LO.ret 3) else some (LO.norm s5.1)) (fun i3 s8=>if i3 = 5 then some (LO.norm s5.1) else some (LO.exit i3 s5.1)) (fun s8=>some (LO.ret s5.1)))).bind (Ac (fun s9=>some (LO.norm (s9,wi .i64 (s5.2 + 1)))) (fun i4 s9=>some (LO.exit i4 (s9,s5.2))) (fun s9=>some (LO.ret (s9,s5.2)))) else some (LO.exit 4 (s5.1,s5.2))
def ES (a0:Ad) (s11:Int×Int):Option (LO (Int×Int)):=bif decide (s11.2 < (a0.Refs.length:Int)) then (Am a0.Refs s11.2).bind fun x6=>bif !(m74 x6 0 239) then some (LO.ret (3,s11.2)) else some (LO.norm (s11.1,wi .i64 (s11.2 + 1))) else some (LO.exit 6 (s11.1,s11.2))
def Rb (a0:Ad):Option (Int):=(Aq (EV a0) NN (0,1)).bind (Ac (fun _=>none) (fun i1 s2=>if i1 = 0 then (Aq (EU a0) NN (s2.1,1)).bind (Ac (fun _=>none) (fun i2 s4=>if i2 = 2 then (Aq (ET a0) NN (s4.1,0)).bind (Ac (fun _=>none) (fun i5 s10=>if i5 = 4 then (Aq (ES a0) NN (s10.1,0)).bind (Ac (fun _=>none) (fun i6 s12=>if i6 = 6 then some 0 else none) (fun s12=>some s12.1)) else none) (fun s10=>some s10.1)) else none) (fun s4=>some s4.1)) else none) (fun s2=>some s2.1))
theorem w117 {d:Nat} (hd:2≤d) (k0:Bool) (a0:Ad):Fit (R NN d 117 [.rp k0 (Enc.cs k0 a0)] []) (Rb a0) PI:=by
  obtain ⟨d,rfl,g⟩:=up hd
  refine AC (t117 NN d _) ?_
  unfold XI Rb
  refine BE (A:=fun (s:Int×Int)=>[iW s.1,iW s.2]) (B:=fun s=>[]) 0 rr ?_ ?_ ?_
  ·intro s1
   unfold Qd EV
   exact q_q fr<|q_p fr<|q_p fr<|AB<|q_p fr<|q_i (q_q fr<|q_p fr<|q_p fr<|AL rfl fun x1 hx1=>q_p fr<|q_p fr<|q_q fr<|q_p fr<|q_p fr<|q_p fr<|AL rfl fun x2 hx2=>q_p fr<|q_p fr<|q_p fr<|q_i (Ag 0 rr)<|q_p fr<|Aa 0 rr)<|Ai 0 rr
  ·intro i1 s2
   refine q_n ?_ ?_
   ·refine BE (A:=fun (s:Int×Int)=>[iW s.1,iW s.2]) (B:=fun s=>[]) 0 rr ?_ ?_ ?_
    ·intro s3
     unfold Qc EU
     exact q_q fr<|q_p fr<|q_p fr<|AB<|q_p fr<|q_i (q_q fr<|q_p fr<|q_p fr<|AL rfl fun x3 hx3=>q_p fr<|q_q fr<|q_p fr<|q_p fr<|q_p fr<|AL rfl fun x4 hx4=>q_p fr<|q_p fr<|q_i (Ag 0 rr)<|q_p fr<|Aa 0 rr)<|Ai 0 rr
    ·intro i2 s4
     refine q_n ?_ ?_
     ·refine BE (A:=fun (s:Int×Int)=>[iW s.1,iW s.2]) (B:=fun s=>[]) 0 rr ?_ ?_ ?_
      ·intro s5
       unfold Qb ET
       refine q_q fr<|q_p fr<|q_p fr<|AB<|q_p fr<|q_i ?_ ?_
       ·refine AD (A:=fun (s:Int)=>[iW s]) (B:=fun s=>[]) ?_ ?_ ?_ ?_
        ·refine q_q fr<|q_p fr<|q_p fr<|AL rfl fun x5 hx5=>q_p fr<|Bt rfl fun b1=>Bj 0 rfl rfl rfl (by decide) rfl<|AD (A:=fun (s:Bool)=>[.bool s]) (B:=fun s=>[bx b1 [iW x5.Slot,iW x5.View,iW x5.Value]]) ?_ ?_ ?_ ?_
         ·exact q_p fr<|Av 0 rfl rfl<|AH (aF3 (Ab rfl) (Ab rfl) (Ab rfl) fun l0_ l1_ l2_=>w74 (by omega) x5.Slot 1 30)<|q_p fr<|q_j (Aa 0 rr)<|q_p fr<|Av 0 rfl rfl<|q_q fr<|q_p fr<|q_p fr<|q_p fr<|AH (aF3 (Ab rfl) (Ab rfl) (Ab rfl) fun l0_ l1_ l2_=>w74 (by omega) x5.View 0 (wi .i64 (a0.View - 1)))<|q_p fr<|q_j (Aa 0 rr)<|q_p fr<|Av 0 rfl rfl<|AH (aF3 (Ab rfl) (Ab rfl) (Ab rfl) fun l0_ l1_ l2_=>w74 (by omega) x5.Value 0 12)<|q_p fr<|Aa 0 rr
         ·exact fun s8=>q_i (Ag 1 rr)<|Aa 1 rr
         ·exact fun i3 s8=>q_n (Aa 1 rr)<|Ai 1 rr
         ·exact fun s8=>Ag 1 rr
        ·exact fun s9=>q_p fr<|Aa 0 rr
        ·exact fun i4 s9=>Ai 0 rr
        ·exact fun s9=>Ag 0 rr
       ·exact Ai 0 rr
      ·intro i5 s10
       refine q_n ?_ ?_
       ·refine BE (A:=fun (s:Int×Int)=>[iW s.1,iW s.2]) (B:=fun s=>[]) 0 rr ?_ ?_ ?_
        ·intro s11
         unfold PZ ES
         exact q_q fr<|q_p fr<|q_p fr<|AB<|q_p fr<|q_i (q_q fr<|q_p fr<|q_p fr<|AL rfl fun x6 hx6=>q_p fr<|AH (aF3 (Ab rfl) (Ab rfl) (Ab rfl) fun l0_ l1_ l2_=>w74 (by omega) x6 0 239)<|q_p fr<|q_i (Ag 0 rr)<|q_p fr<|Aa 0 rr)<|Ai 0 rr
        ·exact fun i6 s12=>q_n (Ah (Ab rfl) rfl)<|Ao
        ·exact fun s12=>Ah (Ab rfl) rfl
       ·exact Ao
      ·exact fun s10=>Ah (Ab rfl) rfl
     ·exact Ao
    ·exact fun s4=>Ah (Ab rfl) rfl
   ·exact Ao
  ·exact fun s2=>Ah (Ab rfl) rfl
def Rk (a0:Int) (a1:Ad):Option (Int):=(Re a1).bind fun y1=>bif !y1 then some 1 else ( ( bif !(m74 a1.View 0 20) then some (LO.norm true) else bif !(m73 a0 a1.From) then some (LO.norm true) else bif decide (a1.Kind≤3) then bif !(m74 a1.Slot 1 30) then some (LO.norm true) else some (LO.norm (!(m74 a1.Value 0 12))) else some (LO.norm false)).bind (Ac (fun s3=>bif s3 then some (LO.ret 3) else some (LO.norm 0)) (fun i1 s3=>some (LO.exit i1 0)) (fun s3=>some (LO.ret 0)))).bind (Ac (fun s4=>( bif decide ((a1.Certs.length:Int) > 30) then some (LO.ret 2) else bif decide ((a1.Refs.length:Int) > (wi .i64 ((wi .i64 (3 * a0)) + 1))) then some (LO.ret 2) else some (LO.norm s4)).bind (Ac (fun s6=>(Rb a1).bind fun y2=>some y2) (fun i3 s6=>none) (fun s6=>some s6))) (fun i2 s4=>none) (fun s4=>some s4))
theorem w101 {d:Nat} (hd:3≤d) (a0:Int) (k1:Bool) (a1:Ad):Fit (R NN d 101 [iW a0,.rp k1 (Enc.cs k1 a1)] []) (Rk a0 a1) PI:=by
  obtain ⟨d,rfl,g⟩:=up hd
  refine AC (t101 NN d _ _) ?_
  unfold XX Rk
  refine A4 (aF1 (AP (A3 (l0:=k1) (x:=a1)) (fun _ _ _ h=>Enc.frz k1 a1 _ _ _ h)) fun l0_=>w116 (by omega) l0_ a1) fun y1 hy1=>q_p fr<|q_i ?_ ?_
  ·exact Ah (Ab rfl) rfl
  ·refine q_q fr<|q_p fr<|q_p fr<|q_p fr<|AD (A:=fun (s:Int)=>[iW s]) (B:=fun s=>[]) ?_ ?_ ?_ ?_
   ·refine AD (A:=fun (s:Bool)=>[.bool s]) (B:=fun s=>[]) ?_ ?_ ?_ ?_
    ·exact q_q fr<|q_p fr<|q_p fr<|AH (aF3 (Ab rfl) (Ab rfl) (Ab rfl) fun l0_ l1_ l2_=>w74 (by omega) a1.View 0 20)<|q_p fr<|q_j (Aa 0 rr)<|q_q fr<|q_p fr<|q_p fr<|AH (aF2 (Ab rfl) (Ab rfl) fun l0_ l1_=>w73 (by omega) a0 a1.From)<|q_p fr<|q_j (Aa 0 rr)<|q_k (q_q fr<|q_p fr<|q_p fr<|AH (aF3 (Ab rfl) (Ab rfl) (Ab rfl) fun l0_ l1_ l2_=>w74 (by omega) a1.Slot 1 30)<|q_p fr<|q_j (Aa 0 rr)<|q_q fr<|q_p fr<|q_p fr<|AH (aF3 (Ab rfl) (Ab rfl) (Ab rfl) fun l0_ l1_ l2_=>w74 (by omega) a1.Value 0 12)<|q_p fr<|Aa 0 rr)<|Aa 0 rr
    ·exact fun s3=>q_i (Ag 0 rr)<|Aa 0 rr
    ·exact fun i1 s3=>Ai 0 rr
    ·exact fun s3=>Ag 0 rr
   ·intro s4
    refine AD (A:=fun (s:Int)=>[iW s]) (B:=fun s=>[]) ?_ ?_ ?_ ?_
    ·refine q_q fr<|q_p fr<|q_p fr<|AB<|q_p fr<|q_j ?_ ?_
     ·first | refine Dh ?_ | skip
      exact Ag 0 rr
     ·exact q_q fr<|q_p fr<|q_p fr<|AB<|q_p fr<|q_p fr<|q_p fr<|q_i (Ag 0 rr)<|Aa 0 rr
    ·exact fun s6=>A4 (aF1 (AP (A3 (l0:=k1) (x:=a1)) (fun _ _ _ h=>Enc.frz k1 a1 _ _ _ h)) fun l0_=>w117 (by omega) l0_ a1) fun y2 hy2=>Ah (Ab rfl) rfl
    ·exact fun i3 s6=>Ao
    ·exact fun s6=>Ah (Ab rfl) rfl
   ·exact fun i2 s4=>Ao
   ·exact fun s4=>Ah (Ab rfl) rfl
def NC (a0:Ad) (a1:Int) (s1:Bool×Int):Option (LO (Bool×Int)):=bif decide (s1.2 < (a0.Refs.length:Int)) then (Am a0.Refs s1.2).bind fun x1=>bif decide (x1 ≥ a1) then some (LO.ret (false,s1.2)) else some (LO.norm (s1.1,wi .i64 (s1.2 + 1))) else some (LO.exit 0 (s1.1,s1.2))
def TU (a0:Ad) (a1:Int):Option (Bool):=(Aq (NC a0 a1) NN (false,0)).bind (Ac (fun _=>none) (fun i1 s2=>if i1 = 0 then some true else none) (fun s2=>some s2.1))
theorem w102 {d:Nat} (hd:1≤d) (k0:Bool) (a0:Ad) (a1:Int):Fit (R NN d 102 [.rp k0 (Enc.cs k0 a0),iW a1] []) (TU a0 a1) PB:=by
  obtain ⟨d,rfl,g⟩:=up hd
  refine AC (t102 NN d _ _) ?_
  unfold XW TU
  refine BE (A:=fun (s:Bool×Int)=>[.bool s.1,iW s.2]) (B:=fun s=>[]) 0 rr ?_ ?_ ?_
  ·intro s1
   unfold Qs NC
   exact q_q fr<|q_p fr<|q_p fr<|AB<|q_p fr<|q_i (q_q fr<|q_p fr<|q_p fr<|AL rfl fun x1 hx1=>q_p fr<|q_p fr<|q_i (Ag 0 rr)<|q_p fr<|Aa 0 rr)<|Ai 0 rr
  ·exact fun i1 s2=>q_n (Ah (Ab rfl) rfl)<|Ao
  ·exact fun s2=>Ah (Ab rfl) rfl
def Hz (a0:Int) (a1:List Ad) (s1:Int×Int):Option (LO (Int×Int)):=bif decide (s1.2 < (a1.length:Int)) then (Am a1 s1.2).bind fun x1=>(Rk a0 x1).bind fun y1=>bif y1 != 0 then some (LO.ret (y1,s1.2)) else (Am a1 s1.2).bind fun x2=>(TU x2 s1.2).bind fun y2=>bif !y2 then some (LO.ret (4,s1.2)) else (Am a1 s1.2).bind fun x3=>(O0 a1 x3).bind fun y3=>bif y3 != s1.2 then some (LO.ret (6,s1.2)) else some (LO.norm (s1.1,wi .i64 (s1.2 + 1))) else some (LO.exit 0 (s1.1,s1.2))
def m72 (a0:Int) (a1:List Ad):Option (Int):=bif decide ((a1.length:Int) > 240) then some 2 else (Aq (Hz a0 a1) NN (0,0)).bind (Ac (fun _=>none) (fun i1 s2=>if i1 = 0 then some 0 else none) (fun s2=>some s2.1))
theorem w72 {d:Nat} (hd:4≤d) (a0:Int) (k1:Bool) (a1:List Ad):Fit (R NN d 72 [iW a0,.rsl k1 false (a1.map (Enc.cs k1))] []) (m72 a0 a1) PI:=by
  obtain ⟨d,rfl,g⟩:=up hd
  refine AC (t72 NN d _ _) ?_
  unfold b72 m72
  refine AB<|q_p fr<|q_i ?_ ?_
  ·exact Ah (Ab rfl) rfl
  ·refine BE (A:=fun (s:Int×Int)=>[iW s.1,iW s.2]) (B:=fun s=>[]) 0 rr ?_ ?_ ?_
   ·intro s1
    unfold UD Hz
    exact AB<|q_p fr<|q_i (AL rfl fun x1 hx1=>A4 (aF2 (Ab rfl) (AP (A3 (l0:=k1) (x:=x1)) (fun _ _ _ h=>Enc.frz k1 x1 _ _ _ h)) fun l0_ l1_=>w101 (by omega) a0 l1_ x1) fun y1 hy1=>q_p fr<|q_i (Ag 0 rr)<|AL rfl fun x2 hx2=>A4 (aF2 (AP (A3 (l0:=k1) (x:=x2)) (fun _ _ _ h=>Enc.frz k1 x2 _ _ _ h)) (Ab rfl) fun l0_ l1_=>w102 (by omega) l0_ x2 s1.2) fun y2 hy2=>q_p fr<|q_i (Ag 0 rr)<|AL rfl fun x3 hx3=>A4 (aF2 A8 (AP (A3 (l0:=k1) (x:=x3)) (fun _ _ _ h=>Enc.frz k1 x3 _ _ _ h)) fun l0_ l1_=>Vy (by omega) l0_ a1 l1_ x3) fun y3 hy3=>q_p fr<|q_i (Ag 0 rr)<|q_p fr<|Aa 0 rr)<|Ai 0 rr
   ·exact fun i1 s2=>q_n (Ah (Ab rfl) rfl)<|Ao
   ·exact fun s2=>Ah (Ab rfl) rfl
def m45 (a0:Int) (a1:List Ad):Option (Int):=bif !(m71 a0) then some 3 else (m72 a0 a1).bind fun y1=>some y1
theorem w45 {d:Nat} (hd:5≤d) (a0:Int) (k1:Bool) (a1:List Ad):Fit (R NN d 45 [iW a0,.rsl k1 false (a1.map (Enc.cs k1))] []) (m45 a0 a1) PI:=by
  obtain ⟨d,rfl,g⟩:=up hd
  refine AC (t45 NN d _ _) ?_
  unfold b45 m45
  exact AH (aF1 (Ab rfl) fun l0_=>w71 (by omega) a0)<|q_p fr<|q_i (Ah (Ab rfl) rfl)<|A4 (aF2 (Ab rfl) A8 fun l0_ l1_=>w72 (by omega) a0 l1_ a1) fun y1 hy1=>Ah (Ab rfl) rfl
def m32 (a0:Int) (a1:Int):Option (Int):=(G6 a1 (wi .i64 ((wi .i64 (3 * a0)) + 1))).bind fun q1=>some (wi .i64 (1 + q1))
theorem w32 {d:Nat} (hd:1≤d) (a0:Int) (a1:Int):Fit (R NN d 32 [iW a0,iW a1] []) (m32 a0 a1) PI:=by
  obtain ⟨d,rfl,g⟩:=up hd
  refine AC (t32 NN d _ _) ?_
  unfold b32 m32
  exact q_p fr<|q_p fr<|Hu fun q1 hq1=>q_p fr<|Ah (Ab rfl) rfl
def m77 (a0:List Ad) (a1:Int) (a2:Int):Option (Bool):=bif (m74 a1 0 (wi .i64 ((a0.length:Int) - 1))) then (Am a0 a1).bind fun x1=>some (x1.Kind == a2) else some false
theorem w77 {d:Nat} (hd:2≤d) (k0:Bool) (a0:List Ad) (a1:Int) (a2:Int):Fit (R NN d 77 [.rsl k0 false (a0.map (Enc.cs k0)),iW a1,iW a2] []) (m77 a0 a1 a2) PB:=by
  obtain ⟨d,rfl,g⟩:=up hd
  refine AC (t77 NN d _ _ _) ?_
  unfold b77 m77
  exact AB<|q_p fr<|AH (aF3 (Ab rfl) (Ab rfl) (Ab rfl) fun l0_ l1_ l2_=>w74 (by omega) a1 0 (wi .i64 ((a0.length:Int) - 1)))<|q_k (AL rfl fun x1 hx1=>q_p fr<|q_p fr<|q_p fr<|Ah (Ab rfl) rfl)<|Ah (Ab rfl) rfl
def m79 (a0:Int):Int:=wi .i64 ((wi .i64 (2 * a0)) + 1)
theorem w79 {d:Nat} (hd:1≤d) (a0:Int):Fit (R NN d 79 [iW a0] []) (some (m79 a0)) PI:=by
  obtain ⟨d,rfl,g⟩:=up hd
  refine AC (t79 NN d _) ?_
  unfold b79 m79
  exact q_p fr<|q_p fr<|Ah (Ab rfl) rfl
def IN (a0:Int) (a1:List Ad) (a2:Int) (a3:Ar) (s1:Int×(List Int)):Option (LO (Int×(List Int))):=bif decide (s1.1≤(wi .i64 ((wi .i64 (3 * a0)) + 1))) then ( (O0 a1 (⟨a2,a3.View,s1.1,a3.Slot,a3.Value,[],[]⟩:Ad)).bind fun y1=>bif decide (y1 ≥ 0) then (BV 8 s1.2 [s1.1]).bind fun z1=>some (LO.norm z1) else some (LO.norm s1.2)).bind (Ac (fun s3=>some (LO.norm (wi .i64 (s1.1 + 1),s3))) (fun i1 s3=>some (LO.exit i1 (s1.1,s3))) (fun s3=>some (LO.ret (s1.1,s3)))) else some (LO.exit 0 (s1.1,s1.2))
def m78 (a0:Int) (a1:List Ad) (a2:Int) (a3:Ar):Option ((List Int)):=(Aq (IN a0 a1 a2 a3) NN (1,[])).bind (Ac (fun _=>none) (fun i2 s4=>if i2 = 0 then some s4.2 else none) (fun s4=>some []))
theorem w78 {d:Nat} (hd:3≤d) (a0:Int) (k1:Bool) (a1:List Ad) (a2:Int) (k3:Bool) (a3:Ar):Fit (R NN d 78 [iW a0,.rsl k1 false (a1.map (Enc.cs k1)),iW a2,.agg (Enc.cs k3 a3)] []) (m78 a0 a1 a2 a3) (P0 (fun (t:List Int)=>AV.rsl false false (t.map (Enc.cs false)))):=by
  obtain ⟨d,rfl,g⟩:=up hd
  refine AC (t78 NN d _ _ _ _) ?_
  unfold b78 m78
  refine Bg (n:=3) rfl rfl (by decide) fun b1=>q_q (fun _=>EM)<|D5 (α:=Int) false<|BI (I:=(fun (s:Int×(List Int)) l L=>∃ (v1:AV),l = [v1,iW s.1]∧L = [sl false v1 (s.2:List Int),bx b1 [iW a3.Slot,iW a3.View,iW a3.Value]])) 0 ⟨(.rsl false true []),rfl,rfl⟩ ?_ ?_ ?_
  ·rintro s1 _ _ ⟨v1,rfl,rfl⟩
   unfold UB IN
   refine q_p fr<|q_p fr<|q_p fr<|q_i ?_ ?_
   ·refine C9 (I:=(fun (s:(List Int)) l L=>∃ (v2:AV),l = [v2]∧L = [sl false v2 (s:List Int),bx b1 [iW a3.Slot,iW a3.View,iW a3.Value]])) ?_ ?_ ?_ ?_
    ·exact q_p fr<|Av 1 rfl rfl<|q_p fr<|Av 1 rfl rfl<|q_p fr<|Av 1 rfl rfl<|q_p (fun _=>FA rfl)<|Bt rfl fun b2=>Bj 0 rfl rfl rfl (by decide) rfl<|A4 (aF2 A8 (DK 0 rfl (Ae (Ab rfl) (Ae (Ab rfl) (Ae (Ab rfl) (Ae (Ab rfl) (Ae (Ab rfl) (Ae (A8 (α:=Ar) (l0:=false) (fl:=true) (xs:=[])) (Ae (A8 (α:=Int) (l0:=false) (fl:=true) (xs:=[])) As)))))))) fun l0_ l1_=>Vy (by omega) l0_ a1 l1_ (⟨a2,a3.View,s1.1,a3.Slot,a3.Value,[],[]⟩:Ad)) fun y1 hy1=>q_p fr<|q_i (q_q (fun _=>DU)<|Ek (ys:=[s1.1]) 1 rfl rfl (fun _ _=>rfl) fun v2 z1 hz1=>Aa 1 ⟨v2,rfl,rfl⟩)<|Aa 1 ⟨v1,rfl,rfl⟩
    ·rintro s3 _ _ ⟨v3,rfl,rfl⟩
     exact q_p fr<|Aa 0 ⟨v3,rfl,rfl⟩
    ·rintro i1 s3 _ _ ⟨v4,rfl,rfl⟩
     exact Ai 0 ⟨v4,rfl,rfl⟩
    ·rintro s3 _ _ ⟨v5,rfl,rfl⟩
     exact Ag 0 ⟨v5,rfl,rfl⟩
   ·exact Ai 0 ⟨v1,rfl,rfl⟩
  ·rintro i2 s4 _ _ ⟨v6,rfl,rfl⟩
   exact q_n (Ah (Jl 0 rfl) rfl)<|Ao
  ·rintro s4 _ _ ⟨v7,rfl,rfl⟩
   exact Ah (A8 (α:=Int) (l0:=false) (fl:=true) (xs:=[])) rfl
def m51 (a0:Int) (a1:List Ad) (a2:Int) (a3:Ar):Option (Bool):=(m78 a0 a1 a2 a3).bind fun y1=>some (decide ((y1.length:Int) ≥ (m79 a0)))
theorem w51 {d:Nat} (hd:4≤d) (a0:Int) (k1:Bool) (a1:List Ad) (a2:Int) (k3:Bool) (a3:Ar):Fit (R NN d 51 [iW a0,.rsl k1 false (a1.map (Enc.cs k1)),iW a2,.agg (Enc.cs k3 a3)] []) (m51 a0 a1 a2 a3) PB:=by
  obtain ⟨d,rfl,g⟩:=up hd
  refine AC (t51 NN d _ _ _ _) ?_
  unfold b51 m51
  exact Bg (n:=3) rfl rfl (by decide) fun b1=>B0 0 rfl rfl rfl<|A4 (fun S hS=>C0 (Ab rfl) A8 (Ab rfl) (Cd (A3 (l0:=false) (x:=a3))) hS fun l0_ l1_ l2_ l3_=>w78 (by omega) a0 l1_ a1 a2 l3_ a3) fun y1 hy1=>AB<|AH (aF1 (Ab rfl) fun l0_=>w79 (by omega) a0)<|q_p fr<|Ah (Ab rfl) rfl
def FQ (a0:Int) (a1:List Ad) (a2:Int) (s3:Bool×Int):Option (LO (Bool×Int)):=(Am a1 a2).bind fun x2=>bif decide (s3.2 < (x2.Certs.length:Int)) then (Am a1 a2).bind fun x3=>(Am x3.Certs s3.2).bind fun x4=>(m51 a0 a1 2 x4).bind fun y2=>bif !y2 then some (LO.ret (false,s3.2)) else some (LO.norm (s3.1,wi .i64 (s3.2 + 1))) else some (LO.exit 0 (s3.1,s3.2))
def QZ (a0:Int) (a1:List Ad) (a2:Int):Option (Bool):=( (m77 a1 a2 4).bind fun y1=>bif !y1 then some (LO.ret false) else (Am a1 a2).bind fun x1=>bif decide (x1.View < 1) then some (LO.ret false) else some (LO.norm false)).bind (Ac (fun s2=>(Aq (FQ a0 a1 a2) NN (s2,0)).bind (Ac (fun _=>none) (fun i2 s4=>if i2 = 0 then some true else none) (fun s4=>some s4.1))) (fun i1 s2=>none) (fun s2=>some s2))
theorem w119 {d:Nat} (hd:5≤d) (a0:Int) (k1:Bool) (a1:List Ad) (a2:Int):Fit (R NN d 119 [iW a0,.rsl k1 false (a1.map (Enc.cs k1)),iW a2] []) (QZ a0 a1 a2) PB:=by
  obtain ⟨d,rfl,g⟩:=up hd
  refine AC (t119 NN d _ _ _) ?_
  unfold XG QZ
  refine AD (A:=fun (s:Bool)=>[.bool s]) (B:=fun s=>[]) ?_ ?_ ?_ ?_
  ·refine A4 (aF3 A8 (Ab rfl) (Ab rfl) fun l0_ l1_ l2_=>w77 (by omega) l0_ a1 a2 4) fun y1 hy1=>q_p fr<|q_j ?_ ?_
   ·first | refine Dh ?_ | skip
    exact Ag 0 rr
   ·exact AL rfl fun x1 hx1=>q_p fr<|q_p fr<|q_p fr<|q_i (Ag 0 rr)<|Aa 0 rr
  ·intro s2
   refine BE (A:=fun (s:Bool×Int)=>[.bool s.1,iW s.2]) (B:=fun s=>[]) 0 rr ?_ ?_ ?_
   ·intro s3
    unfold PW FQ
    exact AL rfl fun x2 hx2=>q_p fr<|q_p fr<|AB<|q_p fr<|q_i (AL rfl fun x3 hx3=>q_p fr<|q_p fr<|AL rfl fun x4 hx4=>q_p fr<|A4 (fun S hS=>C0 (Ab rfl) A8 (Ab rfl) (Cd (A3 (l0:=k1) (x:=x4))) hS fun l0_ l1_ l2_ l3_=>w51 (by omega) a0 l1_ a1 2 l3_ x4) fun y2 hy2=>q_p fr<|q_i (Ag 0 rr)<|q_p fr<|Aa 0 rr)<|Ai 0 rr
   ·exact fun i2 s4=>q_n (Ah (Ab rfl) rfl)<|Ao
   ·exact fun s4=>Ah (Ab rfl) rfl
  ·exact fun i1 s2=>Ao
  ·exact fun s2=>Ah (Ab rfl) rfl
def FP (a0:List Ad) (a1:List Int) (a2:Int) (s1:Bool×Int):Option (LO (Bool×Int)):=bif decide (s1.2 < (a1.length:Int)) then (Am a1 s1.2).bind fun x1=>(Am a0 x1).bind fun x2=>bif x2.From == a2 then some (LO.ret (true,s1.2)) else some (LO.norm (s1.1,wi .i64 (s1.2 + 1))) else some (LO.exit 0 (s1.1,s1.2))
def QY (a0:List Ad) (a1:List Int) (a2:Int):Option (Bool):=(Aq (FP a0 a1 a2) NN (false,0)).bind (Ac (fun _=>none) (fun i1 s2=>if i1 = 0 then some false else none) (fun s2=>some s2.1))
theorem w120 {d:Nat} (hd:1≤d) (k0:Bool) (a0:List Ad) (k1:Bool) (a1:List Int) (a2:Int):Fit (R NN d 120 [.rsl k0 false (a0.map (Enc.cs k0)),.rsl k1 false (a1.map (Enc.cs k1)),iW a2] []) (QY a0 a1 a2) PB:=by
  obtain ⟨d,rfl,g⟩:=up hd
  refine AC (t120 NN d _ _ _) ?_
  unfold XF QY
  refine BE (A:=fun (s:Bool×Int)=>[.bool s.1,iW s.2]) (B:=fun s=>[]) 0 rr ?_ ?_ ?_
  ·intro s1
   unfold PV FP
   exact AB<|q_p fr<|q_i (AL rfl fun x1 hx1=>q_p fr<|AL rfl fun x2 hx2=>q_p fr<|q_p fr<|q_p fr<|q_i (Ag 0 rr)<|q_p fr<|Aa 0 rr)<|Ai 0 rr
  ·exact fun i1 s2=>q_n (Ah (Ab rfl) rfl)<|Ao
  ·exact fun s2=>Ah (Ab rfl) rfl
def FS (a0:Int) (a1:List Ad) (x1:Ad) (s5:Bool×Int):Option (LO (Bool×Int)):=bif decide (s5.2 < (x1.Refs.length:Int)) then ( ( (Am x1.Refs s5.2).bind fun x2=>(QZ a0 a1 x2).bind fun y3=>bif !y3 then some (LO.norm true) else (Am x1.Refs s5.2).bind fun x3=>(Am a1 x3).bind fun x4=>bif x4.View != x1.View then some (LO.norm true) else (Ib x1.Refs 0 s5.2).bind fun ys1=>(Am x1.Refs s5.2).bind fun x5=>(Am a1 x5).bind fun x6=>(QY a1 ys1 x6.From).bind fun y4=>some (LO.norm y4)).bind (Ac (fun s8=>bif s8 then some (LO.ret false) else some (LO.norm s5.1)) (fun i3 s8=>if i3 = 1 then some (LO.norm s5.1) else some (LO.exit i3 s5.1)) (fun s8=>some (LO.ret s5.1)))).bind (Ac (fun s9=>some (LO.norm (s9,wi .i64 (s5.2 + 1)))) (fun i4 s9=>some (LO.exit i4 (s9,s5.2))) (fun s9=>some (LO.ret (s9,s5.2)))) else some (LO.exit 0 (s5.1,s5.2))
def Rj (a0:Int) (a1:List Ad) (a2:Int):Option (Bool):=(m77 a1 a2 5).bind fun y1=>bif !y1 then some false else (Am a1 a2).bind fun x1=>( ( bif decide (x1.View < 1) then some (LO.norm true) else (m32 a0 x1.View).bind fun y2=>bif x1.From != y2 then some (LO.norm true) else some (LO.norm (decide ((x1.Refs.length:Int) < (m79 a0))))).bind (Ac (fun s3=>bif s3 then some (LO.ret false) else some (LO.norm false)) (fun i1 s3=>some (LO.exit i1 false)) (fun s3=>some (LO.ret false)))).bind (Ac (fun s4=>(Aq (FS a0 a1 x1) NN (s4,0)).bind (Ac (fun _=>none) (fun i5 s10=>if i5 = 0 then some true else none) (fun s10=>some s10.1))) (fun i2 s4=>none) (fun s4=>some s4))
theorem w104 {d:Nat} (hd:6≤d) (a0:Int) (k1:Bool) (a1:List Ad) (a2:Int):Fit (R NN d 104 [iW a0,.rsl k1 false (a1.map (Enc.cs k1)),iW a2] []) (Rj a0 a1 a2) PB:=by
  obtain ⟨d,rfl,g⟩:=up hd
  refine AC (t104 NN d _ _ _) ?_
  unfold XU Rj
  refine A4 (aF3 A8 (Ab rfl) (Ab rfl) fun l0_ l1_ l2_=>w77 (by omega) l0_ a1 a2 5) fun y1 hy1=>q_p fr<|q_i ?_ ?_
  ·exact Ah (Ab rfl) rfl
  ·refine AL rfl fun x1 hx1=>AD (A:=fun (s:Bool)=>[.bool s]) (B:=fun s=>[]) ?_ ?_ ?_ ?_
   ·refine AD (A:=fun (s:Bool)=>[.bool s]) (B:=fun s=>[]) ?_ ?_ ?_ ?_
    ·exact q_q fr<|q_p fr<|q_p fr<|q_p fr<|q_j (Aa 0 rr)<|q_q fr<|q_p fr<|q_p fr<|q_q fr<|q_p fr<|q_p fr<|A4 (aF2 (Ab rfl) (Ab rfl) fun l0_ l1_=>w32 (by omega) a0 x1.View) fun y2 hy2=>q_p fr<|q_j (Aa 0 rr)<|q_q fr<|q_p fr<|q_p fr<|AB<|AH (aF1 (Ab rfl) fun l0_=>w79 (by omega) a0)<|q_p fr<|Aa 0 rr
    ·exact fun s3=>q_i (Ag 0 rr)<|Aa 0 rr
    ·exact fun i1 s3=>Ai 0 rr
    ·exact fun s3=>Ag 0 rr
   ·intro s4
    refine BE (A:=fun (s:Bool×Int)=>[.bool s.1,iW s.2]) (B:=fun s=>[]) 0 rr ?_ ?_ ?_
    ·intro s5
     unfold Qq FS
     refine q_q fr<|q_p fr<|q_p fr<|AB<|q_p fr<|q_i ?_ ?_
     ·refine AD (A:=fun (s:Bool)=>[.bool s]) (B:=fun s=>[]) ?_ ?_ ?_ ?_
      ·refine AD (A:=fun (s:Bool)=>[.bool s]) (B:=fun s=>[]) ?_ ?_ ?_ ?_
       ·exact q_q fr<|q_p fr<|q_p fr<|AL rfl fun x2 hx2=>q_p fr<|A4 (aF3 (Ab rfl) A8 (Ab rfl) fun l0_ l1_ l2_=>w119 (by omega) a0 l1_ a1 x2) fun y3 hy3=>q_p fr<|q_j (Aa 0 rr)<|q_q fr<|q_p fr<|q_p fr<|AL rfl fun x3 hx3=>q_p fr<|AL rfl fun x4 hx4=>q_p fr<|q_p fr<|q_q fr<|q_p fr<|q_p fr<|q_p fr<|q_j (Aa 0 rr)<|q_q fr<|q_p fr<|q_p fr<|UT rfl (.inr ⟨rfl,rfl⟩) (.inl rfl) fun fl1 ys1 hys1=>q_q fr<|q_p fr<|q_p fr<|AL rfl fun x5 hx5=>q_p fr<|AL rfl fun x6 hx6=>q_p fr<|q_p fr<|A4 (aF3 A8 A8 (Ab rfl) fun l0_ l1_ l2_=>w120 (by omega) l0_ a1 l1_ ys1 x6.From) fun y4 hy4=>Aa 0 rr
       ·exact fun s8=>q_i (Ag 0 rr)<|Aa 0 rr
       ·exact fun i3 s8=>q_n (Aa 0 rr)<|Ai 0 rr
       ·exact fun s8=>Ag 0 rr
      ·exact fun s9=>q_p fr<|Aa 0 rr
      ·exact fun i4 s9=>Ai 0 rr
      ·exact fun s9=>Ag 0 rr
     ·exact Ai 0 rr
    ·exact fun i5 s10=>q_n (Ah (Ab rfl) rfl)<|Ao
    ·exact fun s10=>Ah (Ab rfl) rfl
   ·exact fun i2 s4=>Ao
   ·exact fun s4=>Ah (Ab rfl) rfl
def m75 (a0:Int) (a1:List Ad) (a2:Int) (a3:Int):Option (Bool):=bif a2 == 0 then some (a3 == (-1)) else (Rj a0 a1 a3).bind fun y1=>bif y1 then (Am a1 a3).bind fun x1=>some (x1.View == a2) else some false
theorem w75 {d:Nat} (hd:7≤d) (a0:Int) (k1:Bool) (a1:List Ad) (a2:Int) (a3:Int):Fit (R NN d 75 [iW a0,.rsl k1 false (a1.map (Enc.cs k1)),iW a2,iW a3] []) (m75 a0 a1 a2 a3) PB:=by
  obtain ⟨d,rfl,g⟩:=up hd
  refine AC (t75 NN d _ _ _ _) ?_
  unfold b75 m75
  exact q_p fr<|q_i (q_p fr<|Ah (Ab rfl) rfl)<|A4 (aF3 (Ab rfl) A8 (Ab rfl) fun l0_ l1_ l2_=>w104 (by omega) a0 l1_ a1 a3) fun y1 hy1=>q_k (AL rfl fun x1 hx1=>q_p fr<|q_p fr<|q_p fr<|Ah (Ab rfl) rfl)<|Ah (Ab rfl) rfl
def GX (a0:Int) (a1:List Ad) (a2:Int) (s1:Int×(List Int)) (s3:Bool×Int):Option (LO (Bool×Int)):=( ( bif decide (s3.2 < (a1.length:Int)) then some (LO.norm (!s3.1)) else some (LO.norm false)).bind (Ac (fun s6=>bif s6 then some (LO.norm s6) else some (LO.exit 2 s6)) (fun i1 s6=>some (LO.exit i1 s6)) (fun s6=>some (LO.ret s6)))).bind (Ac (fun s7=>( (Am a1 s3.2).bind fun x1=>( bif x1.Kind == 3 then bif x1.Slot == a2 then some (LO.norm (x1.Value == s1.1)) else some (LO.norm false) else some (LO.norm false)).bind (Ac (fun s10=>bif s10 then (m51 a0 a1 3 (⟨a2,x1.View,s1.1⟩:Ar)).bind fun y1=>some (LO.norm y1) else some (LO.norm s3.1)) (fun i3 s10=>if i3 = 3 then some (LO.norm s3.1) else some (LO.exit i3 s3.1)) (fun s10=>some (LO.ret s3.1)))).bind (Ac (fun s11=>some (LO.norm (s11,wi .i64 (s3.2 + 1)))) (fun i4 s11=>some (LO.exit i4 (s11,s3.2))) (fun s11=>some (LO.ret (s11,s3.2))))) (fun i2 s7=>some (LO.exit i2 (s3.1,s3.2))) (fun s7=>some (LO.ret (s3.1,s3.2))))
def GV (a0:Int) (a1:List Ad) (a2:Int) (s1:Int×(List Int)):Option (LO (Int×(List Int))):=bif decide (s1.1≤12) then ( (Aq (GX a0 a1 a2 s1) NN (false,0)).bind (Ac (fun _=>none) (fun i5 s12=>if i5 = 2 then bif s12.1 then (BV 8 s1.2 [s1.1]).bind fun z1=>some (LO.norm z1) else some (LO.norm s1.2) else if i5 = 1 then some (LO.norm s1.2) else some (LO.exit i5 s1.2)) (fun s12=>some (LO.ret s1.2)))).bind (Ac (fun s13=>some (LO.norm (wi .i64 (s1.1 + 1),s13))) (fun i6 s13=>some (LO.exit i6 (s1.1,s13))) (fun s13=>some (LO.ret (s1.1,s13)))) else some (LO.exit 0 (s1.1,s1.2))
def Ri (a0:Int) (a1:List Ad) (a2:Int):Option ((List Int)):=(Aq (GV a0 a1 a2) NN (0,[])).bind (Ac (fun _=>none) (fun i7 s14=>if i7 = 0 then some s14.2 else none) (fun s14=>some []))
theorem w105 {d:Nat} (hd:5≤d) (a0:Int) (k1:Bool) (a1:List Ad) (a2:Int):Fit (R NN d 105 [iW a0,.rsl k1 false (a1.map (Enc.cs k1)),iW a2] []) (Ri a0 a1 a2) (P0 (fun (t:List Int)=>AV.rsl false false (t.map (Enc.cs false)))):=by
  obtain ⟨d,rfl,g⟩:=up hd
  refine AC (t105 NN d _ _ _) ?_
  unfold XT Ri
  refine q_q (fun _=>EM)<|D5 (α:=Int) false<|BI (I:=(fun (s:Int×(List Int)) l L=>∃ (v1:AV),l = [v1,iW s.1]∧L = [sl false v1 (s.2:List Int)])) 0 ⟨(.rsl false true []),rfl,rfl⟩ ?_ ?_ ?_
  ·rintro s1 _ _ ⟨v1,rfl,rfl⟩
   unfold Qo GV
   refine q_p fr<|q_i ?_ ?_
   ·refine C9 (I:=(fun (s:(List Int)) l L=>∃ (v2:AV),l = [v2]∧L = [sl false v2 (s:List Int)])) ?_ ?_ ?_ ?_
    ·refine BE (A:=fun (s:Bool×Int)=>[.bool s.1,iW s.2]) (B:=fun s=>[sl false v1 (s1.2:List Int)]) 0 rr ?_ ?_ ?_
     ·intro s3
      unfold Qp GX
      refine AD (A:=fun (s:Bool)=>[.bool s]) (B:=fun s=>[sl false v1 (s1.2:List Int)]) ?_ ?_ ?_ ?_
      ·refine AD (A:=fun (s:Bool)=>[.bool s]) (B:=fun s=>[sl false v1 (s1.2:List Int)]) ?_ ?_ ?_ ?_
       ·exact AB<|q_p fr<|q_k (q_p fr<|Aa 0 rr)<|Aa 0 rr
       ·exact fun s6=>q_i (Aa 0 rr)<|Ai 0 rr
       ·exact fun i1 s6=>Ai 0 rr
       ·exact fun s6=>Ag 0 rr
      ·intro s7
       refine AD (A:=fun (s:Bool)=>[.bool s]) (B:=fun s=>[sl false v1 (s1.2:List Int)]) ?_ ?_ ?_ ?_
       ·refine AL rfl fun x1 hx1=>AD (A:=fun (s:Bool)=>[.bool s]) (B:=fun s=>[sl false v1 (s1.2:List Int)]) ?_ ?_ ?_ ?_
        ·exact q_q fr<|q_p fr<|q_p fr<|q_p fr<|q_k (q_q fr<|q_p fr<|q_p fr<|q_p fr<|q_k (q_q fr<|q_p fr<|q_p fr<|q_p fr<|Aa 0 rr)<|Aa 0 rr)<|Aa 0 rr
        ·exact fun s10=>q_i (q_q fr<|q_p fr<|q_p fr<|q_p (fun _=>Dy rfl)<|A4 (fun S hS=>C0 (Ab rfl) A8 (Ab rfl) (Cd (Ae (Ab rfl) (Ae (Ab rfl) (Ae (Ab rfl) As)))) hS fun l0_ l1_ l2_ l3_=>w51 (by omega) a0 l1_ a1 3 l3_ (⟨a2,x1.View,s1.1⟩:Ar)) fun y1 hy1=>Aa 0 rr)<|Aa 0 rr
        ·exact fun i3 s10=>q_n (Aa 0 rr)<|Ai 0 rr
        ·exact fun s10=>Ag 0 rr
       ·exact fun s11=>q_p fr<|Aa 0 rr
       ·exact fun i4 s11=>Ai 0 rr
       ·exact fun s11=>Ag 0 rr
      ·exact fun i2 s7=>Ai 0 rr
      ·exact fun s7=>Ag 0 rr
     ·exact fun i5 s12=>q_n (q_i (q_q (fun _=>DU)<|Ek (ys:=[s1.1]) 0 rfl rfl (fun _ _=>rfl) fun v2 z1 hz1=>Aa 0 ⟨v2,rfl,rfl⟩)<|Aa 0 ⟨v1,rfl,rfl⟩)<|q_n (Aa 0 ⟨v1,rfl,rfl⟩)<|Ai 0 ⟨v1,rfl,rfl⟩
     ·exact fun s12=>Ag 0 ⟨v1,rfl,rfl⟩
    ·rintro s13 _ _ ⟨v3,rfl,rfl⟩
     exact q_p fr<|Aa 0 ⟨v3,rfl,rfl⟩
    ·rintro i6 s13 _ _ ⟨v4,rfl,rfl⟩
     exact Ai 0 ⟨v4,rfl,rfl⟩
    ·rintro s13 _ _ ⟨v5,rfl,rfl⟩
     exact Ag 0 ⟨v5,rfl,rfl⟩
   ·exact Ai 0 ⟨v1,rfl,rfl⟩
  ·rintro i7 s14 _ _ ⟨v6,rfl,rfl⟩
   exact q_n (Ah (Jl 0 rfl) rfl)<|Ao
  ·rintro s14 _ _ ⟨v7,rfl,rfl⟩
   exact Ah (A8 (α:=Int) (l0:=false) (fl:=true) (xs:=[])) rfl
def IO (a0:Int) (a1:List Ad) (s1:Bool×Int×(List Int)):Option (LO (Bool×Int×(List Int))):=bif s1.1 then none else bif decide (s1.2.1≤30) then (Ri a0 a1 s1.2.1).bind fun y1=>bif (y1.length:Int) == 0 then some (LO.ret (true,s1.2.1,s1.2.2)) else (Am y1 0).bind fun x1=>(BV 8 s1.2.2 [x1]).bind fun z1=>some (LO.norm (false,wi .i64 (s1.2.1 + 1),z1)) else some (LO.exit 0 (false,s1.2.1,s1.2.2))
def m76 (a0:Int) (a1:List Ad):Option ((List Int)):=(Aq (IO a0 a1) NN (false,1,[])).bind (Ac (fun _=>none) (fun i1 s2=>if i1 = 0 then some s2.2.2 else none) (fun s2=>some (bif s2.1 then s2.2.2 else [])))
theorem w76 {d:Nat} (hd:6≤d) (a0:Int) (k1:Bool) (a1:List Ad):Fit (R NN d 76 [iW a0,.rsl k1 false (a1.map (Enc.cs k1))] []) (m76 a0 a1) (P0 (fun (t:List Int)=>AV.rsl false false (t.map (Enc.cs false)))):=by
  obtain ⟨d,rfl,g⟩:=up hd
  refine AC (t76 NN d _ _) ?_
  unfold b76 m76
  refine q_q (fun _=>EM)<|D5 (α:=Int) false<|BI (I:=(fun (s:Bool×Int×(List Int)) l L=>∃ (v1:AV),l = [(bif s.1 then v1 else AV.rsl false true []),v1,iW s.2.1]∧L = [sl false v1 (s.2.2:List Int)])) 0 ⟨(.rsl false true []),rfl,rfl⟩ ?_ ?_ ?_
  ·rintro s1 _ _ ⟨v1,rfl,rfl⟩
   unfold UC IO
   refine VN (b:=s1.1) fun hfg_=>?_
   try rw [hfg_]
   exact q_p fr<|q_i (A4 (aF3 (Ab rfl) A8 (Ab rfl) fun l0_ l1_ l2_=>w105 (by omega) a0 l1_ a1 s1.2.1) fun y1 hy1=>AB<|q_p fr<|q_i (Ag 0 ⟨v1,rfl,rfl⟩)<|AL rfl fun x1 hx1=>q_p fr<|q_q (fun _=>DU)<|Ek (ys:=[x1]) 0 rfl rfl (fun _ _=>rfl) fun v2 z1 hz1=>q_p fr<|Aa 0 ⟨v2,rfl,rfl⟩)<|Ai 0 ⟨v1,rfl,rfl⟩
  ·rintro i1 s2 _ _ ⟨v3,rfl,rfl⟩
   exact q_n (Ah (Jl 0 rfl) rfl)<|Ao
  ·rintro s2 _ _ ⟨v4,rfl,rfl⟩
   exact Ah (Wp 0 rfl) rfl
def m46 (a0:Int) (a1:List Ad) (a2:Aj):Option (Int):=( ( bif !(m73 a0 a2.Id) then some (LO.norm true) else bif !(m74 a2.View 0 20) then some (LO.norm true) else some (LO.norm (!(m74 a2.Done 0 30)))).bind (Ac (fun s3=>bif s3 then some (LO.ret 3) else some (LO.norm 0)) (fun i1 s3=>some (LO.exit i1 0)) (fun s3=>some (LO.ret 0)))).bind (Ac (fun s4=>( ( bif a2.Start != (-1) then bif a2.View == 0 then some (LO.norm true) else (m75 a0 a1 a2.View a2.Start).bind fun y1=>some (LO.norm (!y1)) else some (LO.norm false)).bind (Ac (fun s7=>bif s7 then some (LO.ret 1) else some (LO.norm s4)) (fun i3 s7=>some (LO.exit i3 s4)) (fun s7=>some (LO.ret s4)))).bind (Ac (fun s8=>( bif decide (a2.Done > 0) then (m76 a0 a1).bind fun y2=>bif decide (a2.Done > (y2.length:Int)) then some (LO.ret 8) else some (LO.norm s8) else some (LO.norm s8)).bind (Ac (fun s10=>some 0) (fun i5 s10=>none) (fun s10=>some s10))) (fun i4 s8=>none) (fun s8=>some s8))) (fun i2 s4=>none) (fun s4=>some s4))
theorem w46 {d:Nat} (hd:8≤d) (a0:Int) (k1:Bool) (a1:List Ad) (k2:Bool) (a2:Aj):Fit (R NN d 46 [iW a0,.rsl k1 false (a1.map (Enc.cs k1)),.rp k2 (Enc.cs k2 a2)] []) (m46 a0 a1 a2) PI:=by
  obtain ⟨d,rfl,g⟩:=up hd
  refine AC (t46 NN d _ _ _) ?_
  unfold b46 m46
  refine AD (A:=fun (s:Int)=>[iW s]) (B:=fun s=>[]) ?_ ?_ ?_ ?_
  ·refine AD (A:=fun (s:Bool)=>[.bool s]) (B:=fun s=>[]) ?_ ?_ ?_ ?_
   ·exact q_q fr<|q_p fr<|q_p fr<|AH (aF2 (Ab rfl) (Ab rfl) fun l0_ l1_=>w73 (by omega) a0 a2.Id)<|q_p fr<|q_j (Aa 0 rr)<|q_q fr<|q_p fr<|q_p fr<|AH (aF3 (Ab rfl) (Ab rfl) (Ab rfl) fun l0_ l1_ l2_=>w74 (by omega) a2.View 0 20)<|q_p fr<|q_j (Aa 0 rr)<|q_q fr<|q_p fr<|q_p fr<|AH (aF3 (Ab rfl) (Ab rfl) (Ab rfl) fun l0_ l1_ l2_=>w74 (by omega) a2.Done 0 30)<|q_p fr<|Aa 0 rr
   ·exact fun s3=>q_i (Ag 0 rr)<|Aa 0 rr
   ·exact fun i1 s3=>Ai 0 rr
   ·exact fun s3=>Ag 0 rr
  ·intro s4
   refine AD (A:=fun (s:Int)=>[iW s]) (B:=fun s=>[]) ?_ ?_ ?_ ?_
   ·refine AD (A:=fun (s:Bool)=>[.bool s]) (B:=fun s=>[]) ?_ ?_ ?_ ?_
    ·exact q_q fr<|q_p fr<|q_p fr<|q_p fr<|q_k (q_q fr<|q_p fr<|q_p fr<|q_p fr<|q_j (Aa 0 rr)<|q_q fr<|q_p fr<|q_p fr<|q_q fr<|q_p fr<|q_p fr<|A4 (fun S hS=>C0 (Ab rfl) A8 (Ab rfl) (Ab rfl) hS fun l0_ l1_ l2_ l3_=>w75 (by omega) a0 l1_ a1 a2.View a2.Start) fun y1 hy1=>q_p fr<|Aa 0 rr)<|Aa 0 rr
    ·exact fun s7=>q_i (Ag 0 rr)<|Aa 0 rr
    ·exact fun i3 s7=>Ai 0 rr
    ·exact fun s7=>Ag 0 rr
   ·intro s8
    refine AD (A:=fun (s:Int)=>[iW s]) (B:=fun s=>[]) ?_ ?_ ?_ ?_
    ·refine q_q fr<|q_p fr<|q_p fr<|q_p fr<|q_k ?_ ?_
     ·exact q_q fr<|q_p fr<|q_p fr<|A4 (aF2 (Ab rfl) A8 fun l0_ l1_=>w76 (by omega) a0 l1_ a1) fun y2 hy2=>AB<|q_p fr<|q_i (Ag 0 rr)<|Aa 0 rr
     ·first | refine DF ?_ | skip
      exact Aa 0 rr
    ·exact fun s10=>Ah (Ab rfl) rfl
    ·exact fun i5 s10=>Ao
    ·exact fun s10=>Ah (Ab rfl) rfl
   ·exact fun i4 s8=>Ao
   ·exact fun s8=>Ah (Ab rfl) rfl
  ·exact fun i2 s4=>Ao
  ·exact fun s4=>Ah (Ab rfl) rfl
def m23 (a0:Int) (a1:List Ad) (a2:Aj):Option (Int):=(m45 a0 a1).bind fun y1=>bif y1 != 0 then some y1 else (m46 a0 a1 a2).bind fun y2=>some y2
theorem w23 {d:Nat} (hd:9≤d) (a0:Int) (k1:Bool) (a1:List Ad) (k2:Bool) (a2:Aj):Fit (R NN d 23 [iW a0,.rsl k1 false (a1.map (Enc.cs k1)),.rp k2 (Enc.cs k2 a2)] []) (m23 a0 a1 a2) PI:=by
  obtain ⟨d,rfl,g⟩:=up hd
  refine AC (t23 NN d _ _ _) ?_
  unfold b23 m23
  exact A4 (aF2 (Ab rfl) A8 fun l0_ l1_=>w45 (by omega) a0 l1_ a1) fun y1 hy1=>q_p fr<|q_i (Ah (Ab rfl) rfl)<|A4 (aF3 (Ab rfl) A8 (AP (A3 (l0:=k2) (x:=a2)) (fun _ _ _ h=>Enc.frz k2 a2 _ _ _ h)) fun l0_ l1_ l2_=>w46 (by omega) a0 l1_ a1 l2_ a2) fun y2 hy2=>Ah (Ab rfl) rfl
def Hy (a2:Int) (x2:Ad) (s2:Int×Int×Int):Option (LO (Int×Int×Int)):=bif decide (s2.2.2 < (x2.Certs.length:Int)) then ( (Am x2.Certs s2.2.2).bind fun x3=>bif x3.Slot == a2 then (Am x2.Certs s2.2.2).bind fun x4=>bif decide (x4.View > s2.1) then (Am x2.Certs s2.2.2).bind fun x5=>(Am x2.Certs s2.2.2).bind fun x6=>some (LO.norm (x5.View,x6.Value)) else some (LO.norm (s2.1,s2.2.1)) else some (LO.norm (s2.1,s2.2.1))).bind (Ac (fun s4=>some (LO.norm (s4.1,s4.2,wi .i64 (s2.2.2 + 1)))) (fun i1 s4=>some (LO.exit i1 (s4.1,s4.2,s2.2.2))) (fun s4=>some (LO.ret (s4.1,s4.2,s2.2.2)))) else some (LO.exit 2 (s2.1,s2.2.1,s2.2.2))
def IL (a0:List Ad) (a1:List Int) (a2:Int) (s1:Int×Int×Int):Option (LO (Int×Int×Int)):=bif decide (s1.2.2 < (a1.length:Int)) then (Am a1 s1.2.2).bind fun x1=>(Am a0 x1).bind fun x2=>(Aq (Hy a2 x2) NN (s1.1,s1.2.1,0)).bind (Ac (fun _=>none) (fun i2 s5=>if i2 = 2 then some (LO.norm (s5.1,s5.2.1,wi .i64 (s1.2.2 + 1))) else if i2 = 1 then some (LO.norm (s5.1,s5.2.1,wi .i64 (s1.2.2 + 1))) else some (LO.exit i2 (s5.1,s5.2.1,s1.2.2))) (fun s5=>some (LO.ret (s5.1,s5.2.1,s1.2.2)))) else some (LO.exit 0 (s1.1,s1.2.1,s1.2.2))
def m97 (a0:List Ad) (a1:List Int) (a2:Int):Option (Int×Bool):=(Aq (IL a0 a1 a2) NN ((-1),0,0)).bind (Ac (fun _=>none) (fun i3 s6=>if i3 = 0 then some (s6.2.1,decide (s6.1 ≥ 0)) else none) (fun s6=>some (0,false)))
theorem w97 {d:Nat} (hd:1≤d) (k0:Bool) (a0:List Ad) (k1:Bool) (a1:List Int) (a2:Int):Fit (R NN d 97 [.rsl k0 false (a0.map (Enc.cs k0)),.rsl k1 false (a1.map (Enc.cs k1)),iW a2] []) (m97 a0 a1 a2) (P0 (fun (t:Int×Bool)=>AV.tup [iW t.1,.bool t.2])):=by
  obtain ⟨d,rfl,g⟩:=up hd
  refine AC (t97 NN d _ _ _) ?_
  unfold b97 m97
  refine BE (A:=fun (s:Int×Int×Int)=>[iW s.1,iW s.2.1,iW s.2.2]) (B:=fun s=>[]) 0 rr ?_ ?_ ?_
  ·intro s1
   unfold U6 IL
   refine AB<|q_p fr<|q_i ?_ ?_
   ·refine AL rfl fun x1 hx1=>q_p fr<|AL rfl fun x2 hx2=>q_p fr<|q_p fr<|BE (A:=fun (s:Int×Int×Int)=>[iW s.1,iW s.2.1,iW s.2.2]) (B:=fun s=>[]) 0 rr ?_ ?_ ?_
    ·intro s2
     unfold U7 Hy
     refine AB<|q_p fr<|q_i ?_ ?_
     ·refine AD (A:=fun (s:Int×Int)=>[iW s.1,iW s.2]) (B:=fun s=>[]) ?_ ?_ ?_ ?_
      ·refine AL rfl fun x3 hx3=>q_p fr<|q_p fr<|q_p fr<|q_k ?_ ?_
       ·exact AL rfl fun x4 hx4=>q_p fr<|q_p fr<|q_p fr<|q_i (AL rfl fun x5 hx5=>q_p fr<|q_p fr<|AL rfl fun x6 hx6=>q_p fr<|q_p fr<|Aa 0 rr)<|Aa 0 rr
       ·first | refine DF ?_ | skip
        exact Aa 0 rr
      ·exact fun s4=>q_p fr<|Aa 0 rr
      ·exact fun i1 s4=>Ai 0 rr
      ·exact fun s4=>Ag 0 rr
     ·exact Ai 0 rr
    ·exact fun i2 s5=>q_n (q_p fr<|Aa 0 rr)<|q_n (q_p fr<|Aa 0 rr)<|Ai 0 rr
    ·exact fun s5=>Ag 0 rr
   ·exact Ai 0 rr
  ·exact fun i3 s6=>q_n (q_p fr<|Ah (Jk (Ae (Ab rfl) (Ae (Ab rfl) As))) rfl)<|Ao
  ·exact fun s6=>Ah (Jk (Ae (Ab rfl) (Ae (Ab rfl) As))) rfl
def KE (a0:List Ad) (a1:List Int) (s1:Int×Int×(List Int)):Option (LO (Int×Int×(List Int))):=bif decide (s1.2.1≤30) then ( (m97 a0 a1 s1.2.1).bind fun y1=>(BV 8 s1.2.2 [y1.1]).bind fun z1=>bif y1.2 then some (LO.norm ((z1.length:Int),z1)) else some (LO.norm (s1.1,z1))).bind (Ac (fun s3=>some (LO.norm (s3.1,wi .i64 (s1.2.1 + 1),s3.2))) (fun i1 s3=>some (LO.exit i1 (s3.1,s1.2.1,s3.2))) (fun s3=>some (LO.ret (s3.1,s1.2.1,s3.2)))) else some (LO.exit 0 (s1.1,s1.2.1,s1.2.2))
def m67 (a0:List Ad) (a1:List Int):Option ((List Int)):=(Aq (KE a0 a1) NN (0,1,[])).bind (Ac (fun _=>none) (fun i2 s4=>if i2 = 0 then (Ib s4.2.2 0 s4.1).bind fun ys1=>some ys1 else none) (fun s4=>some []))
theorem w67 {d:Nat} (hd:2≤d) (k0:Bool) (a0:List Ad) (k1:Bool) (a1:List Int):Fit (R NN d 67 [.rsl k0 false (a0.map (Enc.cs k0)),.rsl k1 false (a1.map (Enc.cs k1))] []) (m67 a0 a1) (P0 (fun (t:List Int)=>AV.rsl false false (t.map (Enc.cs false)))):=by
  obtain ⟨d,rfl,g⟩:=up hd
  refine AC (t67 NN d _ _) ?_
  unfold b67 m67
  refine q_q (fun _=>EM)<|D5 (α:=Int) false<|BI (I:=(fun (s:Int×Int×(List Int)) l L=>∃ (v1:AV),l = [v1,iW s.1,iW s.2.1]∧L = [sl false v1 (s.2.2:List Int)])) 0 ⟨(.rsl false true []),rfl,rfl⟩ ?_ ?_ ?_
  ·rintro s1 _ _ ⟨v1,rfl,rfl⟩
   unfold UJ KE
   refine q_p fr<|q_i ?_ ?_
   ·refine C9 (I:=(fun (s:Int×(List Int)) l L=>∃ (v2:AV),l = [v2,iW s.1]∧L = [sl false v2 (s.2:List Int)])) ?_ ?_ ?_ ?_
    ·exact A4 (aF3 A8 A8 (Ab rfl) fun l0_ l1_ l2_=>w97 (by omega) l0_ a0 l1_ a1 s1.2.1) fun y1 hy1=>q_q fr<|q_q fr<|q_q (fun _=>DU)<|Ek (ys:=[y1.1]) 0 rfl rfl (fun _ _=>rfl) fun v2 z1 hz1=>q_i (Gk 0 rfl<|Aa 0 ⟨v2,rfl,rfl⟩)<|Aa 0 ⟨v2,rfl,rfl⟩
    ·rintro s3 _ _ ⟨v3,rfl,rfl⟩
     exact q_p fr<|Aa 0 ⟨v3,rfl,rfl⟩
    ·rintro i1 s3 _ _ ⟨v4,rfl,rfl⟩
     exact Ai 0 ⟨v4,rfl,rfl⟩
    ·rintro s3 _ _ ⟨v5,rfl,rfl⟩
     exact Ag 0 ⟨v5,rfl,rfl⟩
   ·exact Ai 0 ⟨v1,rfl,rfl⟩
  ·rintro i2 s4 _ _ ⟨v6,rfl,rfl⟩
   exact q_n (VP rfl (.inr ⟨rfl,rfl⟩) (.inl rfl) fun ys1 hys1=>Ah (Ve 0 rfl) rfl)<|Ao
  ·rintro s4 _ _ ⟨v7,rfl,rfl⟩
   exact Ah (A8 (α:=Int) (l0:=false) (fl:=true) (xs:=[])) rfl
def m66 (a0:List Ad) (a1:Int) (a2:Int) (a3:Int):Option (Bool):=bif decide (a1 < 0) then some (decide (a3 > 0)) else (Am a0 a1).bind fun x1=>(m67 a0 x1.Refs).bind fun y1=>bif decide (a2≤(y1.length:Int)) then (Am y1 (wi .i64 (a2 - 1))).bind fun x2=>some (a3 == x2) else some (decide (a3 > 0))
theorem w66 {d:Nat} (hd:3≤d) (k0:Bool) (a0:List Ad) (a1:Int) (a2:Int) (a3:Int):Fit (R NN d 66 [.rsl k0 false (a0.map (Enc.cs k0)),iW a1,iW a2,iW a3] []) (m66 a0 a1 a2 a3) PB:=by
  obtain ⟨d,rfl,g⟩:=up hd
  refine AC (t66 NN d _ _ _ _) ?_
  unfold b66 m66
  exact q_p fr<|q_i (q_p fr<|Ah (Ab rfl) rfl)<|AL rfl fun x1 hx1=>q_p fr<|q_p fr<|A4 (aF2 A8 A8 fun l0_ l1_=>w67 (by omega) l0_ a0 l1_ x1.Refs) fun y1 hy1=>AB<|q_p fr<|q_i (q_p fr<|AL rfl fun x2 hx2=>q_p fr<|q_p fr<|Ah (Ab rfl) rfl)<|q_p fr<|Ah (Ab rfl) rfl
def m47 (a0:Int) (a1:List Ad) (a2:Int) (a3:Int):Option (Bool):=(m77 a1 a2 1).bind fun y1=>bif !y1 then some false else (Am a1 a2).bind fun x1=>( (m32 a0 x1.View).bind fun y2=>bif x1.From == y2 then (m75 a0 a1 x1.View a3).bind fun y3=>bif y3 then (m66 a1 a3 x1.Slot x1.Value).bind fun y4=>some (LO.norm y4) else some (LO.norm false) else some (LO.norm false)).bind (Ac (fun s2=>some s2) (fun i1 s2=>none) (fun s2=>some s2))
theorem w47 {d:Nat} (hd:8≤d) (a0:Int) (k1:Bool) (a1:List Ad) (a2:Int) (a3:Int):Fit (R NN d 47 [iW a0,.rsl k1 false (a1.map (Enc.cs k1)),iW a2,iW a3] []) (m47 a0 a1 a2 a3) PB:=by
  obtain ⟨d,rfl,g⟩:=up hd
  refine AC (t47 NN d _ _ _ _) ?_
  unfold b47 m47
  refine A4 (aF3 A8 (Ab rfl) (Ab rfl) fun l0_ l1_ l2_=>w77 (by omega) l0_ a1 a2 1) fun y1 hy1=>q_p fr<|q_i ?_ ?_
  ·exact Ah (Ab rfl) rfl
  ·refine AL rfl fun x1 hx1=>AD (A:=fun (s:Bool)=>[.bool s]) (B:=fun s=>[]) ?_ ?_ ?_ ?_
   ·exact q_q fr<|q_p fr<|q_p fr<|q_q fr<|q_p fr<|q_p fr<|A4 (aF2 (Ab rfl) (Ab rfl) fun l0_ l1_=>w32 (by omega) a0 x1.View) fun y2 hy2=>q_p fr<|q_k (q_q fr<|q_p fr<|q_p fr<|A4 (fun S hS=>C0 (Ab rfl) A8 (Ab rfl) (Ab rfl) hS fun l0_ l1_ l2_ l3_=>w75 (by omega) a0 l1_ a1 x1.View a3) fun y3 hy3=>q_k (q_q fr<|q_p fr<|q_p fr<|q_q fr<|q_p fr<|q_p fr<|A4 (fun S hS=>C0 A8 (Ab rfl) (Ab rfl) (Ab rfl) hS fun l0_ l1_ l2_ l3_=>w66 (by omega) l0_ a1 a3 x1.Slot x1.Value) fun y4 hy4=>Aa 0 rr)<|Aa 0 rr)<|Aa 0 rr
   ·exact fun s2=>Ah (Ab rfl) rfl
   ·exact fun i1 s2=>Ao
   ·exact fun s2=>Ah (Ab rfl) rfl
def Ez (a0:List Ad) (a1:Aj) (a2:Int) (a3:Int) (a4:Int) (s1:Bool×Int):Option (LO (Bool×Int)):=bif decide (s1.2 < (a0.length:Int)) then ( (Am a0 s1.2).bind fun x1=>( bif x1.Kind == a2 then bif x1.From == a1.Id then bif x1.View == a1.View then bif a3 == 0 then bif decide (a4 < 0) then some (LO.norm true) else some (LO.norm (x1.Value == a4)) else bif x1.Slot == a3 then bif decide (a4 < 0) then some (LO.norm true) else some (LO.norm (x1.Value == a4)) else some (LO.norm false) else some (LO.norm false) else some (LO.norm false) else some (LO.norm false)).bind (Ac (fun s4=>bif s4 then some (LO.ret true) else some (LO.norm s1.1)) (fun i1 s4=>if i1 = 1 then some (LO.norm s1.1) else some (LO.exit i1 s1.1)) (fun s4=>some (LO.ret s1.1)))).bind (Ac (fun s5=>some (LO.norm (s5,wi .i64 (s1.2 + 1)))) (fun i2 s5=>some (LO.exit i2 (s5,s1.2))) (fun s5=>some (LO.ret (s5,s1.2)))) else some (LO.exit 0 (s1.1,s1.2))
def m48 (a0:List Ad) (a1:Aj) (a2:Int) (a3:Int) (a4:Int):Option (Bool):=(Aq (Ez a0 a1 a2 a3 a4) NN (false,0)).bind (Ac (fun _=>none) (fun i3 s6=>if i3 = 0 then some false else none) (fun s6=>some s6.1))
theorem w48 {d:Nat} (hd:1≤d) (k0:Bool) (a0:List Ad) (k1:Bool) (a1:Aj) (a2:Int) (a3:Int) (a4:Int):Fit (R NN d 48 [.rsl k0 false (a0.map (Enc.cs k0)),.rp k1 (Enc.cs k1 a1),iW a2,iW a3,iW a4] []) (m48 a0 a1 a2 a3 a4) PB:=by
  obtain ⟨d,rfl,g⟩:=up hd
  refine AC (t48 NN d _ _ _ _ _) ?_
  unfold b48 m48
  refine BE (A:=fun (s:Bool×Int)=>[.bool s.1,iW s.2]) (B:=fun s=>[]) 0 rr ?_ ?_ ?_
  ·intro s1
   unfold UO Ez
   refine AB<|q_p fr<|q_i ?_ ?_
   ·refine AD (A:=fun (s:Bool)=>[.bool s]) (B:=fun s=>[]) ?_ ?_ ?_ ?_
    ·refine AL rfl fun x1 hx1=>AD (A:=fun (s:Bool)=>[.bool s]) (B:=fun s=>[]) ?_ ?_ ?_ ?_
     ·exact q_q fr<|q_p fr<|q_p fr<|q_p fr<|q_k (q_q fr<|q_p fr<|q_p fr<|q_q fr<|q_p fr<|q_p fr<|q_p fr<|q_k (q_q fr<|q_p fr<|q_p fr<|q_q fr<|q_p fr<|q_p fr<|q_p fr<|q_k (q_p fr<|q_j (q_p fr<|q_j (Aa 0 rr)<|q_q fr<|q_p fr<|q_p fr<|q_p fr<|Aa 0 rr)<|q_q fr<|q_p fr<|q_p fr<|q_p fr<|q_k (q_p fr<|q_j (Aa 0 rr)<|q_q fr<|q_p fr<|q_p fr<|q_p fr<|Aa 0 rr)<|Aa 0 rr)<|Aa 0 rr)<|Aa 0 rr)<|Aa 0 rr
     ·exact fun s4=>q_i (Ag 0 rr)<|Aa 0 rr
     ·exact fun i1 s4=>q_n (Aa 0 rr)<|Ai 0 rr
     ·exact fun s4=>Ag 0 rr
    ·exact fun s5=>q_p fr<|Aa 0 rr
    ·exact fun i2 s5=>Ai 0 rr
    ·exact fun s5=>Ag 0 rr
   ·exact Ai 0 rr
  ·exact fun i3 s6=>q_n (Ah (Ab rfl) rfl)<|Ao
  ·exact fun s6=>Ah (Ab rfl) rfl
def m24 (a0:Int) (a1:List Ad) (a2:Aj) (a3:Int):Option (Int):=( (m47 a0 a1 a3 a2.Start).bind fun y1=>bif !y1 then some (LO.ret 1) else (Am a1 a3).bind fun x1=>bif x1.View != a2.View then some (LO.ret 1) else some (LO.norm 0)).bind (Ac (fun s2=>(Am a1 a3).bind fun x2=>(m48 a1 a2 2 x2.Slot (-1)).bind fun y2=>bif y2 then some 6 else some 0) (fun i1 s2=>none) (fun s2=>some s2))
theorem w24 {d:Nat} (hd:9≤d) (a0:Int) (k1:Bool) (a1:List Ad) (k2:Bool) (a2:Aj) (a3:Int):Fit (R NN d 24 [iW a0,.rsl k1 false (a1.map (Enc.cs k1)),.rp k2 (Enc.cs k2 a2),iW a3] []) (m24 a0 a1 a2 a3) PI:=by
  obtain ⟨d,rfl,g⟩:=up hd
  refine AC (t24 NN d _ _ _ _) ?_
  unfold b24 m24
  refine AD (A:=fun (s:Int)=>[iW s]) (B:=fun s=>[]) ?_ ?_ ?_ ?_
  ·refine q_q fr<|q_p fr<|q_p fr<|A4 (fun S hS=>C0 (Ab rfl) A8 (Ab rfl) (Ab rfl) hS fun l0_ l1_ l2_ l3_=>w47 (by omega) a0 l1_ a1 a3 a2.Start) fun y1 hy1=>q_p fr<|q_j ?_ ?_
   ·first | refine Dh ?_ | skip
    exact Ag 0 rr
   ·exact AL rfl fun x1 hx1=>q_p fr<|q_p fr<|q_q fr<|q_p fr<|q_p fr<|q_p fr<|q_i (Ag 0 rr)<|Aa 0 rr
  ·exact fun s2=>AL rfl fun x2 hx2=>q_p fr<|q_p fr<|A4 (fun S hS=>Et A8 (AP (A3 (l0:=k2) (x:=a2)) (fun _ _ _ h=>Enc.frz k2 a2 _ _ _ h)) (Ab rfl) (Ab rfl) (Ab rfl) hS fun l0_ l1_ l2_ l3_ l4_=>w48 (by omega) l0_ a1 l1_ a2 2 x2.Slot (-1)) fun y2 hy2=>q_i (Ah (Ab rfl) rfl)<|Ah (Ab rfl) rfl
  ·exact fun i1 s2=>Ao
  ·exact fun s2=>Ah (Ab rfl) rfl
def m9 (a0:Int) (a1:List Ad) (a2:Aj) (a3:Int):Option (Int):=(m23 a0 a1 a2).bind fun y1=>bif y1 != 0 then some y1 else (m24 a0 a1 a2 a3).bind fun y2=>some y2
theorem w9 {d:Nat} (hd:10≤d) (a0:Int) (k1:Bool) (a1:List Ad) (k2:Bool) (a2:Aj) (a3:Int):Fit (R NN d 9 [iW a0,.rsl k1 false (a1.map (Enc.cs k1)),.agg (Enc.cs k2 a2),iW a3] []) (m9 a0 a1 a2 a3) PI:=by
  obtain ⟨d,rfl,g⟩:=up hd
  refine AC (t9 NN d _ _ _ _) ?_
  unfold b9 m9
  exact Bg (n:=4) rfl rfl (by decide) fun b1=>A4 (aF3 (Ab rfl) A8 (DK 0 rfl (Ae (Ab rfl) (Ae (Ab rfl) (Ae (Ab rfl) (Ae (Ab rfl) As))))) fun l0_ l1_ l2_=>w23 (by omega) a0 l1_ a1 l2_ a2) fun y1 hy1=>q_p fr<|q_i (Ah (Ab rfl) rfl)<|A4 (fun S hS=>C0 (Ab rfl) A8 (DK 0 rfl (Ae (Ab rfl) (Ae (Ab rfl) (Ae (Ab rfl) (Ae (Ab rfl) As))))) (Ab rfl) hS fun l0_ l1_ l2_ l3_=>w24 (by omega) a0 l1_ a1 l2_ a2 a3) fun y2 hy2=>Ah (Ab rfl) rfl
def m49 (a0:Int) (a1:Int):Bool:=bif (m74 a0 1 30) then (m74 a1 0 12) else false
theorem w49 {d:Nat} (hd:2≤d) (a0:Int) (a1:Int):Fit (R NN d 49 [iW a0,iW a1] []) (some (m49 a0 a1)) PB:=by
  obtain ⟨d,rfl,g⟩:=up hd
  refine AC (t49 NN d _ _) ?_
  unfold b49 m49
  exact AH (aF3 (Ab rfl) (Ab rfl) (Ab rfl) fun l0_ l1_ l2_=>w74 (by omega) a0 1 30)<|Q3 (fun h1=>AH (aF3 (Ab rfl) (Ab rfl) (Ab rfl) fun l0_ l1_ l2_=>w74 (by omega) a1 0 12)<|Ah (Ab rfl) rfl) fun h1=>Ah (Ab rfl) rfl
def m50 (a0:Aj):Bool:=bif a0.View == 0 then true else a0.Start != (-1)
theorem w50 {d:Nat} (hd:1≤d) (k0:Bool) (a0:Aj):Fit (R NN d 50 [.rp k0 (Enc.cs k0 a0)] []) (some (m50 a0)) PB:=by
  obtain ⟨d,rfl,g⟩:=up hd
  refine AC (t50 NN d _) ?_
  unfold b50 m50
  exact q_q fr<|q_p fr<|q_p fr<|q_p fr<|UU (fun h1=>Ah (Ab rfl) rfl) fun h1=>q_q fr<|q_p fr<|q_p fr<|q_p fr<|Ah (Ab rfl) rfl
def m25 (a0:Int) (a1:List Ad) (a2:Aj) (a3:Int) (a4:Int):Option (Int):=bif !(m49 a3 a4) then some 3 else bif !(m50 a2) then some 8 else (m51 a0 a1 2 (⟨a3,a2.View,a4⟩:Ar)).bind fun y1=>bif !y1 then some 10 else (m48 a1 a2 3 a3 (-1)).bind fun y2=>bif y2 then some 6 else some 0
theorem w25 {d:Nat} (hd:5≤d) (a0:Int) (k1:Bool) (a1:List Ad) (k2:Bool) (a2:Aj) (a3:Int) (a4:Int):Fit (R NN d 25 [iW a0,.rsl k1 false (a1.map (Enc.cs k1)),.rp k2 (Enc.cs k2 a2),iW a3,iW a4] []) (m25 a0 a1 a2 a3 a4) PI:=by
  obtain ⟨d,rfl,g⟩:=up hd
  refine AC (t25 NN d _ _ _ _ _) ?_
  unfold b25 m25
  exact AH (aF2 (Ab rfl) (Ab rfl) fun l0_ l1_=>w49 (by omega) a3 a4)<|q_p fr<|q_i (Ah (Ab rfl) rfl)<|AH (aF1 (AP (A3 (l0:=k2) (x:=a2)) (fun _ _ _ h=>Enc.frz k2 a2 _ _ _ h)) fun l0_=>w50 (by omega) l0_ a2)<|q_p fr<|q_i (Ah (Ab rfl) rfl)<|q_q fr<|q_p fr<|q_p fr<|q_p (fun _=>Dy rfl)<|A4 (fun S hS=>C0 (Ab rfl) A8 (Ab rfl) (Cd (Ae (Ab rfl) (Ae (Ab rfl) (Ae (Ab rfl) As)))) hS fun l0_ l1_ l2_ l3_=>w51 (by omega) a0 l1_ a1 2 l3_ (⟨a3,a2.View,a4⟩:Ar)) fun y1 hy1=>q_p fr<|q_i (Ah (Ab rfl) rfl)<|A4 (fun S hS=>Et A8 (AP (A3 (l0:=k2) (x:=a2)) (fun _ _ _ h=>Enc.frz k2 a2 _ _ _ h)) (Ab rfl) (Ab rfl) (Ab rfl) hS fun l0_ l1_ l2_ l3_ l4_=>w48 (by omega) l0_ a1 l1_ a2 3 a3 (-1)) fun y2 hy2=>q_i (Ah (Ab rfl) rfl)<|Ah (Ab rfl) rfl
def m10 (a0:Int) (a1:List Ad) (a2:Aj) (a3:Int) (a4:Int):Option (Int):=(m23 a0 a1 a2).bind fun y1=>bif y1 != 0 then some y1 else (m25 a0 a1 a2 a3 a4).bind fun y2=>some y2
theorem w10 {d:Nat} (hd:10≤d) (a0:Int) (k1:Bool) (a1:List Ad) (k2:Bool) (a2:Aj) (a3:Int) (a4:Int):Fit (R NN d 10 [iW a0,.rsl k1 false (a1.map (Enc.cs k1)),.agg (Enc.cs k2 a2),iW a3,iW a4] []) (m10 a0 a1 a2 a3 a4) PI:=by
  obtain ⟨d,rfl,g⟩:=up hd
  refine AC (t10 NN d _ _ _ _ _) ?_
  unfold b10 m10
  exact Bg (n:=4) rfl rfl (by decide) fun b1=>A4 (aF3 (Ab rfl) A8 (DK 0 rfl (Ae (Ab rfl) (Ae (Ab rfl) (Ae (Ab rfl) (Ae (Ab rfl) As))))) fun l0_ l1_ l2_=>w23 (by omega) a0 l1_ a1 l2_ a2) fun y1 hy1=>q_p fr<|q_i (Ah (Ab rfl) rfl)<|A4 (fun S hS=>Et (Ab rfl) A8 (DK 0 rfl (Ae (Ab rfl) (Ae (Ab rfl) (Ae (Ab rfl) (Ae (Ab rfl) As))))) (Ab rfl) (Ab rfl) hS fun l0_ l1_ l2_ l3_ l4_=>w25 (by omega) a0 l1_ a1 l2_ a2 a3 a4) fun y2 hy2=>Ah (Ab rfl) rfl
def m11 (a0:Int) (a1:List Ad) (a2:Int) (a3:Int):Option (Bool):=(m26 a0 a1).bind fun y1=>bif y1 == 0 then (m27 a0 a1 a2 a3).bind fun y2=>some y2 else some false
theorem w11 {d:Nat} (hd:146≤d) (a0:Int) (k1:Bool) (a1:List Ad) (a2:Int) (a3:Int):Fit (R NN d 11 [iW a0,.rsl k1 false (a1.map (Enc.cs k1)),iW a2,iW a3] []) (m11 a0 a1 a2 a3) PB:=by
  obtain ⟨d,rfl,g⟩:=up hd
  refine AC (t11 NN d _ _ _ _) ?_
  unfold b11 m11
  exact A4 (aF2 (Ab rfl) A8 fun l0_ l1_=>w26 (by omega) a0 l1_ a1) fun y1 hy1=>q_p fr<|q_k (A4 (fun S hS=>C0 (Ab rfl) A8 (Ab rfl) (Ab rfl) hS fun l0_ l1_ l2_ l3_=>w27 (by omega) a0 l1_ a1 a2 a3) fun y2 hy2=>Ah (Ab rfl) rfl)<|Ah (Ab rfl) rfl
def m13 (a0:Int) (a1:List Ad) (a2:Ar):Option (Bool):=(m26 a0 a1).bind fun y1=>bif y1 == 0 then (m30 a0 a1 a2).bind fun y2=>some y2 else some false
theorem w13 {d:Nat} (hd:140≤d) (a0:Int) (k1:Bool) (a1:List Ad) (k2:Bool) (a2:Ar):Fit (R NN d 13 [iW a0,.rsl k1 false (a1.map (Enc.cs k1)),.agg (Enc.cs k2 a2)] []) (m13 a0 a1 a2) PB:=by
  obtain ⟨d,rfl,g⟩:=up hd
  refine AC (t13 NN d _ _ _) ?_
  unfold b13 m13
  exact Bg (n:=3) rfl rfl (by decide) fun b1=>A4 (aF2 (Ab rfl) A8 fun l0_ l1_=>w26 (by omega) a0 l1_ a1) fun y1 hy1=>q_p fr<|q_k (B0 0 rfl rfl rfl<|A4 (aF3 (Ab rfl) A8 (Cd (A3 (l0:=false) (x:=a2))) fun l0_ l1_ l2_=>w30 (by omega) a0 l1_ a1 l2_ a2) fun y2 hy2=>Ah (Ab rfl) rfl)<|Ah (Ab rfl) rfl
def m33 (a0:Int) (a1:Int):Int:=bif decide (a0 > a1) then a0 else a1
theorem w33 {d:Nat} (hd:1≤d) (a0:Int) (a1:Int):Fit (R NN d 33 [iW a0,iW a1] []) (some (m33 a0 a1)) PI:=by
  obtain ⟨d,rfl,g⟩:=up hd
  refine AC (t33 NN d _ _) ?_
  unfold b33 m33
  exact q_p fr<|WX (fun h1=>Ah (Ab rfl) rfl) fun h1=>Ah (Ab rfl) rfl
def m14 (a0:List U8):Option (Int×(List Ad)×Aj×Int×Int):=(m17 a0).bind fun y1=>(m18 a0 3).bind fun y2=>( (m31 y2 2).bind fun y3=>bif y3.1 then (m32 1 (m33 0 y1.2.2.View)).bind fun y4=>some (LO.norm (y3.2.Code,y3.2.At,y4)) else some (LO.norm (y3.2.Code,y3.2.At,y1.2.2.Id))).bind (Ac (fun s2=>(m21 (⟨s2.1,s2.2.1⟩:Af) [1,2,3,4,0]).bind fun y5=>(m34 y5.2 4).bind fun y6=>some (y1.1,y1.2.1,(⟨s2.2.2,y1.2.2.View,y1.2.2.Start,y1.2.2.Done⟩:Aj),y5.1,y6.1)) (fun i1 s2=>none) (fun s2=>some (0,[],(⟨0,0,0,0⟩:Aj),0,0)))
theorem w14 {d:Nat} (hd:8≤d) (k0:Bool) (a0:List U8):Fit (R NN d 14 [.rsl k0 false (a0.map (Enc.cs k0))] []) (m14 a0) (P0 (fun (t:Int×(List Ad)×Aj×Int×Int)=>AV.tup [iW t.1,.rsl false false (t.2.1.map (Enc.cs false)),.agg (Enc.cs false t.2.2.1),iW t.2.2.2.1,iW t.2.2.2.2])):=by
  obtain ⟨d,rfl,g⟩:=up hd
  refine AC (t14 NN d _) ?_
  unfold b14 m14
  refine Bt rfl fun b1=>A4 (aF1 A8 fun l0_=>w17 (by omega) l0_ a0) fun y1 hy1=>q_q fr<|q_q fr<|q_q fr<|Bt rfl fun b2=>Bj 0 rfl rfl rfl (by decide) rfl<|ID (mg:=m18 a0 3) (fun S=>rfl) (w18 (by omega) _ k0 a0 3) fun y2 hy2 b3=>AD (A:=fun (s:(List U8)×Int×Int)=>[]) (B:=fun s=>[bx b3 [.rsl k0 false (s.1.map (Enc.cs k0)),iW s.2.1],bx b2 [iW s.2.2,iW y1.2.2.View,iW y1.2.2.Start,iW y1.2.2.Done],bx b1 [iW 0,iW 0,iW 0,iW 0]]) ?_ ?_ ?_ ?_
  ·exact q_s (mg:=m31 y2 2) (w31 (by omega) _ _ k0 y2 2) fun y3 hy3=>q_i (q_p fr<|Av 1 rfl rfl<|AH (aF2 (Ab rfl) (Ab rfl) fun l0_ l1_=>w33 (by omega) 0 y1.2.2.View)<|A4 (aF2 (Ab rfl) (Ab rfl) fun l0_ l1_=>w32 (by omega) 1 (m33 0 y1.2.2.View)) fun y4 hy4=>q_p fr<|Bj 1 rfl rfl rfl (by decide) rfl<|Aa 0 rr)<|Aa 0 rr
  ·exact fun s2=>B0 1 rfl rfl rfl<|q_q (fun _=>K8)<|q_s (mg:=m21 (⟨s2.1,s2.2.1⟩:Af) [1,2,3,4,0]) (w21 (by omega) _ _ k0 (⟨s2.1,s2.2.1⟩:Af) _ _ [1,2,3,4,0]) fun y5 hy5=>G7 1 rfl rfl<|q_s (mg:=m34 y5.2 4) (w34 (by omega) _ _ k0 y5.2 4) fun y6 hy6=>G7 1 rfl rfl<|Bj 2 rfl rfl rfl (by decide) rfl<|IF (fun S hS=>K6 rfl rfl (hS.lda 2 rfl rfl) rfl rfl) (Jk (Ae (Ab rfl) (Ae A8 (Ae (Cd (Ae (Ab rfl) (Ae (Ab rfl) (Ae (Ab rfl) (Ae (Ab rfl) As))))) (Ae (Ab rfl) (Ae (Ab rfl) As)))))) rfl
  ·exact fun i1 s2=>Ao
  ·exact fun s2=>IF (fun S hS=>K6 rfl rfl (hS.lda 2 rfl rfl) rfl rfl) (Jk (Ae (Ab rfl) (Ae (A8 (α:=Ad) (l0:=false) (fl:=true) (xs:=[])) (Ae (Cd (Ae (Ab rfl) (Ae (Ab rfl) (Ae (Ab rfl) (Ae (Ab rfl) As))))) (Ae (Ab rfl) (Ae (Ab rfl) As)))))) rfl
def m65 (a0:Ad) (a1:Int):Bool:=a0.Value == a1
theorem w65 {d:Nat} (hd:1≤d) (k0:Bool) (a0:Ad) (k1:Bool) (a1:Int):Fit (R NN d 65 [.agg (Enc.cs k0 a0),.rp k1 (Enc.cs k1 a1)] []) (some (m65 a0 a1)) PB:=by
  obtain ⟨d,rfl,g⟩:=up hd
  refine AC (t65 NN d _ _) ?_
  unfold b65 m65
  exact Bg (n:=7) rfl rfl (by decide) fun b1=>q_p fr<|Av 0 rfl rfl<|q_p fr<|q_p fr<|Ah (Ab rfl) rfl
def Gp (a0:Ad) (a1:Aj) (a2:Int) (a3_0:Int):Option (Bool):=( bif a0.From == a1.Id then bif a0.Kind == a2 then bif a0.View == a1.View then some (LO.norm (m65 a0 a3_0)) else some (LO.norm false) else some (LO.norm false) else some (LO.norm false)).bind (Ac (fun s2=>some s2) (fun i1 s2=>none) (fun s2=>some s2))
theorem Vz {d:Nat} (hd:2≤d) (k0:Bool) (a0:Ad) (k1:Bool) (a1:Aj) (k2:Bool) (a2:Int) (k3:Bool) (k3_0:Bool) (a3_0:Int):Fit (R NN d 96 [.agg (Enc.cs k0 a0),.rp k1 [.rp k1 (Enc.cs k1 a1)],.rp k2 (Enc.cs k2 a2),.rp k3 [.fn 65 [.rp k3_0 (Enc.cs k3_0 a3_0)]]] []) (Gp a0 a1 a2 a3_0) PB:=by
  obtain ⟨d,rfl,g⟩:=up hd
  refine AC (t96 NN d _ _ _ _) ?_
  unfold b96 Gp
  refine Bg (n:=7) rfl rfl (by decide) fun b1=>AD (A:=fun (s:Bool)=>[.bool s]) (B:=fun s=>[bx b1 [iW a0.Kind,iW a0.View,iW a0.From,iW a0.Slot,iW a0.Value,.rsl k0 false (a0.Certs.map (Enc.cs k0)),.rsl k0 false (a0.Refs.map (Enc.cs k0))]]) ?_ ?_ ?_ ?_
  ·exact q_p fr<|Av 0 rfl rfl<|q_p fr<|q_q fr<|q_p fr<|q_p fr<|q_p fr<|q_k (q_p fr<|Av 0 rfl rfl<|q_p fr<|q_p fr<|q_k (q_p fr<|Av 0 rfl rfl<|q_p fr<|q_q fr<|q_p fr<|q_p fr<|q_p fr<|q_k (q_p fr<|B0 0 rfl rfl rfl<|US (y:=m65 a0 a3_0) (E:=(fun (t:Bool)=>AV.bool t)) (fun S=>MY _ _ _ _) (aF2 (Cd (A3 (l0:=k0) (x:=a0))) (AP (A3 (l0:=k3_0) (x:=a3_0)) (fun _ _ _ h=>Enc.frz k3_0 a3_0 _ _ _ h)) fun l0_ l1_=>w65 (by omega) l0_ a0 l1_ a3_0)<|Aa 0 rr)<|Aa 0 rr)<|Aa 0 rr)<|Aa 0 rr
  ·exact fun s2=>Ah (Ab rfl) rfl
  ·exact fun i1 s2=>Ao
  ·exact fun s2=>Ah (Ab rfl) rfl
def IV (a0:Aj) (a1:List Ad) (a2:Int) (a3_0:Int):Option (Bool):=(m95 a1 (fun x0_=>Gp x0_ a0 a2 a3_0)).bind fun y1=>some y1
theorem V1 {d:Nat} (hd:5≤d) (k0:Bool) (a0:Aj) (k1:Bool) (a1:List Ad) (a2:Int) (k3_0:Bool) (a3_0:Int):Fit (R NN d 64 [.rp k0 (Enc.cs k0 a0),.rsl k1 false (a1.map (Enc.cs k1)),iW a2,.fn 65 [.rp k3_0 (Enc.cs k3_0 a3_0)]] []) (IV a0 a1 a2 a3_0) PB:=by
  obtain ⟨d,rfl,g⟩:=up hd
  refine AC (t64 NN d _ _ _ _) ?_
  unfold b64 IV
  exact Bg (n:=1) rfl rfl (by decide) fun b1=>Bg (n:=1) rfl rfl (by decide) fun b2=>Bg (n:=1) rfl rfl (by decide) fun b3=>A4 (aF2 A8 (Eg (Ae (DK 2 rfl (Ae (AP (A3 (l0:=k0) (x:=a0)) (fun _ _ _ h=>Enc.frz k0 a0 _ _ _ h)) As)) (Ae (DK 1 rfl (A3 (l0:=false) (x:=a2))) (Ae (DK 0 rfl (Ae (Eg (Ae (AP (A3 (l0:=k3_0) (x:=a3_0)) (fun _ _ _ h=>Enc.frz k3_0 a3_0 _ _ _ h)) As)) As)) As)))) fun l0_ l1_=>w95 (Dc:=2) (by omega) l0_ a1 (fun l=>.fn 96 [.rp l [.rp l (Enc.cs l a0)],.rp l (Enc.cs l a2),.rp l [.fn 65 [.rp l (Enc.cs l a3_0)]]]) (fun l=>Eg (Ae (F6 (l0:=l) (Ae (AP (A3 (l0:=l) (x:=a0)) (fun _ _ _ h=>Enc.frz _ a0 _ _ _ h)) As) 1 (fun _ _ _ h=>KR h)) (Ae (AP (A3 (l0:=l) (x:=a2)) (fun _ _ _ h=>Enc.frz _ a2 _ _ _ h)) (Ae (F6 (l0:=l) (Ae (Eg (Ae (AP (A3 (l0:=l) (x:=a3_0)) (fun _ _ _ h=>Enc.frz _ a3_0 _ _ _ h)) As)) As) 3 (fun _ _ _ h=>KT h (by simp))) As)))) (fun x0_=>Gp x0_ a0 a2 a3_0) (fun d hd l q0_ x0_ S t ht=>(MX _ _ _ _).trans (D9 (E:=(fun (t:Bool)=>AV.bool t)) (mg:=Gp x0_ a0 a2 a3_0) (SD (M:=fun a=>Fit (R NN d 96 a []) _ _) (Cd (A3 (l0:=q0_) (x:=x0_))) (F6 (l0:=l) (Ae (AP (A3 (l0:=l) (x:=a0)) (fun _ _ _ h=>Enc.frz _ a0 _ _ _ h)) As) 1 (fun _ _ _ h=>KR h)) (AP (A3 (l0:=l) (x:=a2)) (fun _ _ _ h=>Enc.frz _ a2 _ _ _ h)) (F6 (l0:=l) (Ae (Eg (Ae (AP (A3 (l0:=l) (x:=a3_0)) (fun _ _ _ h=>Enc.frz _ a3_0 _ _ _ h)) As)) As) 3 (fun _ _ _ h=>KT h (by simp))) HP.nil fun u0_ v0_ v1_ v2_=>Vz hd u0_ x0_ v0_ a0 v1_ a2 v2_ v2_ a3_0) ht)) l1_) fun y1 hy1=>Ah (Ab rfl) rfl
def m35 (a0:Aj) (a1:Int) (a2:List Ad) (a3:Int) (a4:Int):Option (Int):=( bif !(m42 a3) then some (LO.ret 3) else bif !(m43 a4) then some (LO.ret 3) else bif !(m44 a0) then some (LO.ret 8) else (m57 a1 a0.View).bind fun y1=>bif a0.Id != y1 then some (LO.ret 8) else (m41 a0 a2 1 a3).bind fun y2=>bif y2 then some (LO.ret 6) else bif decide (a3 > 1) then (m41 a0 a2 1 (wi .i64 (a3 - 1))).bind fun y3=>bif !y3 then some (LO.ret 4) else some (LO.norm 0) else some (LO.norm 0)).bind (Ac (fun s2=>( bif a0.Start != (-1) then (Am a2 a0.Start).bind fun x1=>(m59 a2 x1.Refs).bind fun y4=>some (LO.norm y4) else some (LO.norm [])).bind (Ac (fun s4=>bif decide (a3≤(s4.length:Int)) then (Am s4 (wi .i64 (a3 - 1))).bind fun x2=>bif a4 != x2 then some 1 else some 0 else ( bif a4 == 0 then some (LO.ret 1) else (IV a0 a2 1 a4).bind fun y5=>bif y5 then some (LO.ret 1) else some (LO.norm s2)).bind (Ac (fun s6=>some 0) (fun i3 s6=>none) (fun s6=>some s6))) (fun i2 s4=>none) (fun s4=>some s2))) (fun i1 s2=>none) (fun s2=>some s2))
theorem w35 {d:Nat} (hd:8≤d) (k0:Bool) (a0:Aj) (a1:Int) (k2:Bool) (a2:List Ad) (a3:Int) (a4:Int):Fit (R NN d 35 [.rp k0 (Enc.cs k0 a0),iW a1,.rsl k2 false (a2.map (Enc.cs k2)),iW a3,iW a4] []) (m35 a0 a1 a2 a3 a4) PI:=by
  obtain ⟨d,rfl,g⟩:=up hd
  refine AC (t35 NN d _ _ _ _ _) ?_
  unfold b35 m35
  refine Bg (n:=1) rfl rfl (by decide) fun b1=>AD (A:=fun (s:Int)=>[iW s]) (B:=fun s=>[bx b1 [iW a4]]) ?_ ?_ ?_ ?_
  ·refine AH (aF1 (Ab rfl) fun l0_=>w42 (by omega) a3)<|q_p fr<|q_j ?_ ?_
   ·first | refine Dh ?_ | skip
    exact Ag 0 rr
   ·refine Av 0 rfl rfl<|AH (aF1 (Ab rfl) fun l0_=>w43 (by omega) a4)<|q_p fr<|q_i ?_ ?_
    ·exact Ag 0 rr
    ·refine AH (aF1 (AP (A3 (l0:=k0) (x:=a0)) (fun _ _ _ h=>Enc.frz k0 a0 _ _ _ h)) fun l0_=>w44 (by omega) l0_ a0)<|q_p fr<|q_j ?_ ?_
     ·first | refine Dh ?_ | skip
      exact Ag 0 rr
     ·refine q_q fr<|q_p fr<|q_p fr<|q_q fr<|q_p fr<|q_p fr<|A4 (aF2 (Ab rfl) (Ab rfl) fun l0_ l1_=>w57 (by omega) a1 a0.View) fun y1 hy1=>q_p fr<|q_i ?_ ?_
      ·exact Ag 0 rr
      ·refine A4 (fun S hS=>C0 (AP (A3 (l0:=k0) (x:=a0)) (fun _ _ _ h=>Enc.frz k0 a0 _ _ _ h)) A8 (Ab rfl) (Ab rfl) hS fun l0_ l1_ l2_ l3_=>w41 (by omega) l0_ a0 l1_ a2 1 a3) fun y2 hy2=>q_i ?_ ?_
       ·exact Ag 0 rr
       ·refine q_p fr<|q_k ?_ ?_
        ·exact q_p fr<|A4 (fun S hS=>C0 (AP (A3 (l0:=k0) (x:=a0)) (fun _ _ _ h=>Enc.frz k0 a0 _ _ _ h)) A8 (Ab rfl) (Ab rfl) hS fun l0_ l1_ l2_ l3_=>w41 (by omega) l0_ a0 l1_ a2 1 (wi .i64 (a3 - 1))) fun y3 hy3=>q_p fr<|q_i (Ag 0 rr)<|Aa 0 rr
        ·first | refine DF ?_ | skip
         exact Aa 0 rr
  ·intro s2
   refine C9 (I:=(fun (s:(List Int)) l L=>∃ (fl1:Bool),l = [.rsl false fl1 (s.map (Enc.cs false))]∧L = [bx b1 [iW a4]])) ?_ ?_ ?_ ?_
   ·exact q_q fr<|q_p fr<|q_p fr<|q_p fr<|q_i (q_q fr<|q_p fr<|q_p fr<|AL rfl fun x1 hx1=>q_p fr<|q_p fr<|A4 (aF2 A8 A8 fun l0_ l1_=>w59 (by omega) l0_ a2 l1_ x1.Refs) fun y4 hy4=>Aa 0 ⟨false,rfl,rfl⟩)<|Aa 0 ⟨true,rfl,rfl⟩
   ·rintro s4 _ _ ⟨fl1,rfl,rfl⟩
    refine AB<|q_p fr<|q_i ?_ ?_
    ·exact Av 0 rfl rfl<|q_p fr<|AL rfl fun x2 hx2=>q_p fr<|q_p fr<|q_i (Ah (Ab rfl) rfl)<|Ah (Ab rfl) rfl
    ·refine AD (A:=fun (s:Int)=>[iW s]) (B:=fun s=>[bx b1 [iW a4]]) ?_ ?_ ?_ ?_
     ·refine Av 0 rfl rfl<|q_p fr<|q_j ?_ ?_
      ·first | refine Dh ?_ | skip
       exact Ag 0 rr
      ·exact A4 (fun S hS=>C0 (AP (A3 (l0:=k0) (x:=a0)) (fun _ _ _ h=>Enc.frz k0 a0 _ _ _ h)) A8 (Ab rfl) (Eg (Ae (DK 0 rfl (A3 (l0:=false) (x:=a4))) As)) hS fun l0_ l1_ l2_ l3_=>V1 (by omega) l0_ a0 l1_ a2 1 l3_ a4) fun y5 hy5=>q_i (Ag 0 rr)<|Aa 0 rr
     ·exact fun s6=>Ah (Ab rfl) rfl
     ·exact fun i3 s6=>Ao
     ·exact fun s6=>Ah (Ab rfl) rfl
   ·rintro i2 s4 _ _ ⟨fl2,rfl,rfl⟩
    exact Ao
   ·rintro s4 _ _ ⟨fl3,rfl,rfl⟩
    exact Ah (Ab rfl) rfl
  ·exact fun i1 s2=>Ao
  ·exact fun s2=>Ah (Ab rfl) rfl
def m15 (a0:Int) (a1:List Ad) (a2:Aj) (a3:Int) (a4:Int):Option (Int):=(m12 a0 a1 a2).bind fun y1=>bif y1 != 0 then some y1 else (m35 a2 a0 a1 a3 a4).bind fun y2=>some y2
theorem w15 {d:Nat} (hd:147≤d) (a0:Int) (k1:Bool) (a1:List Ad) (k2:Bool) (a2:Aj) (a3:Int) (a4:Int):Fit (R NN d 15 [iW a0,.rsl k1 false (a1.map (Enc.cs k1)),.agg (Enc.cs k2 a2),iW a3,iW a4] []) (m15 a0 a1 a2 a3 a4) PI:=by
  obtain ⟨d,rfl,g⟩:=up hd
  refine AC (t15 NN d _ _ _ _ _) ?_
  unfold b15 m15
  exact Bg (n:=4) rfl rfl (by decide) fun b1=>B0 0 rfl rfl rfl<|A4 (aF3 (Ab rfl) A8 (Cd (A3 (l0:=false) (x:=a2))) fun l0_ l1_ l2_=>w12 (by omega) a0 l1_ a1 l2_ a2) fun y1 hy1=>q_p fr<|q_i (Ah (Ab rfl) rfl)<|A4 (fun S hS=>Et (DK 0 rfl (Ae (Ab rfl) (Ae (Ab rfl) (Ae (Ab rfl) (Ae (Ab rfl) As))))) (Ab rfl) A8 (Ab rfl) (Ab rfl) hS fun l0_ l1_ l2_ l3_ l4_=>w35 (by omega) l0_ a2 a0 l2_ a1 a3 a4) fun y2 hy2=>Ah (Ab rfl) rfl
def m36 (a0:Int) (a1:List Ad) (a2:Aj) (a3:Int) (a4:Int):Option (Int):=bif !(m49 a3 a4) then some 3 else ( bif !(m50 a2) then some (LO.ret 8) else (m32 a0 a2.View).bind fun y1=>bif a2.Id != y1 then some (LO.ret 8) else some (LO.norm 0)).bind (Ac (fun s2=>(m48 a1 a2 1 a3 (-1)).bind fun y2=>bif y2 then some 6 else ( bif decide (a3 > 1) then (m48 a1 a2 1 (wi .i64 (a3 - 1)) (-1)).bind fun y3=>bif !y3 then some (LO.ret 4) else some (LO.norm s2) else some (LO.norm s2)).bind (Ac (fun s4=>(m66 a1 a2.Start a3 a4).bind fun y4=>bif !y4 then some 1 else ( bif decide (a2.Start ≥ 0) then (Am a1 a2.Start).bind fun x1=>(m67 a1 x1.Refs).bind fun y5=>bif decide (a3≤(y5.length:Int)) then some (LO.ret 0) else some (LO.norm s4) else some (LO.norm s4)).bind (Ac (fun s6=>(m48 a1 a2 1 0 a4).bind fun y6=>bif y6 then some 1 else some 0) (fun i3 s6=>none) (fun s6=>some s6))) (fun i2 s4=>none) (fun s4=>some s4))) (fun i1 s2=>none) (fun s2=>some s2))
theorem w36 {d:Nat} (hd:4≤d) (a0:Int) (k1:Bool) (a1:List Ad) (k2:Bool) (a2:Aj) (a3:Int) (a4:Int):Fit (R NN d 36 [iW a0,.rsl k1 false (a1.map (Enc.cs k1)),.rp k2 (Enc.cs k2 a2),iW a3,iW a4] []) (m36 a0 a1 a2 a3 a4) PI:=by
  obtain ⟨d,rfl,g⟩:=up hd
  refine AC (t36 NN d _ _ _ _ _) ?_
  unfold b36 m36
  refine AH (aF2 (Ab rfl) (Ab rfl) fun l0_ l1_=>w49 (by omega) a3 a4)<|q_p fr<|q_i ?_ ?_
  ·exact Ah (Ab rfl) rfl
  ·refine AD (A:=fun (s:Int)=>[iW s]) (B:=fun s=>[]) ?_ ?_ ?_ ?_
   ·refine AH (aF1 (AP (A3 (l0:=k2) (x:=a2)) (fun _ _ _ h=>Enc.frz k2 a2 _ _ _ h)) fun l0_=>w50 (by omega) l0_ a2)<|q_p fr<|q_j ?_ ?_
    ·first | refine Dh ?_ | skip
     exact Ag 0 rr
    ·exact q_q fr<|q_p fr<|q_p fr<|q_q fr<|q_p fr<|q_p fr<|A4 (aF2 (Ab rfl) (Ab rfl) fun l0_ l1_=>w32 (by omega) a0 a2.View) fun y1 hy1=>q_p fr<|q_i (Ag 0 rr)<|Aa 0 rr
   ·intro s2
    refine A4 (fun S hS=>Et A8 (AP (A3 (l0:=k2) (x:=a2)) (fun _ _ _ h=>Enc.frz k2 a2 _ _ _ h)) (Ab rfl) (Ab rfl) (Ab rfl) hS fun l0_ l1_ l2_ l3_ l4_=>w48 (by omega) l0_ a1 l1_ a2 1 a3 (-1)) fun y2 hy2=>q_i ?_ ?_
    ·exact Ah (Ab rfl) rfl
    ·refine AD (A:=fun (s:Int)=>[iW s]) (B:=fun s=>[]) ?_ ?_ ?_ ?_
     ·refine q_p fr<|q_k ?_ ?_
      ·exact q_p fr<|A4 (fun S hS=>Et A8 (AP (A3 (l0:=k2) (x:=a2)) (fun _ _ _ h=>Enc.frz k2 a2 _ _ _ h)) (Ab rfl) (Ab rfl) (Ab rfl) hS fun l0_ l1_ l2_ l3_ l4_=>w48 (by omega) l0_ a1 l1_ a2 1 (wi .i64 (a3 - 1)) (-1)) fun y3 hy3=>q_p fr<|q_i (Ag 0 rr)<|Aa 0 rr
      ·first | refine DF ?_ | skip
       exact Aa 0 rr
     ·intro s4
      refine q_q fr<|q_p fr<|q_p fr<|A4 (fun S hS=>C0 A8 (Ab rfl) (Ab rfl) (Ab rfl) hS fun l0_ l1_ l2_ l3_=>w66 (by omega) l0_ a1 a2.Start a3 a4) fun y4 hy4=>q_p fr<|q_i ?_ ?_
      ·exact Ah (Ab rfl) rfl
      ·refine AD (A:=fun (s:Int)=>[iW s]) (B:=fun s=>[]) ?_ ?_ ?_ ?_
       ·refine q_q fr<|q_p fr<|q_p fr<|q_p fr<|q_k ?_ ?_
        ·exact q_q fr<|q_p fr<|q_p fr<|AL rfl fun x1 hx1=>q_p fr<|q_p fr<|A4 (aF2 A8 A8 fun l0_ l1_=>w67 (by omega) l0_ a1 l1_ x1.Refs) fun y5 hy5=>AB<|q_p fr<|q_i (Ag 0 rr)<|Aa 0 rr
        ·first | refine DF ?_ | skip
         exact Aa 0 rr
       ·exact fun s6=>A4 (fun S hS=>Et A8 (AP (A3 (l0:=k2) (x:=a2)) (fun _ _ _ h=>Enc.frz k2 a2 _ _ _ h)) (Ab rfl) (Ab rfl) (Ab rfl) hS fun l0_ l1_ l2_ l3_ l4_=>w48 (by omega) l0_ a1 l1_ a2 1 0 a4) fun y6 hy6=>q_i (Ah (Ab rfl) rfl)<|Ah (Ab rfl) rfl
       ·exact fun i3 s6=>Ao
       ·exact fun s6=>Ah (Ab rfl) rfl
     ·exact fun i2 s4=>Ao
     ·exact fun s4=>Ah (Ab rfl) rfl
   ·exact fun i1 s2=>Ao
   ·exact fun s2=>Ah (Ab rfl) rfl
def m16 (a0:Int) (a1:List Ad) (a2:Aj) (a3:Int) (a4:Int):Option (Int):=(m23 a0 a1 a2).bind fun y1=>bif y1 != 0 then some y1 else (m36 a0 a1 a2 a3 a4).bind fun y2=>some y2
theorem w16 {d:Nat} (hd:10≤d) (a0:Int) (k1:Bool) (a1:List Ad) (k2:Bool) (a2:Aj) (a3:Int) (a4:Int):Fit (R NN d 16 [iW a0,.rsl k1 false (a1.map (Enc.cs k1)),.agg (Enc.cs k2 a2),iW a3,iW a4] []) (m16 a0 a1 a2 a3 a4) PI:=by
  obtain ⟨d,rfl,g⟩:=up hd
  refine AC (t16 NN d _ _ _ _ _) ?_
  unfold b16 m16
  exact Bg (n:=4) rfl rfl (by decide) fun b1=>A4 (aF3 (Ab rfl) A8 (DK 0 rfl (Ae (Ab rfl) (Ae (Ab rfl) (Ae (Ab rfl) (Ae (Ab rfl) As))))) fun l0_ l1_ l2_=>w23 (by omega) a0 l1_ a1 l2_ a2) fun y1 hy1=>q_p fr<|q_i (Ah (Ab rfl) rfl)<|A4 (fun S hS=>Et (Ab rfl) A8 (DK 0 rfl (Ae (Ab rfl) (Ae (Ab rfl) (Ae (Ab rfl) (Ae (Ab rfl) As))))) (Ab rfl) (Ab rfl) hS fun l0_ l1_ l2_ l3_ l4_=>w36 (by omega) a0 l1_ a1 l2_ a2 a3 a4) fun y2 hy2=>Ah (Ab rfl) rfl
def m3 (a0:List U8):Option (Bool):=bif (m4 a0) then some true else (m5 a0).bind fun y1=>(m6 y1.1 y1.2.1 y1.2.2.1 y1.2.2.2).bind fun y2=>(m7 a0).bind fun y3=>(m8 y3.1 y3.2.1 y3.2.2.1 y3.2.2.2.1 y3.2.2.2.2).bind fun y4=>( (m9 y1.1 y1.2.1 y1.2.2.1 y1.2.2.2).bind fun y5=>bif y2 != y5 then some (LO.ret false) else (m10 y3.1 y3.2.1 y3.2.2.1 y3.2.2.2.1 y3.2.2.2.2).bind fun y6=>bif y4 != y6 then some (LO.ret false) else some (LO.norm false)).bind (Ac (fun s2=>( ( bif y2 == 0 then (m11 y1.1 y1.2.1 y1.2.2.2 y1.2.2.1.Start).bind fun y7=>bif !y7 then some (LO.norm true) else (Am y1.2.1 y1.2.2.2).bind fun x1=>bif x1.View != y1.2.2.1.View then some (LO.norm true) else (m12 y1.1 y1.2.1 y1.2.2.1).bind fun y8=>some (LO.norm (y8 != 0)) else some (LO.norm false)).bind (Ac (fun s5=>bif s5 then some (LO.ret false) else some (LO.norm s2)) (fun i2 s5=>some (LO.exit i2 s2)) (fun s5=>some (LO.ret s2)))).bind (Ac (fun s6=>( bif y4 == 0 then (m13 y3.1 y3.2.1 (⟨y3.2.2.2.1,y3.2.2.1.View,y3.2.2.2.2⟩:Ar)).bind fun y9=>bif !y9 then some (LO.ret false) else some (LO.norm s6) else some (LO.norm s6)).bind (Ac (fun s8=>(m14 a0).bind fun y10=>(m15 y10.1 y10.2.1 y10.2.2.1 y10.2.2.2.1 y10.2.2.2.2).bind fun y11=>(m16 y10.1 y10.2.1 y10.2.2.1 y10.2.2.2.1 y10.2.2.2.2).bind fun y12=>some (y11 == y12)) (fun i4 s8=>none) (fun s8=>some s8))) (fun i3 s6=>none) (fun s6=>some s6))) (fun i1 s2=>none) (fun s2=>some s2))
theorem w3 {d:Nat} (hd:148≤d) (k0:Bool) (a0:List U8):Fit (R NN d 3 [.rsl k0 false (a0.map (Enc.cs k0))] []) (m3 a0) PB:=by
  obtain ⟨d,rfl,g⟩:=up hd
  refine AC (t3 NN d _) ?_
  unfold b3 m3
  refine AH (aF1 A8 fun l0_=>w4 (by omega) l0_ a0)<|q_i ?_ ?_
  ·exact Ah (Ab rfl) rfl
  ·refine A4 (aF1 A8 fun l0_=>w5 (by omega) l0_ a0) fun y1 hy1=>q_q fr<|q_q fr<|q_q fr<|q_q fr<|Bt rfl fun b1=>Bj 0 rfl rfl rfl (by decide) rfl<|B0 0 rfl rfl rfl<|A4 (fun S hS=>C0 (Ab rfl) A8 (Cd (A3 (l0:=false) (x:=y1.2.2.1))) (Ab rfl) hS fun l0_ l1_ l2_ l3_=>w6 (by omega) y1.1 l1_ y1.2.1 l2_ y1.2.2.1 y1.2.2.2) fun y2 hy2=>A4 (aF1 A8 fun l0_=>w7 (by omega) l0_ a0) fun y3 hy3=>q_q fr<|q_q fr<|q_q fr ?_
   refine q_q fr<|q_q fr<|Bt rfl fun b2=>Bj 0 rfl rfl rfl (by decide) rfl<|B0 0 rfl rfl rfl<|A4 (fun S hS=>Et (Ab rfl) A8 (Cd (A3 (l0:=false) (x:=y3.2.2.1))) (Ab rfl) (Ab rfl) hS fun l0_ l1_ l2_ l3_ l4_=>w8 (by omega) y3.1 l1_ y3.2.1 l2_ y3.2.2.1 y3.2.2.2.1 y3.2.2.2.2) fun y4 hy4=>AD (A:=fun (s:Bool)=>[.bool s]) (B:=fun s=>[bx b2 [iW y3.2.2.1.Id,iW y3.2.2.1.View,iW y3.2.2.1.Start,iW y3.2.2.1.Done],bx b1 [iW y1.2.2.1.Id,iW y1.2.2.1.View,iW y1.2.2.1.Start,iW y1.2.2.1.Done]]) ?_ ?_ ?_ ?_
   ·refine B0 1 rfl rfl rfl<|A4 (fun S hS=>C0 (Ab rfl) A8 (Cd (A3 (l0:=false) (x:=y1.2.2.1))) (Ab rfl) hS fun l0_ l1_ l2_ l3_=>w9 (by omega) y1.1 l1_ y1.2.1 l2_ y1.2.2.1 y1.2.2.2) fun y5 hy5=>q_p fr<|q_j ?_ ?_
    ·first | refine Dh ?_ | skip
     exact Ag 0 rr
    ·exact B0 0 rfl rfl rfl<|A4 (fun S hS=>Et (Ab rfl) A8 (Cd (A3 (l0:=false) (x:=y3.2.2.1))) (Ab rfl) (Ab rfl) hS fun l0_ l1_ l2_ l3_ l4_=>w10 (by omega) y3.1 l1_ y3.2.1 l2_ y3.2.2.1 y3.2.2.2.1 y3.2.2.2.2) fun y6 hy6=>q_p fr<|q_i (Ag 0 rr)<|Aa 0 rr
   ·intro s2
    refine AD (A:=fun (s:Bool)=>[.bool s]) (B:=fun s=>[bx b2 [iW y3.2.2.1.Id,iW y3.2.2.1.View,iW y3.2.2.1.Start,iW y3.2.2.1.Done],bx b1 [iW y1.2.2.1.Id,iW y1.2.2.1.View,iW y1.2.2.1.Start,iW y1.2.2.1.Done]]) ?_ ?_ ?_ ?_
    ·refine AD (A:=fun (s:Bool)=>[.bool s]) (B:=fun s=>[bx b2 [iW y3.2.2.1.Id,iW y3.2.2.1.View,iW y3.2.2.1.Start,iW y3.2.2.1.Done],bx b1 [iW y1.2.2.1.Id,iW y1.2.2.1.View,iW y1.2.2.1.Start,iW y1.2.2.1.Done]]) ?_ ?_ ?_ ?_
     ·exact q_p fr<|q_k (q_p fr<|Av 1 rfl rfl<|A4 (fun S hS=>C0 (Ab rfl) A8 (Ab rfl) (Ab rfl) hS fun l0_ l1_ l2_ l3_=>w11 (by omega) y1.1 l1_ y1.2.1 y1.2.2.2 y1.2.2.1.Start) fun y7 hy7=>q_p fr<|q_j (Aa 0 rr)<|AL rfl fun x1 hx1=>q_p fr<|q_p fr<|q_p fr<|Av 1 rfl rfl<|q_p fr<|q_j (Aa 0 rr)<|B0 1 rfl rfl rfl<|A4 (aF3 (Ab rfl) A8 (Cd (A3 (l0:=false) (x:=y1.2.2.1))) fun l0_ l1_ l2_=>w12 (by omega) y1.1 l1_ y1.2.1 l2_ y1.2.2.1) fun y8 hy8=>q_p fr<|Aa 0 rr)<|Aa 0 rr
     ·exact fun s5=>q_i (Ag 0 rr)<|Aa 0 rr
     ·exact fun i2 s5=>Ai 0 rr
     ·exact fun s5=>Ag 0 rr
    ·intro s6
     refine AD (A:=fun (s:Bool)=>[.bool s]) (B:=fun s=>[bx b2 [iW y3.2.2.1.Id,iW y3.2.2.1.View,iW y3.2.2.1.Start,iW y3.2.2.1.Done],bx b1 [iW y1.2.2.1.Id,iW y1.2.2.1.View,iW y1.2.2.1.Start,iW y1.2.2.1.Done]]) ?_ ?_ ?_ ?_
     ·refine q_p fr<|q_k ?_ ?_
      ·exact q_p fr<|Av 0 rfl rfl<|q_p (fun _=>Dy rfl)<|A4 (aF3 (Ab rfl) A8 (Cd (Ae (Ab rfl) (Ae (Ab rfl) (Ae (Ab rfl) As)))) fun l0_ l1_ l2_=>w13 (by omega) y3.1 l1_ y3.2.1 l2_ (⟨y3.2.2.2.1,y3.2.2.1.View,y3.2.2.2.2⟩:Ar)) fun y9 hy9=>q_p fr<|q_i (Ag 0 rr)<|Aa 0 rr
      ·first | refine DF ?_ | skip
       exact Aa 0 rr
     ·exact fun s8=>A4 (aF1 A8 fun l0_=>w14 (by omega) l0_ a0) fun y10 hy10=>q_q fr<|q_q fr<|q_q fr<|q_q fr<|q_q fr<|Bt rfl fun b3=>Bj 0 rfl rfl rfl (by decide) rfl<|B0 0 rfl rfl rfl<|A4 (fun S hS=>Et (Ab rfl) A8 (Cd (A3 (l0:=false) (x:=y10.2.2.1))) (Ab rfl) (Ab rfl) hS fun l0_ l1_ l2_ l3_ l4_=>w15 (by omega) y10.1 l1_ y10.2.1 l2_ y10.2.2.1 y10.2.2.2.1 y10.2.2.2.2) fun y11 hy11=>B0 0 rfl rfl rfl<|A4 (fun S hS=>Et (Ab rfl) A8 (Cd (A3 (l0:=false) (x:=y10.2.2.1))) (Ab rfl) (Ab rfl) hS fun l0_ l1_ l2_ l3_ l4_=>w16 (by omega) y10.1 l1_ y10.2.1 l2_ y10.2.2.1 y10.2.2.2.1 y10.2.2.2.2) fun y12 hy12=>q_p fr<|Ah (Ab rfl) rfl
     ·exact fun i4 s8=>Ao
     ·exact fun s8=>Ah (Ab rfl) rfl
    ·exact fun i3 s6=>Ao
    ·exact fun s6=>Ah (Ab rfl) rfl
   ·exact fun i1 s2=>Ao
   ·exact fun s2=>Ah (Ab rfl) rfl
end
end Go.Proofs.YtgjljhchmokhfaaGreat
