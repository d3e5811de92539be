/- Plain functions, and that the evaluator computes them. -/
import Derived.Test.YtjlecnhninhmnaaGreatDoorW2
namespace Go.Proofs.YtjlecnhninhmnaaGreatDoor
open Go Go.Rf
set_option linter.unusedVariables false
set_option linter.unusedSimpArgs false
noncomputable section
def H5 (y1:(List Str)) (s3:(List Str)×Bool×Int):Option (LO ((List Str)×Bool×Int)):=bif decide (s3.2.2 < (y1.length:Int)) then (Aq y1 s3.2.2).bind fun x2=>(Pg x2).bind fun y2=>bif !y2 then some (LO.ret ([],false,s3.2.2)) else some (LO.norm (s3.1,s3.2.1,wi .i64 (s3.2.2 + 1))) else some (LO.exit 0 (s3.1,s3.2.1,s3.2.2))
def WM (a0:Str):Option ((List Str)×Bool):=bif a0 == ([47]:Str) then some ([],true) else (Uc a0 47).bind fun y1=>( bif decide ((y1.length:Int) < 2) then some (LO.ret ([],false)) else (Aq y1 0).bind fun x1=>bif !(x1 == ([]:Str)) then some (LO.ret ([],false)) else some (LO.norm ([],false))).bind (Ai (fun s2=>(Ax (H5 y1) NN (s2.1,s2.2,1)).bind (Ai (fun _=>none) (fun i2 s4=>if i2 = 0 then (DV y1 1 (y1.length:Int)).bind fun ys1=>some (ys1,true) else none) (fun s4=>some (s4.1,s4.2.1)))) (fun i1 s2=>none) (fun s2=>some (s2.1,s2.2)))
theorem w185 {d:Nat} (hd:3≤d) (a0:Str):Fit (R NN d 185 [Cb a0] []) (WM a0) (P0 (fun (t:(List Str)×Bool)=>AV.tup [.rsl false false (t.1.map (Enc.cs false)),.bool t.2])):=by
  obtain ⟨d,rfl,g⟩:=up hd
  refine A8 (t185 NN d _) ?_
  unfold mH WM
  refine q_p (fun _=>NK)<|q_i ?_ ?_
  ·exact q_q (fun _=>RO)<|Ak (Hh (Ab (A3 (α:=Str) (l0:=false) (fl:=true) (xs:=[])) (Ab (Ae rfl) Ao))) rfl
  ·refine A5 (aF2 (Ae rfl) (Ae rfl) fun l0_ l1_=>gU (by omega) a0 47) fun y1 hy1=>DN (I:=(fun (s:(List Str)×Bool) l L=>∃ (fl1:Bool),l = [.rsl false fl1 (s.1.map (Enc.cs false)),.bool s.2]∧L = [])) ?_ ?_ ?_ ?_
   ·refine A7<|q_p fr<|q_j ?_ ?_
    ·first | refine BL ?_ | skip
     exact Am 0 ⟨true,rfl,rfl⟩
    ·exact Bd rfl fun x1 hx1=>q_p fr<|q_p (fun _=>Iu)<|q_i (Am 0 ⟨true,rfl,rfl⟩)<|Ad 0 ⟨true,rfl,rfl⟩
   ·rintro s2 _ _ ⟨fl1,rfl,rfl⟩
    refine BW (I:=(fun (s:(List Str)×Bool×Int) l L=>∃ (fl2:Bool),l = [.rsl false fl2 (s.1.map (Enc.cs false)),.bool s.2.1,iW s.2.2]∧L = [])) 0 ⟨fl1,rfl,rfl⟩ ?_ ?_ ?_
    ·rintro s3 _ _ ⟨fl2,rfl,rfl⟩
     unfold Vp H5
     exact A7<|q_p fr<|q_i (Bd rfl fun x2 hx2=>q_p fr<|A5 (aF1 (Ae rfl) fun l0_=>w199 (by omega) x2) fun y2 hy2=>q_p fr<|q_i (Am 0 ⟨true,rfl,rfl⟩)<|q_p fr<|Ad 0 ⟨fl2,rfl,rfl⟩)<|Ap 0 ⟨fl2,rfl,rfl⟩
    ·rintro i2 s4 _ _ ⟨fl3,rfl,rfl⟩
     exact q_n (OO rfl (.inl rfl) (.inr ⟨rfl,rfl⟩) fun fl4 ys1 hys1=>Ak (Hh (Ab A3 (Ab (Ae rfl) Ao))) rfl)<|As
    ·rintro s4 _ _ ⟨fl5,rfl,rfl⟩
     exact Ak (Hh (Ab A3 (Ab (Ae rfl) Ao))) rfl
   ·rintro i1 s2 _ _ ⟨fl6,rfl,rfl⟩
    exact As
   ·rintro s2 _ _ ⟨fl7,rfl,rfl⟩
    exact Ak (Hh (Ab A3 (Ab (Ae rfl) Ao))) rfl
def Uh (a0:Str):Option (Int):=( ( bif decide ((a0.length:Int) > 24) then some (LO.norm true) else bif !(a0 == ([47]:Str)) then (Uc a0 47).bind fun y1=>some (LO.norm (decide ((y1.length:Int) > 5))) else some (LO.norm false)).bind (Ai (fun s3=>bif s3 then some (LO.ret 2) else some (LO.norm 0)) (fun i1 s3=>some (LO.exit i1 0)) (fun s3=>some (LO.ret 0)))).bind (Ai (fun s4=>(WM a0).bind fun y2=>bif !y2.2 then some 5 else some 0) (fun i2 s4=>none) (fun s4=>some s4))
theorem w155 {d:Nat} (hd:4≤d) (a0:Str):Fit (R NN d 155 [Cb a0] []) (Uh a0) PI:=by
  obtain ⟨d,rfl,g⟩:=up hd
  refine A8 (t155 NN d _) ?_
  unfold mX Uh
  refine AY (A:=fun (s:Int)=>[iW s]) (B:=fun s=>[]) ?_ ?_ ?_ ?_
  ·refine AY (A:=fun (s:Bool)=>[.bool s]) (B:=fun s=>[]) ?_ ?_ ?_ ?_
   ·exact FH<|q_p fr<|q_j (Ad 0 rr)<|q_p (fun _=>Iu)<|q_k (A5 (aF2 (Ae rfl) (Ae rfl) fun l0_ l1_=>gU (by omega) a0 47) fun y1 hy1=>A7<|q_p fr<|Ad 0 rr)<|Ad 0 rr
   ·exact fun s3=>q_i (Am 0 rr)<|Ad 0 rr
   ·exact fun i1 s3=>Ap 0 rr
   ·exact fun s3=>Am 0 rr
  ·exact fun s4=>A5 (aF1 (Ae rfl) fun l0_=>w185 (by omega) a0) fun y2 hy2=>q_q fr<|q_q fr<|q_p fr<|q_i (Ak (Ae rfl) rfl)<|Ak (Ae rfl) rfl
  ·exact fun i2 s4=>As
  ·exact fun s4=>Ak (Ae rfl) rfl
def Ug (a0:Int):Bool:=(Dm a0 0 9999)
theorem w156 {d:Nat} (hd:2≤d) (a0:Int):Fit (R NN d 156 [iW a0] []) (some (Ug a0)) PB:=by
  obtain ⟨d,rfl,g⟩:=up hd
  refine A8 (t156 NN d _) ?_
  unfold mW Ug
  exact AA (aF3 (Ae rfl) (Ae rfl) (Ae rfl) fun l0_ l1_ l2_=>F3 (by omega) a0 0 9999)<|Ak (Ae rfl) rfl
def NZ (a0:TOp):Option (Int):=bif !(Dm a0.Kind 1 8) then some 1 else ( ( bif !(JQ a0.Kind) then bif !(a0.Path == ([]:Str)) then some (LO.norm true) else bif !(JP a0.Kind) then bif a0.Data != 0 then some (LO.norm true) else (IN a0.Kind).bind fun y1=>bif !y1 then bif a0.Version != 0 then some (LO.norm true) else bif a0.Kind != 3 then bif a0.Seq then some (LO.norm true) else some (LO.norm a0.Own) else some (LO.norm false) else bif a0.Kind != 3 then bif a0.Seq then some (LO.norm true) else some (LO.norm a0.Own) else some (LO.norm false) else (IN a0.Kind).bind fun y2=>bif !y2 then bif a0.Version != 0 then some (LO.norm true) else bif a0.Kind != 3 then bif a0.Seq then some (LO.norm true) else some (LO.norm a0.Own) else some (LO.norm false) else bif a0.Kind != 3 then bif a0.Seq then some (LO.norm true) else some (LO.norm a0.Own) else some (LO.norm false) else bif !(JP a0.Kind) then bif a0.Data != 0 then some (LO.norm true) else (IN a0.Kind).bind fun y3=>bif !y3 then bif a0.Version != 0 then some (LO.norm true) else bif a0.Kind != 3 then bif a0.Seq then some (LO.norm true) else some (LO.norm a0.Own) else some (LO.norm false) else bif a0.Kind != 3 then bif a0.Seq then some (LO.norm true) else some (LO.norm a0.Own) else some (LO.norm false) else (IN a0.Kind).bind fun y4=>bif !y4 then bif a0.Version != 0 then some (LO.norm true) else bif a0.Kind != 3 then bif a0.Seq then some (LO.norm true) else some (LO.norm a0.Own) else some (LO.norm false) else bif a0.Kind != 3 then bif a0.Seq then some (LO.norm true) else some (LO.norm a0.Own) else some (LO.norm false)).bind (Ai (fun s3=>bif s3 then some (LO.ret 1) else some (LO.norm 0)) (fun i1 s3=>some (LO.exit i1 0)) (fun s3=>some (LO.ret 0)))).bind (Ai (fun s4=>( bif (JQ a0.Kind) then (Uh a0.Path).bind fun y5=>bif y5 != 0 then some (LO.ret y5) else some (LO.norm s4) else some (LO.norm s4)).bind (Ai (fun s6=>( bif !(Ug a0.Data) then some (LO.ret 3) else bif !(Dm a0.Version (-1) 999) then some (LO.ret 3) else some (LO.norm s6)).bind (Ai (fun s8=>some 0) (fun i4 s8=>none) (fun s8=>some s8))) (fun i3 s6=>none) (fun s6=>some s6))) (fun i2 s4=>none) (fun s4=>some s4))
theorem w115 {d:Nat} (hd:5≤d) (k0:Bool) (a0:TOp):Fit (R NN d 115 [.rp k0 (Enc.cs k0 a0)] []) (NZ a0) PI:=by
  obtain ⟨d,rfl,g⟩:=up hd
  refine A8 (t115 NN d _) ?_
  unfold oH NZ
  refine q_q fr<|q_p fr<|q_p fr<|AA (aF3 (Ae rfl) (Ae rfl) (Ae rfl) fun l0_ l1_ l2_=>F3 (by omega) a0.Kind 1 8)<|q_p fr<|q_i ?_ ?_
  ·exact Ak (Ae rfl) rfl
  ·refine AY (A:=fun (s:Int)=>[iW s]) (B:=fun s=>[]) ?_ ?_ ?_ ?_
   ·refine AY (A:=fun (s:Bool)=>[.bool s]) (B:=fun s=>[]) ?_ ?_ ?_ ?_
    ·exact q_q fr<|q_p fr<|q_p fr<|AA (aF1 (Ae rfl) fun l0_=>hU (by omega) a0.Kind)<|q_p fr<|q_k (q_q fr<|q_p fr<|q_p fr<|q_p (fun _=>Iu)<|q_j (Ad 0 rr)<|q_q fr<|q_p fr<|q_p fr<|AA (aF1 (Ae rfl) fun l0_=>hJ (by omega) a0.Kind)<|q_p fr<|q_k (q_q fr<|q_p fr<|q_p fr<|q_p fr<|q_j (Ad 0 rr)<|q_q fr<|q_p fr<|q_p fr<|A5 (aF1 (Ae rfl) fun l0_=>YB (by omega) a0.Kind) fun y1 hy1=>q_p fr<|q_k (q_q fr<|q_p fr<|q_p fr<|q_p fr<|q_j (Ad 0 rr)<|q_q fr<|q_p fr<|q_p fr<|q_p fr<|q_k (q_q fr<|q_p fr<|q_p fr<|q_j (Ad 0 rr)<|q_q fr<|q_p fr<|q_p fr<|Ad 0 rr)<|Ad 0 rr)<|q_q fr<|q_p fr<|q_p fr<|q_p fr<|q_k (q_q fr<|q_p fr<|q_p fr<|q_j (Ad 0 rr)<|q_q fr<|q_p fr<|q_p fr<|Ad 0 rr)<|Ad 0 rr)<|q_q fr<|q_p fr<|q_p fr<|A5 (aF1 (Ae rfl) fun l0_=>YB (by omega) a0.Kind) fun y2 hy2=>q_p fr<|q_k (q_q fr<|q_p fr<|q_p fr<|q_p fr<|q_j (Ad 0 rr)<|q_q fr<|q_p fr<|q_p fr<|q_p fr<|q_k (q_q fr<|q_p fr<|q_p fr<|q_j (Ad 0 rr)<|q_q fr<|q_p fr<|q_p fr<|Ad 0 rr)<|Ad 0 rr)<|q_q fr<|q_p fr<|q_p fr<|q_p fr<|q_k (q_q fr<|q_p fr<|q_p fr<|q_j (Ad 0 rr)<|q_q fr<|q_p fr<|q_p fr<|Ad 0 rr)<|Ad 0 rr)<|q_q fr<|q_p fr<|q_p fr<|AA (aF1 (Ae rfl) fun l0_=>hJ (by omega) a0.Kind)<|q_p fr<|q_k (q_q fr<|q_p fr<|q_p fr<|q_p fr<|q_j (Ad 0 rr)<|q_q fr<|q_p fr<|q_p fr<|A5 (aF1 (Ae rfl) fun l0_=>YB (by omega) a0.Kind) fun y3 hy3=>q_p fr<|q_k (q_q fr<|q_p fr<|q_p fr<|q_p fr<|q_j (Ad 0 rr)<|q_q fr<|q_p fr<|q_p fr<|q_p fr<|q_k (q_q fr<|q_p fr<|q_p fr<|q_j (Ad 0 rr)<|q_q fr<|q_p fr<|q_p fr<|Ad 0 rr)<|Ad 0 rr)<|q_q fr<|q_p fr<|q_p fr<|q_p fr<|q_k (q_q fr<|q_p fr<|q_p fr<|q_j (Ad 0 rr)<|q_q fr<|q_p fr<|q_p fr<|Ad 0 rr)<|Ad 0 rr)<|q_q fr<|q_p fr<|q_p fr<|A5 (aF1 (Ae rfl) fun l0_=>YB (by omega) a0.Kind) fun y4 hy4=>q_p fr<|q_k (q_q fr<|q_p fr<|q_p fr<|q_p fr<|q_j (Ad 0 rr)<|q_q fr<|q_p fr<|q_p fr<|q_p fr<|q_k (q_q fr<|q_p fr<|q_p fr<|q_j (Ad 0 rr)<|q_q fr<|q_p fr<|q_p fr<|Ad 0 rr)<|Ad 0 rr)<|q_q fr<|q_p fr<|q_p fr<|q_p fr<|q_k (q_q fr<|q_p fr<|q_p fr<|q_j (Ad 0 rr)<|q_q fr<|q_p fr<|q_p fr<|Ad 0 rr)<|Ad 0 rr
    ·exact fun s3=>q_i (Am 0 rr)<|Ad 0 rr
    ·exact fun i1 s3=>Ap 0 rr
    ·exact fun s3=>Am 0 rr
   ·intro s4
    refine AY (A:=fun (s:Int)=>[iW s]) (B:=fun s=>[]) ?_ ?_ ?_ ?_
    ·exact q_q fr<|q_p fr<|q_p fr<|AA (aF1 (Ae rfl) fun l0_=>hU (by omega) a0.Kind)<|q_i (q_q fr<|q_p fr<|q_p fr<|A5 (aF1 (Ae rfl) fun l0_=>w155 (by omega) a0.Path) fun y5 hy5=>q_p fr<|q_i (Am 0 rr)<|Ad 0 rr)<|Ad 0 rr
    ·intro s6
     refine AY (A:=fun (s:Int)=>[iW s]) (B:=fun s=>[]) ?_ ?_ ?_ ?_
     ·refine q_q fr<|q_p fr<|q_p fr<|AA (aF1 (Ae rfl) fun l0_=>w156 (by omega) a0.Data)<|q_p fr<|q_j ?_ ?_
      ·first | refine BL ?_ | skip
       exact Am 0 rr
      ·exact q_q fr<|q_p fr<|q_p fr<|AA (aF3 (Ae rfl) (Ae rfl) (Ae rfl) fun l0_ l1_ l2_=>F3 (by omega) a0.Version (-1) 999)<|q_p fr<|q_i (Am 0 rr)<|Ad 0 rr
     ·exact fun s8=>Ak (Ae rfl) rfl
     ·exact fun i4 s8=>As
     ·exact fun s8=>Ak (Ae rfl) rfl
    ·exact fun i3 s6=>As
    ·exact fun s6=>Ak (Ae rfl) rfl
   ·exact fun i2 s4=>As
   ·exact fun s4=>Ak (Ae rfl) rfl
def GX (a0:Ag) (s7:Int×Int):Option (LO (Int×Int)):=bif decide (s7.2 < (a0.Ops.length:Int)) then (Aq a0.Ops s7.2).bind fun x1=>(NZ x1).bind fun y1=>bif y1 != 0 then some (LO.ret (y1,s7.2)) else some (LO.norm (s7.1,wi .i64 (s7.2 + 1))) else some (LO.exit 0 (s7.1,s7.2))
def Gw (a0:Ag) (s9:Int×Int):Option (LO (Int×Int)):=( ( bif decide (s9.2 < (a0.Ops.length:Int)) then some (LO.norm (decide ((a0.Ops.length:Int) > 1))) else some (LO.norm false)).bind (Ai (fun s12=>bif s12 then some (LO.norm s12) else some (LO.exit 2 s12)) (fun i5 s12=>some (LO.exit i5 s12)) (fun s12=>some (LO.ret s12)))).bind (Ai (fun s13=>(Aq a0.Ops s9.2).bind fun x2=>bif decide (x2.Kind≤2) then some (LO.ret (1,s9.2)) else some (LO.norm (s9.1,wi .i64 (s9.2 + 1)))) (fun i6 s13=>some (LO.exit i6 (s9.1,s9.2))) (fun s13=>some (LO.ret (s9.1,s9.2))))
def m68 (a0:Ag):Option (Int):=( ( bif !(Zj a0.Client) then some (LO.norm true) else bif !(Dm a0.Number 1 99) then some (LO.norm true) else some (LO.norm (!(Zi a0.Time)))).bind (Ai (fun s3=>bif s3 then some (LO.ret 3) else some (LO.norm 0)) (fun i1 s3=>some (LO.exit i1 0)) (fun s3=>some (LO.ret 0)))).bind (Ai (fun s4=>( bif decide ((a0.Ops.length:Int) < 1) then some (LO.ret 2) else bif decide ((a0.Ops.length:Int) > 3) then some (LO.ret 2) else some (LO.norm s4)).bind (Ai (fun s6=>(Ax (GX a0) NN (s6,0)).bind (Ai (fun _=>none) (fun i4 s8=>if i4 = 0 then (Ax (Gw a0) NN (s8.1,0)).bind (Ai (fun _=>none) (fun i7 s14=>if i7 = 2 then some 0 else none) (fun s14=>some s14.1)) else none) (fun s8=>some s8.1))) (fun i3 s6=>none) (fun s6=>some s6))) (fun i2 s4=>none) (fun s4=>some s4))
theorem w68 {d:Nat} (hd:6≤d) (k0:Bool) (a0:Ag):Fit (R NN d 68 [.rp k0 (Enc.cs k0 a0)] []) (m68 a0) PI:=by
  obtain ⟨d,rfl,g⟩:=up hd
  refine A8 (t68 NN d _) ?_
  unfold b68 m68
  refine AY (A:=fun (s:Int)=>[iW s]) (B:=fun s=>[]) ?_ ?_ ?_ ?_
  ·refine AY (A:=fun (s:Bool)=>[.bool s]) (B:=fun s=>[]) ?_ ?_ ?_ ?_
   ·exact q_q fr<|q_p fr<|q_p fr<|AA (aF1 (Ae rfl) fun l0_=>w112 (by omega) a0.Client)<|q_p fr<|q_j (Ad 0 rr)<|q_q fr<|q_p fr<|q_p fr<|AA (aF3 (Ae rfl) (Ae rfl) (Ae rfl) fun l0_ l1_ l2_=>F3 (by omega) a0.Number 1 99)<|q_p fr<|q_j (Ad 0 rr)<|q_q fr<|q_p fr<|q_p fr<|AA (aF1 (Ae rfl) fun l0_=>w114 (by omega) a0.Time)<|q_p fr<|Ad 0 rr
   ·exact fun s3=>q_i (Am 0 rr)<|Ad 0 rr
   ·exact fun i1 s3=>Ap 0 rr
   ·exact fun s3=>Am 0 rr
  ·intro s4
   refine AY (A:=fun (s:Int)=>[iW s]) (B:=fun s=>[]) ?_ ?_ ?_ ?_
   ·refine q_q fr<|q_p fr<|q_p fr<|A7<|q_p fr<|q_j ?_ ?_
    ·first | refine BL ?_ | skip
     exact Am 0 rr
    ·exact q_q fr<|q_p fr<|q_p fr<|A7<|q_p fr<|q_i (Am 0 rr)<|Ad 0 rr
   ·intro s6
    refine Cc (A:=fun (s:Int×Int)=>[iW s.1,iW s.2]) (B:=fun s=>[]) 0 rr ?_ ?_ ?_
    ·intro s7
     unfold aH GX
     exact q_q fr<|q_p fr<|q_p fr<|A7<|q_p fr<|q_i (q_q fr<|q_p fr<|q_p fr<|Bd rfl fun x1 hx1=>A5 (aF1 (Bc (Ar (l0:=k0) (x:=x1)) (fun _ _ _ h=>Enc.frz k0 x1 _ _ _ h)) fun l0_=>w115 (by omega) l0_ x1) fun y1 hy1=>q_p fr<|q_i (Am 0 rr)<|q_p fr<|Ad 0 rr)<|Ap 0 rr
    ·intro i4 s8
     refine q_n ?_ ?_
     ·refine Cc (A:=fun (s:Int×Int)=>[iW s.1,iW s.2]) (B:=fun s=>[]) 0 rr ?_ ?_ ?_
      ·intro s9
       unfold aG Gw
       refine AY (A:=fun (s:Bool)=>[.bool s]) (B:=fun s=>[]) ?_ ?_ ?_ ?_
       ·refine AY (A:=fun (s:Bool)=>[.bool s]) (B:=fun s=>[]) ?_ ?_ ?_ ?_
        ·exact q_q fr<|q_p fr<|q_p fr<|A7<|q_p fr<|q_k (q_q fr<|q_p fr<|q_p fr<|A7<|q_p fr<|Ad 0 rr)<|Ad 0 rr
        ·exact fun s12=>q_i (Ad 0 rr)<|Ap 0 rr
        ·exact fun i5 s12=>Ap 0 rr
        ·exact fun s12=>Am 0 rr
       ·exact fun s13=>q_q fr<|q_p fr<|q_p fr<|Bd rfl fun x2 hx2=>q_p fr<|q_p fr<|q_p fr<|q_i (Am 0 rr)<|q_p fr<|Ad 0 rr
       ·exact fun i6 s13=>Ap 0 rr
       ·exact fun s13=>Am 0 rr
      ·exact fun i7 s14=>q_n (Ak (Ae rfl) rfl)<|As
      ·exact fun s14=>Ak (Ae rfl) rfl
     ·exact As
    ·exact fun s8=>Ak (Ae rfl) rfl
   ·exact fun i3 s6=>As
   ·exact fun s6=>Ak (Ae rfl) rfl
  ·exact fun i2 s4=>As
  ·exact fun s4=>Ak (Ae rfl) rfl
def Jm (a0:List Ag) (a1:Int) (a2:Int) (s1:Int×Int):Option (LO (Int×Int)):=bif decide (s1.2 < (a0.length:Int)) then ( (Aq a0 s1.2).bind fun x1=>bif x1.Client == a1 then (Aq a0 s1.2).bind fun x2=>bif x2.Number == a2 then some (LO.ret s1.2) else some (LO.norm s1.1) else some (LO.norm s1.1)).bind (Ai (fun s3=>some (LO.norm (s3,wi .i64 (s1.2 + 1)))) (fun i1 s3=>some (LO.exit i1 (s3,s1.2))) (fun s3=>some (LO.ret (s3,s1.2)))) else some (LO.exit 0 (s1.1,s1.2))
def m69 (a0:List Ag) (a1:Int) (a2:Int):Option (Int):=(Ax (Jm a0 a1 a2) NN (0,0)).bind (Ai (fun _=>none) (fun i2 s4=>if i2 = 0 then some (-1) else none) (fun s4=>some s4.1))
theorem w69 {d:Nat} (hd:1≤d) (k0:Bool) (a0:List Ag) (a1:Int) (a2:Int):Fit (R NN d 69 [.rsl k0 false (a0.map (Enc.cs k0)),iW a1,iW a2] []) (m69 a0 a1 a2) PI:=by
  obtain ⟨d,rfl,g⟩:=up hd
  refine A8 (t69 NN d _ _ _) ?_
  unfold b69 m69
  refine Cc (A:=fun (s:Int×Int)=>[iW s.1,iW s.2]) (B:=fun s=>[]) 0 rr ?_ ?_ ?_
  ·intro s1
   unfold aF Jm
   refine A7<|q_p fr<|q_i ?_ ?_
   ·refine AY (A:=fun (s:Int)=>[iW s]) (B:=fun s=>[]) ?_ ?_ ?_ ?_
    ·refine Bd rfl fun x1 hx1=>q_p fr<|q_p fr<|q_p fr<|q_k ?_ ?_
     ·exact Bd rfl fun x2 hx2=>q_p fr<|q_p fr<|q_p fr<|q_i (Am 0 rr)<|Ad 0 rr
     ·first | refine Dy ?_ | skip
      exact Ad 0 rr
    ·exact fun s3=>q_p fr<|Ad 0 rr
    ·exact fun i1 s3=>Ap 0 rr
    ·exact fun s3=>Am 0 rr
   ·exact Ap 0 rr
  ·exact fun i2 s4=>q_n (Ak (Ae rfl) rfl)<|As
  ·exact fun s4=>Ak (Ae rfl) rfl
def Ib (a0:Aa) (s1:Int×Int):Option (LO (Int×Int)):=bif decide (s1.2 < (a0.Requests.length:Int)) then (Aq a0.Requests s1.2).bind fun x1=>(m68 x1).bind fun y4=>bif y4 != 0 then some (LO.ret (y4,s1.2)) else (Aq a0.Requests s1.2).bind fun x2=>(Aq a0.Requests s1.2).bind fun x3=>(m69 a0.Requests x2.Client x3.Number).bind fun y5=>bif y5 != s1.2 then some (LO.ret (6,s1.2)) else some (LO.norm (s1.1,wi .i64 (s1.2 + 1))) else some (LO.exit 0 (s1.1,s1.2))
def m28 (a0:Aa):Option (Int):=(m65 a0.F a0.Ledger).bind fun y1=>bif y1 != 0 then some y1 else bif decide ((a0.Requests.length:Int) > 12) then some 2 else (m66 a0.F a0.Bad).bind fun y2=>bif y2 != 0 then some y2 else (m67 a0).bind fun y3=>bif y3 != 0 then some y3 else (Ax (Ib a0) NN (0,0)).bind (Ai (fun _=>none) (fun i1 s2=>if i1 = 0 then some 0 else none) (fun s2=>some s2.1))
theorem w28 {d:Nat} (hd:10≤d) (k0:Bool) (a0:Aa):Fit (R NN d 28 [.rp k0 (Enc.cs k0 a0)] []) (m28 a0) PI:=by
  obtain ⟨d,rfl,g⟩:=up hd
  refine A8 (t28 NN d _) ?_
  unfold b28 m28
  refine q_q fr<|q_p fr<|q_p fr<|q_q fr<|q_p fr<|q_p fr<|A5 (aF2 (Ae rfl) A3 fun l0_ l1_=>w65 (by omega) a0.F l1_ a0.Ledger) fun y1 hy1=>q_p fr<|q_i ?_ ?_
  ·exact Ak (Ae rfl) rfl
  ·refine q_q fr<|q_p fr<|q_p fr<|A7<|q_p fr<|q_i ?_ ?_
   ·exact Ak (Ae rfl) rfl
   ·refine q_q fr<|q_p fr<|q_p fr<|q_q fr<|q_p fr<|q_p fr<|A5 (aF2 (Ae rfl) A3 fun l0_ l1_=>w66 (by omega) a0.F l1_ a0.Bad) fun y2 hy2=>q_p fr<|q_i ?_ ?_
    ·exact Ak (Ae rfl) rfl
    ·refine A5 (aF1 (Bc (Ar (l0:=k0) (x:=a0)) (fun _ _ _ h=>Enc.frz k0 a0 _ _ _ h)) fun l0_=>w67 (by omega) l0_ a0) fun y3 hy3=>q_p fr<|q_i ?_ ?_
     ·exact Ak (Ae rfl) rfl
     ·refine Cc (A:=fun (s:Int×Int)=>[iW s.1,iW s.2]) (B:=fun s=>[]) 0 rr ?_ ?_ ?_
      ·intro s1
       unfold aY Ib
       exact q_q fr<|q_p fr<|q_p fr<|A7<|q_p fr<|q_i (q_q fr<|q_p fr<|q_p fr<|Bd rfl fun x1 hx1=>A5 (aF1 (Bc (Ar (l0:=k0) (x:=x1)) (fun _ _ _ h=>Enc.frz k0 x1 _ _ _ h)) fun l0_=>w68 (by omega) l0_ x1) fun y4 hy4=>q_p fr<|q_i (Am 0 rr)<|q_q fr<|q_p fr<|q_p fr<|q_q fr<|q_p fr<|q_p fr<|Bd rfl fun x2 hx2=>q_p fr<|q_p fr<|q_q fr<|q_p fr<|q_p fr<|Bd rfl fun x3 hx3=>q_p fr<|q_p fr<|A5 (aF3 A3 (Ae rfl) (Ae rfl) fun l0_ l1_ l2_=>w69 (by omega) l0_ a0.Requests x2.Client x3.Number) fun y5 hy5=>q_p fr<|q_i (Am 0 rr)<|q_p fr<|Ad 0 rr)<|Ap 0 rr
      ·exact fun i1 s2=>q_n (Ak (Ae rfl) rfl)<|As
      ·exact fun s2=>Ak (Ae rfl) rfl
def If (a0:Aa) (s1:Bool×Int):Option (LO (Bool×Int)):=bif decide (s1.2≤30) then (m32 a0.F a0.Ledger s1.2).bind fun y2=>bif decide ((y2.length:Int) > 1) then some (LO.ret (false,s1.2)) else some (LO.norm (s1.1,wi .i64 (s1.2 + 1))) else some (LO.exit 0 (s1.1,s1.2))
def m10 (a0:Aa):Option (Bool):=(m28 a0).bind fun y1=>bif y1 != 0 then some false else (Ax (If a0) NN (false,1)).bind (Ai (fun _=>none) (fun i1 s2=>if i1 = 0 then some true else none) (fun s2=>some s2.1))
theorem w10 {d:Nat} (hd:11≤d) (k0:Bool) (a0:Aa):Fit (R NN d 10 [.agg (Enc.cs k0 a0)] []) (m10 a0) PB:=by
  obtain ⟨d,rfl,g⟩:=up hd
  refine A8 (t10 NN d _) ?_
  unfold b10 m10
  refine AD (n:=5) rfl rfl (by decide) fun b1=>A5 (aF1 (Bv 0 rfl (Ab (Ae rfl) (Ab A3 (Ab A3 (Ab A3 (Ab A3 Ao)))))) fun l0_=>w28 (by omega) l0_ a0) fun y1 hy1=>q_p fr<|q_i ?_ ?_
  ·exact Ak (Ae rfl) rfl
  ·refine Cc (A:=fun (s:Bool×Int)=>[.bool s.1,iW s.2]) (B:=fun s=>[bx b1 [iW a0.F,.rsl k0 false (a0.Bad.map (Enc.cs k0)),.rsl k0 false (a0.Replicas.map (Enc.cs k0)),.rsl k0 false (a0.Ledger.map (Enc.cs k0)),.rsl k0 false (a0.Requests.map (Enc.cs k0))]]) 0 rr ?_ ?_ ?_
   ·intro s1
    unfold bD If
    exact q_p fr<|q_i (q_p fr<|Au 0 rfl rfl<|q_p fr<|Au 0 rfl rfl<|A5 (aF3 (Ae rfl) A3 (Ae rfl) fun l0_ l1_ l2_=>w32 (by omega) a0.F l1_ a0.Ledger s1.2) fun y2 hy2=>A7<|q_p fr<|q_i (Am 0 rr)<|q_p fr<|Ad 0 rr)<|Ap 0 rr
   ·exact fun i1 s2=>q_n (Ak (Ae rfl) rfl)<|As
   ·exact fun s2=>Ak (Ae rfl) rfl
def m4 (a0:List U8):Option (Bool):=bif (m5 a0) then some true else (m6 a0).bind fun y1=>( bif y1.2 then (m9 y1.1).bind fun y2=>bif y2 then (m10 y1.1).bind fun y3=>some (LO.norm y3) else some (LO.norm false) else some (LO.norm false)).bind (Ai (fun s2=>some s2) (fun i1 s2=>none) (fun s2=>some s2))
theorem w4 {d:Nat} (hd:442≤d) (k0:Bool) (a0:List U8):Fit (R NN d 4 [.rsl k0 false (a0.map (Enc.cs k0))] []) (m4 a0) PB:=by
  obtain ⟨d,rfl,g⟩:=up hd
  refine A8 (t4 NN d _) ?_
  unfold b4 m4
  refine AA (aF1 A3 fun l0_=>w5 (by omega) l0_ a0)<|q_i ?_ ?_
  ·exact Ak (Ae rfl) rfl
  ·refine A5 (aF1 A3 fun l0_=>w6 (by omega) l0_ a0) fun y1 hy1=>q_q fr<|q_q fr<|AT rfl fun b1=>AN 0 rfl rfl rfl (by decide) rfl<|AY (A:=fun (s:Bool)=>[.bool s]) (B:=fun s=>[bx b1 [iW y1.1.F,.rsl false false (y1.1.Bad.map (Enc.cs false)),.rsl false false (y1.1.Replicas.map (Enc.cs false)),.rsl false false (y1.1.Ledger.map (Enc.cs false)),.rsl false false (y1.1.Requests.map (Enc.cs false))]]) ?_ ?_ ?_ ?_
   ·exact q_k (AB 0 rfl rfl rfl<|A5 (aF1 (AS (Ar (l0:=false) (x:=y1.1))) fun l0_=>w9 (by omega) l0_ y1.1) fun y2 hy2=>q_k (AB 0 rfl rfl rfl<|A5 (aF1 (AS (Ar (l0:=false) (x:=y1.1))) fun l0_=>w10 (by omega) l0_ y1.1) fun y3 hy3=>Ad 0 rr)<|Ad 0 rr)<|Ad 0 rr
   ·exact fun s2=>Ak (Ae rfl) rfl
   ·exact fun i1 s2=>As
   ·exact fun s2=>Ak (Ae rfl) rfl
end
end Go.Proofs.YtjlecnhninhmnaaGreatDoor
