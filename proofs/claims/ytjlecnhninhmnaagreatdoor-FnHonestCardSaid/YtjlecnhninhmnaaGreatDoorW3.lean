/- Plain functions, and that the evaluator computes them. -/
import Derived.Test.YtjlecnhninhmnaaGreatDoorW2
namespace Go.Proofs.YtjlecnhninhmnaaGreatDoor
open Go Go.Rf
set_option linter.unusedVariables false
set_option linter.unusedSimpArgs false
noncomputable section
def I6 (a0:Str) (a1:Int) (s1:Int×Int×(List Str)):Option (LO (Int×Int×(List Str))):=bif decide (s1.2.1≤(a0.length:Int)) then ( bif s1.2.1 == (a0.length:Int) then (D6 a0 s1.1 s1.2.1).bind fun t2=>(B0 16 s1.2.2 [t2]).bind fun z2=>some (LO.norm (wi .i64 (s1.2.1 + 1),z2)) else (Ar a0 s1.2.1).bind fun c1=>bif (c1.toNat:Int) == a1 then (D6 a0 s1.1 s1.2.1).bind fun t1=>(B0 16 s1.2.2 [t1]).bind fun z1=>some (LO.norm (wi .i64 (s1.2.1 + 1),z1)) else some (LO.norm (s1.1,s1.2.2))).bind (Ah (fun s3=>some (LO.norm (s3.1,wi .i64 (s1.2.1 + 1),s3.2))) (fun i1 s3=>some (LO.exit i1 (s3.1,s1.2.1,s3.2))) (fun s3=>some (LO.ret (s3.1,s1.2.1,s3.2)))) else some (LO.exit 0 (s1.1,s1.2.1,s1.2.2))
def TN (a0:Str) (a1:Int):Option ((List Str)):=(Az (I6 a0 a1) NN (0,0,[])).bind (Ah (fun _=>none) (fun i2 s4=>if i2 = 0 then some s4.2.2 else none) (fun s4=>some []))
theorem fZ {d:Nat} (hd:1≤d) (a0:Str) (a1:Int):Fit (R NN d 184 [Cc a0,.int .u8 a1] []) (TN a0 a1) (P0 (fun (t:List Str)=>AV.rsl false false (t.map (Enc.cs false)))):=by
  obtain ⟨d,rfl,g⟩:=up hd
  refine A8 (t184 NN d _ _) ?_
  unfold lO TN
  refine q_q (fun _=>R7)<|Ei (α:=Str) false<|BW (I:=(fun (s:Int×Int×(List Str)) l L=>∃ (v1:AV),l = [v1,iW s.1,iW s.2.1]∧L = [sl false v1 (s.2.2:List Str)])) 0 ⟨(.rsl false true []),rfl,rfl⟩ ?_ ?_ ?_
  ·rintro s1 _ _ ⟨v1,rfl,rfl⟩
   unfold UZ I6
   refine F9<|q_p fr<|q_i ?_ ?_
   ·refine DF (I:=(fun (s:Int×(List Str)) l L=>∃ (v2:AV),l = [v2,iW s.1]∧L = [sl false v2 (s.2:List Str)])) ?_ ?_ ?_ ?_
    ·refine F9<|q_p fr<|q_j ?_ ?_
     ·first | refine BH ?_ | skip
      exact NF (.inl rfl) (.inl rfl) fun t2 ht2=>q_q (fun _=>R2)<|DY (ys:=[t2]) 0 rfl rfl (fun _ _=>rfl) fun v3 z2 hz2=>q_p fr<|Ad 0 ⟨v3,rfl,rfl⟩
     ·exact Iz fun c1 hc1=>q_p fr<|q_i (NF (.inl rfl) (.inl rfl) fun t1 ht1=>q_q (fun _=>R2)<|DY (ys:=[t1]) 0 rfl rfl (fun _ _=>rfl) fun v2 z1 hz1=>q_p fr<|Ad 0 ⟨v2,rfl,rfl⟩)<|Ad 0 ⟨v1,rfl,rfl⟩
    ·rintro s3 _ _ ⟨v4,rfl,rfl⟩
     exact q_p fr<|Ad 0 ⟨v4,rfl,rfl⟩
    ·rintro i1 s3 _ _ ⟨v5,rfl,rfl⟩
     exact Ap 0 ⟨v5,rfl,rfl⟩
    ·rintro s3 _ _ ⟨v6,rfl,rfl⟩
     exact Am 0 ⟨v6,rfl,rfl⟩
   ·exact Ap 0 ⟨v1,rfl,rfl⟩
  ·rintro i2 s4 _ _ ⟨v7,rfl,rfl⟩
   exact q_n (Ak (Ij 0 rfl) rfl)<|Au
  ·rintro s4 _ _ ⟨v8,rfl,rfl⟩
   exact Ak (A3 (α:=Str) (l0:=false) (fl:=true) (xs:=[])) rfl
def JU (a0:Str) (s1:Bool×Int):Option (LO (Bool×Int)):=bif decide (s1.2 < (a0.length:Int)) then ( ( (Ar a0 s1.2).bind fun c1=>bif decide ((c1.toNat:Int) < 97) then (Ar a0 s1.2).bind fun c5=>bif decide ((c5.toNat:Int) < 48) then some (LO.norm true) else (Ar a0 s1.2).bind fun c6=>some (LO.norm (decide ((c6.toNat:Int) > 57))) else (Ar a0 s1.2).bind fun c2=>bif decide ((c2.toNat:Int) > 122) then (Ar a0 s1.2).bind fun c3=>bif decide ((c3.toNat:Int) < 48) then some (LO.norm true) else (Ar a0 s1.2).bind fun c4=>some (LO.norm (decide ((c4.toNat:Int) > 57))) else some (LO.norm false)).bind (Ah (fun s4=>bif s4 then some (LO.ret false) else some (LO.norm s1.1)) (fun i1 s4=>if i1 = 1 then some (LO.norm s1.1) else some (LO.exit i1 s1.1)) (fun s4=>some (LO.ret s1.1)))).bind (Ah (fun s5=>some (LO.norm (s5,wi .i64 (s1.2 + 1)))) (fun i2 s5=>some (LO.exit i2 (s5,s1.2))) (fun s5=>some (LO.ret (s5,s1.2)))) else some (LO.exit 0 (s1.1,s1.2))
def OP (a0:Str):Option (Bool):=(Az (JU a0) NN (false,0)).bind (Ah (fun _=>none) (fun i3 s6=>if i3 = 0 then some (Dk (a0.length:Int) 1 8) else none) (fun s6=>some s6.1))
theorem w199 {d:Nat} (hd:2≤d) (a0:Str):Fit (R NN d 199 [Cc a0] []) (OP a0) PB:=by
  obtain ⟨d,rfl,g⟩:=up hd
  refine A8 (t199 NN d _) ?_
  unfold lI OP
  refine BZ (A:=fun (s:Bool×Int)=>[.bool s.1,iW s.2]) (B:=fun s=>[]) 0 rr ?_ ?_ ?_
  ·intro s1
   unfold UV JU
   refine F9<|q_p fr<|q_i ?_ ?_
   ·refine AU (A:=fun (s:Bool)=>[.bool s]) (B:=fun s=>[]) ?_ ?_ ?_ ?_
    ·refine AU (A:=fun (s:Bool)=>[.bool s]) (B:=fun s=>[]) ?_ ?_ ?_ ?_
     ·exact Iz fun c1 hc1=>q_p fr<|q_j (Iz fun c5 hc5=>q_p fr<|q_j (Ad 0 rr)<|Iz fun c6 hc6=>q_p fr<|Ad 0 rr)<|Iz fun c2 hc2=>q_p fr<|q_k (Iz fun c3 hc3=>q_p fr<|q_j (Ad 0 rr)<|Iz fun c4 hc4=>q_p fr<|Ad 0 rr)<|Ad 0 rr
     ·exact fun s4=>q_i (Am 0 rr)<|Ad 0 rr
     ·exact fun i1 s4=>q_n (Ad 0 rr)<|Ap 0 rr
     ·exact fun s4=>Am 0 rr
    ·exact fun s5=>q_p fr<|Ad 0 rr
    ·exact fun i2 s5=>Ap 0 rr
    ·exact fun s5=>Am 0 rr
   ·exact Ap 0 rr
  ·exact fun i3 s6=>q_n (F9<|AA (aF3 (Ae rfl) (Ae rfl) (Ae rfl) fun l0_ l1_ l2_=>Fj (by omega) (a0.length:Int) 1 8)<|Ak (Ae rfl) rfl)<|Au
  ·exact fun s6=>Ak (Ae rfl) rfl
def Hz (y1:(List Str)) (s3:(List Str)×Bool×Int):Option (LO ((List Str)×Bool×Int)):=bif decide (s3.2.2 < (y1.length:Int)) then (Ar y1 s3.2.2).bind fun x2=>(OP x2).bind fun y2=>bif !y2 then some (LO.ret ([],false,s3.2.2)) else some (LO.norm (s3.1,s3.2.1,wi .i64 (s3.2.2 + 1))) else some (LO.exit 0 (s3.1,s3.2.1,s3.2.2))
def W1 (a0:Str):Option ((List Str)×Bool):=bif a0 == ([47]:Str) then some ([],true) else (TN a0 47).bind fun y1=>( bif decide ((y1.length:Int) < 2) then some (LO.ret ([],false)) else (Ar y1 0).bind fun x1=>bif !(x1 == ([]:Str)) then some (LO.ret ([],false)) else some (LO.norm ([],false))).bind (Ah (fun s2=>(Az (Hz y1) NN (s2.1,s2.2,1)).bind (Ah (fun _=>none) (fun i2 s4=>if i2 = 0 then (D6 y1 1 (y1.length:Int)).bind fun ys1=>some (ys1,true) else none) (fun s4=>some (s4.1,s4.2.1)))) (fun i1 s2=>none) (fun s2=>some (s2.1,s2.2)))
theorem w185 {d:Nat} (hd:3≤d) (a0:Str):Fit (R NN d 185 [Cc a0] []) (W1 a0) (P0 (fun (t:(List Str)×Bool)=>AV.tup [.rsl false false (t.1.map (Enc.cs false)),.bool t.2])):=by
  obtain ⟨d,rfl,g⟩:=up hd
  refine A8 (t185 NN d _) ?_
  unfold lN W1
  refine q_p (fun _=>NB)<|q_i ?_ ?_
  ·exact q_q (fun _=>R7)<|Ak (He (Ab (A3 (α:=Str) (l0:=false) (fl:=true) (xs:=[])) (Ab (Ae rfl) Ao))) rfl
  ·refine A5 (aF2 (Ae rfl) (Ae rfl) fun l0_ l1_=>fZ (by omega) a0 47) fun y1 hy1=>DF (I:=(fun (s:(List Str)×Bool) l L=>∃ (fl1:Bool),l = [.rsl false fl1 (s.1.map (Enc.cs false)),.bool s.2]∧L = [])) ?_ ?_ ?_ ?_
   ·refine A7<|q_p fr<|q_j ?_ ?_
    ·first | refine BH ?_ | skip
     exact Am 0 ⟨true,rfl,rfl⟩
    ·exact Ba rfl fun x1 hx1=>q_p fr<|q_p (fun _=>Is)<|q_i (Am 0 ⟨true,rfl,rfl⟩)<|Ad 0 ⟨true,rfl,rfl⟩
   ·rintro s2 _ _ ⟨fl1,rfl,rfl⟩
    refine BW (I:=(fun (s:(List Str)×Bool×Int) l L=>∃ (fl2:Bool),l = [.rsl false fl2 (s.1.map (Enc.cs false)),.bool s.2.1,iW s.2.2]∧L = [])) 0 ⟨fl1,rfl,rfl⟩ ?_ ?_ ?_
    ·rintro s3 _ _ ⟨fl2,rfl,rfl⟩
     unfold UY Hz
     exact A7<|q_p fr<|q_i (Ba rfl fun x2 hx2=>q_p fr<|A5 (aF1 (Ae rfl) fun l0_=>w199 (by omega) x2) fun y2 hy2=>q_p fr<|q_i (Am 0 ⟨true,rfl,rfl⟩)<|q_p fr<|Ad 0 ⟨fl2,rfl,rfl⟩)<|Ap 0 ⟨fl2,rfl,rfl⟩
    ·rintro i2 s4 _ _ ⟨fl3,rfl,rfl⟩
     exact q_n (MO rfl (.inl rfl) (.inr ⟨rfl,rfl⟩) fun fl4 ys1 hys1=>Ak (He (Ab A3 (Ab (Ae rfl) Ao))) rfl)<|Au
    ·rintro s4 _ _ ⟨fl5,rfl,rfl⟩
     exact Ak (He (Ab A3 (Ab (Ae rfl) Ao))) rfl
   ·rintro i1 s2 _ _ ⟨fl6,rfl,rfl⟩
    exact Au
   ·rintro s2 _ _ ⟨fl7,rfl,rfl⟩
    exact Ak (He (Ab A3 (Ab (Ae rfl) Ao))) rfl
def TS (a0:Str):Option (Int):=( ( bif decide ((a0.length:Int) > 24) then some (LO.norm true) else bif !(a0 == ([47]:Str)) then (TN a0 47).bind fun y1=>some (LO.norm (decide ((y1.length:Int) > 5))) else some (LO.norm false)).bind (Ah (fun s3=>bif s3 then some (LO.ret 2) else some (LO.norm 0)) (fun i1 s3=>some (LO.exit i1 0)) (fun s3=>some (LO.ret 0)))).bind (Ah (fun s4=>(W1 a0).bind fun y2=>bif !y2.2 then some 5 else some 0) (fun i2 s4=>none) (fun s4=>some s4))
theorem w155 {d:Nat} (hd:4≤d) (a0:Str):Fit (R NN d 155 [Cc a0] []) (TS a0) PI:=by
  obtain ⟨d,rfl,g⟩:=up hd
  refine A8 (t155 NN d _) ?_
  unfold mF TS
  refine AU (A:=fun (s:Int)=>[iW s]) (B:=fun s=>[]) ?_ ?_ ?_ ?_
  ·refine AU (A:=fun (s:Bool)=>[.bool s]) (B:=fun s=>[]) ?_ ?_ ?_ ?_
   ·exact F9<|q_p fr<|q_j (Ad 0 rr)<|q_p (fun _=>Is)<|q_k (A5 (aF2 (Ae rfl) (Ae rfl) fun l0_ l1_=>fZ (by omega) a0 47) fun y1 hy1=>A7<|q_p fr<|Ad 0 rr)<|Ad 0 rr
   ·exact fun s3=>q_i (Am 0 rr)<|Ad 0 rr
   ·exact fun i1 s3=>Ap 0 rr
   ·exact fun s3=>Am 0 rr
  ·exact fun s4=>A5 (aF1 (Ae rfl) fun l0_=>w185 (by omega) a0) fun y2 hy2=>q_q fr<|q_q fr<|q_p fr<|q_i (Ak (Ae rfl) rfl)<|Ak (Ae rfl) rfl
  ·exact fun i2 s4=>Au
  ·exact fun s4=>Ak (Ae rfl) rfl
def TR (a0:Int):Bool:=(Dk a0 0 9999)
theorem w156 {d:Nat} (hd:2≤d) (a0:Int):Fit (R NN d 156 [iW a0] []) (some (TR a0)) PB:=by
  obtain ⟨d,rfl,g⟩:=up hd
  refine A8 (t156 NN d _) ?_
  unfold mE TR
  exact AA (aF3 (Ae rfl) (Ae rfl) (Ae rfl) fun l0_ l1_ l2_=>Fj (by omega) a0 0 9999)<|Ak (Ae rfl) rfl
def NQ (a0:TOp):Option (Int):=bif !(Dk a0.Kind 1 8) then some 1 else ( ( bif !(JL a0.Kind) then bif !(a0.Path == ([]:Str)) then some (LO.norm true) else bif !(JK a0.Kind) then bif a0.Data != 0 then some (LO.norm true) else (II a0.Kind).bind fun y1=>bif !y1 then bif a0.Version != 0 then some (LO.norm true) else bif a0.Kind != 3 then bif a0.Seq then some (LO.norm true) else some (LO.norm a0.Own) else some (LO.norm false) else bif a0.Kind != 3 then bif a0.Seq then some (LO.norm true) else some (LO.norm a0.Own) else some (LO.norm false) else (II a0.Kind).bind fun y2=>bif !y2 then bif a0.Version != 0 then some (LO.norm true) else bif a0.Kind != 3 then bif a0.Seq then some (LO.norm true) else some (LO.norm a0.Own) else some (LO.norm false) else bif a0.Kind != 3 then bif a0.Seq then some (LO.norm true) else some (LO.norm a0.Own) else some (LO.norm false) else bif !(JK a0.Kind) then bif a0.Data != 0 then some (LO.norm true) else (II a0.Kind).bind fun y3=>bif !y3 then bif a0.Version != 0 then some (LO.norm true) else bif a0.Kind != 3 then bif a0.Seq then some (LO.norm true) else some (LO.norm a0.Own) else some (LO.norm false) else bif a0.Kind != 3 then bif a0.Seq then some (LO.norm true) else some (LO.norm a0.Own) else some (LO.norm false) else (II a0.Kind).bind fun y4=>bif !y4 then bif a0.Version != 0 then some (LO.norm true) else bif a0.Kind != 3 then bif a0.Seq then some (LO.norm true) else some (LO.norm a0.Own) else some (LO.norm false) else bif a0.Kind != 3 then bif a0.Seq then some (LO.norm true) else some (LO.norm a0.Own) else some (LO.norm false)).bind (Ah (fun s3=>bif s3 then some (LO.ret 1) else some (LO.norm 0)) (fun i1 s3=>some (LO.exit i1 0)) (fun s3=>some (LO.ret 0)))).bind (Ah (fun s4=>( bif (JL a0.Kind) then (TS a0.Path).bind fun y5=>bif y5 != 0 then some (LO.ret y5) else some (LO.norm s4) else some (LO.norm s4)).bind (Ah (fun s6=>( bif !(TR a0.Data) then some (LO.ret 3) else bif !(Dk a0.Version (-1) 999) then some (LO.ret 3) else some (LO.norm s6)).bind (Ah (fun s8=>some 0) (fun i4 s8=>none) (fun s8=>some s8))) (fun i3 s6=>none) (fun s6=>some s6))) (fun i2 s4=>none) (fun s4=>some s4))
theorem w115 {d:Nat} (hd:5≤d) (k0:Bool) (a0:TOp):Fit (R NN d 115 [.rp k0 (Enc.cs k0 a0)] []) (NQ a0) PI:=by
  obtain ⟨d,rfl,g⟩:=up hd
  refine A8 (t115 NN d _) ?_
  unfold nQ NQ
  refine q_q fr<|q_p fr<|q_p fr<|AA (aF3 (Ae rfl) (Ae rfl) (Ae rfl) fun l0_ l1_ l2_=>Fj (by omega) a0.Kind 1 8)<|q_p fr<|q_i ?_ ?_
  ·exact Ak (Ae rfl) rfl
  ·refine AU (A:=fun (s:Int)=>[iW s]) (B:=fun s=>[]) ?_ ?_ ?_ ?_
   ·refine AU (A:=fun (s:Bool)=>[.bool s]) (B:=fun s=>[]) ?_ ?_ ?_ ?_
    ·exact q_q fr<|q_p fr<|q_p fr<|AA (aF1 (Ae rfl) fun l0_=>gF (by omega) a0.Kind)<|q_p fr<|q_k (q_q fr<|q_p fr<|q_p fr<|q_p (fun _=>Is)<|q_j (Ad 0 rr)<|q_q fr<|q_p fr<|q_p fr<|AA (aF1 (Ae rfl) fun l0_=>gD (by omega) a0.Kind)<|q_p fr<|q_k (q_q fr<|q_p fr<|q_p fr<|q_p fr<|q_j (Ad 0 rr)<|q_q fr<|q_p fr<|q_p fr<|A5 (aF1 (Ae rfl) fun l0_=>Yu (by omega) a0.Kind) fun y1 hy1=>q_p fr<|q_k (q_q fr<|q_p fr<|q_p fr<|q_p fr<|q_j (Ad 0 rr)<|q_q fr<|q_p fr<|q_p fr<|q_p fr<|q_k (q_q fr<|q_p fr<|q_p fr<|q_j (Ad 0 rr)<|q_q fr<|q_p fr<|q_p fr<|Ad 0 rr)<|Ad 0 rr)<|q_q fr<|q_p fr<|q_p fr<|q_p fr<|q_k (q_q fr<|q_p fr<|q_p fr<|q_j (Ad 0 rr)<|q_q fr<|q_p fr<|q_p fr<|Ad 0 rr)<|Ad 0 rr)<|q_q fr<|q_p fr<|q_p fr<|A5 (aF1 (Ae rfl) fun l0_=>Yu (by omega) a0.Kind) fun y2 hy2=>q_p fr<|q_k (q_q fr<|q_p fr<|q_p fr<|q_p fr<|q_j (Ad 0 rr)<|q_q fr<|q_p fr<|q_p fr<|q_p fr<|q_k (q_q fr<|q_p fr<|q_p fr<|q_j (Ad 0 rr)<|q_q fr<|q_p fr<|q_p fr<|Ad 0 rr)<|Ad 0 rr)<|q_q fr<|q_p fr<|q_p fr<|q_p fr<|q_k (q_q fr<|q_p fr<|q_p fr<|q_j (Ad 0 rr)<|q_q fr<|q_p fr<|q_p fr<|Ad 0 rr)<|Ad 0 rr)<|q_q fr<|q_p fr<|q_p fr<|AA (aF1 (Ae rfl) fun l0_=>gD (by omega) a0.Kind)<|q_p fr<|q_k (q_q fr<|q_p fr<|q_p fr<|q_p fr<|q_j (Ad 0 rr)<|q_q fr<|q_p fr<|q_p fr<|A5 (aF1 (Ae rfl) fun l0_=>Yu (by omega) a0.Kind) fun y3 hy3=>q_p fr<|q_k (q_q fr<|q_p fr<|q_p fr<|q_p fr<|q_j (Ad 0 rr)<|q_q fr<|q_p fr<|q_p fr<|q_p fr<|q_k (q_q fr<|q_p fr<|q_p fr<|q_j (Ad 0 rr)<|q_q fr<|q_p fr<|q_p fr<|Ad 0 rr)<|Ad 0 rr)<|q_q fr<|q_p fr<|q_p fr<|q_p fr<|q_k (q_q fr<|q_p fr<|q_p fr<|q_j (Ad 0 rr)<|q_q fr<|q_p fr<|q_p fr<|Ad 0 rr)<|Ad 0 rr)<|q_q fr<|q_p fr<|q_p fr<|A5 (aF1 (Ae rfl) fun l0_=>Yu (by omega) a0.Kind) fun y4 hy4=>q_p fr<|q_k (q_q fr<|q_p fr<|q_p fr<|q_p fr<|q_j (Ad 0 rr)<|q_q fr<|q_p fr<|q_p fr<|q_p fr<|q_k (q_q fr<|q_p fr<|q_p fr<|q_j (Ad 0 rr)<|q_q fr<|q_p fr<|q_p fr<|Ad 0 rr)<|Ad 0 rr)<|q_q fr<|q_p fr<|q_p fr<|q_p fr<|q_k (q_q fr<|q_p fr<|q_p fr<|q_j (Ad 0 rr)<|q_q fr<|q_p fr<|q_p fr<|Ad 0 rr)<|Ad 0 rr
    ·exact fun s3=>q_i (Am 0 rr)<|Ad 0 rr
    ·exact fun i1 s3=>Ap 0 rr
    ·exact fun s3=>Am 0 rr
   ·intro s4
    refine AU (A:=fun (s:Int)=>[iW s]) (B:=fun s=>[]) ?_ ?_ ?_ ?_
    ·exact q_q fr<|q_p fr<|q_p fr<|AA (aF1 (Ae rfl) fun l0_=>gF (by omega) a0.Kind)<|q_i (q_q fr<|q_p fr<|q_p fr<|A5 (aF1 (Ae rfl) fun l0_=>w155 (by omega) a0.Path) fun y5 hy5=>q_p fr<|q_i (Am 0 rr)<|Ad 0 rr)<|Ad 0 rr
    ·intro s6
     refine AU (A:=fun (s:Int)=>[iW s]) (B:=fun s=>[]) ?_ ?_ ?_ ?_
     ·refine q_q fr<|q_p fr<|q_p fr<|AA (aF1 (Ae rfl) fun l0_=>w156 (by omega) a0.Data)<|q_p fr<|q_j ?_ ?_
      ·first | refine BH ?_ | skip
       exact Am 0 rr
      ·exact q_q fr<|q_p fr<|q_p fr<|AA (aF3 (Ae rfl) (Ae rfl) (Ae rfl) fun l0_ l1_ l2_=>Fj (by omega) a0.Version (-1) 999)<|q_p fr<|q_i (Am 0 rr)<|Ad 0 rr
     ·exact fun s8=>Ak (Ae rfl) rfl
     ·exact fun i4 s8=>Au
     ·exact fun s8=>Ak (Ae rfl) rfl
    ·exact fun i3 s6=>Au
    ·exact fun s6=>Ak (Ae rfl) rfl
   ·exact fun i2 s4=>Au
   ·exact fun s4=>Ak (Ae rfl) rfl
def GR (a0:Ag) (s7:Int×Int):Option (LO (Int×Int)):=bif decide (s7.2 < (a0.Ops.length:Int)) then (Ar a0.Ops s7.2).bind fun x1=>(NQ x1).bind fun y1=>bif y1 != 0 then some (LO.ret (y1,s7.2)) else some (LO.norm (s7.1,wi .i64 (s7.2 + 1))) else some (LO.exit 0 (s7.1,s7.2))
def Gq (a0:Ag) (s9:Int×Int):Option (LO (Int×Int)):=( ( bif decide (s9.2 < (a0.Ops.length:Int)) then some (LO.norm (decide ((a0.Ops.length:Int) > 1))) else some (LO.norm false)).bind (Ah (fun s12=>bif s12 then some (LO.norm s12) else some (LO.exit 2 s12)) (fun i5 s12=>some (LO.exit i5 s12)) (fun s12=>some (LO.ret s12)))).bind (Ah (fun s13=>(Ar a0.Ops s9.2).bind fun x2=>bif decide (x2.Kind≤2) then some (LO.ret (1,s9.2)) else some (LO.norm (s9.1,wi .i64 (s9.2 + 1)))) (fun i6 s13=>some (LO.exit i6 (s9.1,s9.2))) (fun s13=>some (LO.ret (s9.1,s9.2))))
def m68 (a0:Ag):Option (Int):=( ( bif !(YT a0.Client) then some (LO.norm true) else bif !(Dk a0.Number 1 99) then some (LO.norm true) else some (LO.norm (!(YS a0.Time)))).bind (Ah (fun s3=>bif s3 then some (LO.ret 3) else some (LO.norm 0)) (fun i1 s3=>some (LO.exit i1 0)) (fun s3=>some (LO.ret 0)))).bind (Ah (fun s4=>( bif decide ((a0.Ops.length:Int) < 1) then some (LO.ret 2) else bif decide ((a0.Ops.length:Int) > 3) then some (LO.ret 2) else some (LO.norm s4)).bind (Ah (fun s6=>(Az (GR a0) NN (s6,0)).bind (Ah (fun _=>none) (fun i4 s8=>if i4 = 0 then (Az (Gq a0) NN (s8.1,0)).bind (Ah (fun _=>none) (fun i7 s14=>if i7 = 2 then some 0 else none) (fun s14=>some s14.1)) else none) (fun s8=>some s8.1))) (fun i3 s6=>none) (fun s6=>some s6))) (fun i2 s4=>none) (fun s4=>some s4))
theorem w68 {d:Nat} (hd:6≤d) (k0:Bool) (a0:Ag):Fit (R NN d 68 [.rp k0 (Enc.cs k0 a0)] []) (m68 a0) PI:=by
  obtain ⟨d,rfl,g⟩:=up hd
  refine A8 (t68 NN d _) ?_
  unfold b68 m68
  refine AU (A:=fun (s:Int)=>[iW s]) (B:=fun s=>[]) ?_ ?_ ?_ ?_
  ·refine AU (A:=fun (s:Bool)=>[.bool s]) (B:=fun s=>[]) ?_ ?_ ?_ ?_
   ·exact q_q fr<|q_p fr<|q_p fr<|AA (aF1 (Ae rfl) fun l0_=>w112 (by omega) a0.Client)<|q_p fr<|q_j (Ad 0 rr)<|q_q fr<|q_p fr<|q_p fr<|AA (aF3 (Ae rfl) (Ae rfl) (Ae rfl) fun l0_ l1_ l2_=>Fj (by omega) a0.Number 1 99)<|q_p fr<|q_j (Ad 0 rr)<|q_q fr<|q_p fr<|q_p fr<|AA (aF1 (Ae rfl) fun l0_=>w114 (by omega) a0.Time)<|q_p fr<|Ad 0 rr
   ·exact fun s3=>q_i (Am 0 rr)<|Ad 0 rr
   ·exact fun i1 s3=>Ap 0 rr
   ·exact fun s3=>Am 0 rr
  ·intro s4
   refine AU (A:=fun (s:Int)=>[iW s]) (B:=fun s=>[]) ?_ ?_ ?_ ?_
   ·refine q_q fr<|q_p fr<|q_p fr<|A7<|q_p fr<|q_j ?_ ?_
    ·first | refine BH ?_ | skip
     exact Am 0 rr
    ·exact q_q fr<|q_p fr<|q_p fr<|A7<|q_p fr<|q_i (Am 0 rr)<|Ad 0 rr
   ·intro s6
    refine BZ (A:=fun (s:Int×Int)=>[iW s.1,iW s.2]) (B:=fun s=>[]) 0 rr ?_ ?_ ?_
    ·intro s7
     unfold ZT GR
     exact q_q fr<|q_p fr<|q_p fr<|A7<|q_p fr<|q_i (q_q fr<|q_p fr<|q_p fr<|Ba rfl fun x1 hx1=>A5 (aF1 (AZ (Aq (l0:=k0) (x:=x1)) (fun _ _ _ h=>Enc.frz k0 x1 _ _ _ h)) fun l0_=>w115 (by omega) l0_ x1) fun y1 hy1=>q_p fr<|q_i (Am 0 rr)<|q_p fr<|Ad 0 rr)<|Ap 0 rr
    ·intro i4 s8
     refine q_n ?_ ?_
     ·refine BZ (A:=fun (s:Int×Int)=>[iW s.1,iW s.2]) (B:=fun s=>[]) 0 rr ?_ ?_ ?_
      ·intro s9
       unfold ZS Gq
       refine AU (A:=fun (s:Bool)=>[.bool s]) (B:=fun s=>[]) ?_ ?_ ?_ ?_
       ·refine AU (A:=fun (s:Bool)=>[.bool s]) (B:=fun s=>[]) ?_ ?_ ?_ ?_
        ·exact q_q fr<|q_p fr<|q_p fr<|A7<|q_p fr<|q_k (q_q fr<|q_p fr<|q_p fr<|A7<|q_p fr<|Ad 0 rr)<|Ad 0 rr
        ·exact fun s12=>q_i (Ad 0 rr)<|Ap 0 rr
        ·exact fun i5 s12=>Ap 0 rr
        ·exact fun s12=>Am 0 rr
       ·exact fun s13=>q_q fr<|q_p fr<|q_p fr<|Ba rfl fun x2 hx2=>q_p fr<|q_p fr<|q_p fr<|q_i (Am 0 rr)<|q_p fr<|Ad 0 rr
       ·exact fun i6 s13=>Ap 0 rr
       ·exact fun s13=>Am 0 rr
      ·exact fun i7 s14=>q_n (Ak (Ae rfl) rfl)<|Au
      ·exact fun s14=>Ak (Ae rfl) rfl
     ·exact Au
    ·exact fun s8=>Ak (Ae rfl) rfl
   ·exact fun i3 s6=>Au
   ·exact fun s6=>Ak (Ae rfl) rfl
  ·exact fun i2 s4=>Au
  ·exact fun s4=>Ak (Ae rfl) rfl
def Jj (a0:List Ag) (a1:Int) (a2:Int) (s1:Int×Int):Option (LO (Int×Int)):=bif decide (s1.2 < (a0.length:Int)) then ( (Ar a0 s1.2).bind fun x1=>bif x1.Client == a1 then (Ar a0 s1.2).bind fun x2=>bif x2.Number == a2 then some (LO.ret s1.2) else some (LO.norm s1.1) else some (LO.norm s1.1)).bind (Ah (fun s3=>some (LO.norm (s3,wi .i64 (s1.2 + 1)))) (fun i1 s3=>some (LO.exit i1 (s3,s1.2))) (fun s3=>some (LO.ret (s3,s1.2)))) else some (LO.exit 0 (s1.1,s1.2))
def m69 (a0:List Ag) (a1:Int) (a2:Int):Option (Int):=(Az (Jj a0 a1 a2) NN (0,0)).bind (Ah (fun _=>none) (fun i2 s4=>if i2 = 0 then some (-1) else none) (fun s4=>some s4.1))
theorem w69 {d:Nat} (hd:1≤d) (k0:Bool) (a0:List Ag) (a1:Int) (a2:Int):Fit (R NN d 69 [.rsl k0 false (a0.map (Enc.cs k0)),iW a1,iW a2] []) (m69 a0 a1 a2) PI:=by
  obtain ⟨d,rfl,g⟩:=up hd
  refine A8 (t69 NN d _ _ _) ?_
  unfold b69 m69
  refine BZ (A:=fun (s:Int×Int)=>[iW s.1,iW s.2]) (B:=fun s=>[]) 0 rr ?_ ?_ ?_
  ·intro s1
   unfold ZR Jj
   refine A7<|q_p fr<|q_i ?_ ?_
   ·refine AU (A:=fun (s:Int)=>[iW s]) (B:=fun s=>[]) ?_ ?_ ?_ ?_
    ·refine Ba rfl fun x1 hx1=>q_p fr<|q_p fr<|q_p fr<|q_k ?_ ?_
     ·exact Ba rfl fun x2 hx2=>q_p fr<|q_p fr<|q_p fr<|q_i (Am 0 rr)<|Ad 0 rr
     ·first | refine CG ?_ | skip
      exact Ad 0 rr
    ·exact fun s3=>q_p fr<|Ad 0 rr
    ·exact fun i1 s3=>Ap 0 rr
    ·exact fun s3=>Am 0 rr
   ·exact Ap 0 rr
  ·exact fun i2 s4=>q_n (Ak (Ae rfl) rfl)<|Au
  ·exact fun s4=>Ak (Ae rfl) rfl
def HW (a0:Aa) (s1:Int×Int):Option (LO (Int×Int)):=bif decide (s1.2 < (a0.Requests.length:Int)) then (Ar a0.Requests s1.2).bind fun x1=>(m68 x1).bind fun y4=>bif y4 != 0 then some (LO.ret (y4,s1.2)) else (Ar a0.Requests s1.2).bind fun x2=>(Ar a0.Requests s1.2).bind fun x3=>(m69 a0.Requests x2.Client x3.Number).bind fun y5=>bif y5 != s1.2 then some (LO.ret (6,s1.2)) else some (LO.norm (s1.1,wi .i64 (s1.2 + 1))) else some (LO.exit 0 (s1.1,s1.2))
def m28 (a0:Aa):Option (Int):=(m65 a0.F a0.Ledger).bind fun y1=>bif y1 != 0 then some y1 else bif decide ((a0.Requests.length:Int) > 12) then some 2 else (m66 a0.F a0.Bad).bind fun y2=>bif y2 != 0 then some y2 else (m67 a0).bind fun y3=>bif y3 != 0 then some y3 else (Az (HW a0) NN (0,0)).bind (Ah (fun _=>none) (fun i1 s2=>if i1 = 0 then some 0 else none) (fun s2=>some s2.1))
theorem w28 {d:Nat} (hd:10≤d) (k0:Bool) (a0:Aa):Fit (R NN d 28 [.rp k0 (Enc.cs k0 a0)] []) (m28 a0) PI:=by
  obtain ⟨d,rfl,g⟩:=up hd
  refine A8 (t28 NN d _) ?_
  unfold b28 m28
  refine q_q fr<|q_p fr<|q_p fr<|q_q fr<|q_p fr<|q_p fr<|A5 (aF2 (Ae rfl) A3 fun l0_ l1_=>w65 (by omega) a0.F l1_ a0.Ledger) fun y1 hy1=>q_p fr<|q_i ?_ ?_
  ·exact Ak (Ae rfl) rfl
  ·refine q_q fr<|q_p fr<|q_p fr<|A7<|q_p fr<|q_i ?_ ?_
   ·exact Ak (Ae rfl) rfl
   ·refine q_q fr<|q_p fr<|q_p fr<|q_q fr<|q_p fr<|q_p fr<|A5 (aF2 (Ae rfl) A3 fun l0_ l1_=>w66 (by omega) a0.F l1_ a0.Bad) fun y2 hy2=>q_p fr<|q_i ?_ ?_
    ·exact Ak (Ae rfl) rfl
    ·refine A5 (aF1 (AZ (Aq (l0:=k0) (x:=a0)) (fun _ _ _ h=>Enc.frz k0 a0 _ _ _ h)) fun l0_=>w67 (by omega) l0_ a0) fun y3 hy3=>q_p fr<|q_i ?_ ?_
     ·exact Ak (Ae rfl) rfl
     ·refine BZ (A:=fun (s:Int×Int)=>[iW s.1,iW s.2]) (B:=fun s=>[]) 0 rr ?_ ?_ ?_
      ·intro s1
       unfold aL HW
       exact q_q fr<|q_p fr<|q_p fr<|A7<|q_p fr<|q_i (q_q fr<|q_p fr<|q_p fr<|Ba rfl fun x1 hx1=>A5 (aF1 (AZ (Aq (l0:=k0) (x:=x1)) (fun _ _ _ h=>Enc.frz k0 x1 _ _ _ h)) fun l0_=>w68 (by omega) l0_ x1) fun y4 hy4=>q_p fr<|q_i (Am 0 rr)<|q_q fr<|q_p fr<|q_p fr<|q_q fr<|q_p fr<|q_p fr<|Ba rfl fun x2 hx2=>q_p fr<|q_p fr<|q_q fr<|q_p fr<|q_p fr<|Ba rfl fun x3 hx3=>q_p fr<|q_p fr<|A5 (aF3 A3 (Ae rfl) (Ae rfl) fun l0_ l1_ l2_=>w69 (by omega) l0_ a0.Requests x2.Client x3.Number) fun y5 hy5=>q_p fr<|q_i (Am 0 rr)<|q_p fr<|Ad 0 rr)<|Ap 0 rr
      ·exact fun i1 s2=>q_n (Ak (Ae rfl) rfl)<|Au
      ·exact fun s2=>Ak (Ae rfl) rfl
def J7 (a0:Aa) (s1:Bool×Int) (x1:Ai) (s5:Bool×Int):Option (LO (Bool×Int)):=( ( bif decide (s5.2 < s1.2) then some (LO.norm (decide (x1.Kind≤3))) else some (LO.norm false)).bind (Ah (fun s8=>bif s8 then some (LO.norm s8) else some (LO.exit 2 s8)) (fun i2 s8=>some (LO.exit i2 s8)) (fun s8=>some (LO.ret s8)))).bind (Ah (fun s9=>( (Ar a0.Ledger s5.2).bind fun x2=>( bif x2.Kind == x1.Kind then bif x2.From == x1.From then bif x2.View == x1.View then some (LO.norm (x2.Slot == x1.Slot)) else some (LO.norm false) else some (LO.norm false) else some (LO.norm false)).bind (Ah (fun s12=>bif s12 then some (LO.ret false) else some (LO.norm s5.1)) (fun i4 s12=>if i4 = 3 then some (LO.norm s5.1) else some (LO.exit i4 s5.1)) (fun s12=>some (LO.ret s5.1)))).bind (Ah (fun s13=>some (LO.norm (s13,wi .i64 (s5.2 + 1)))) (fun i5 s13=>some (LO.exit i5 (s13,s5.2))) (fun s13=>some (LO.ret (s13,s5.2))))) (fun i3 s9=>some (LO.exit i3 (s5.1,s5.2))) (fun s9=>some (LO.ret (s5.1,s5.2))))
def KL (a0:Aa) (s1:Bool×Int):Option (LO (Bool×Int)):=bif decide (s1.2 < (a0.Ledger.length:Int)) then ( (Ar a0.Ledger s1.2).bind fun x1=>(m29 a0.Bad x1.From).bind fun y2=>bif y2 then some (LO.norm s1.1) else ( bif x1.Kind == 4 then (m30 a0.F a0.Ledger s1.2).bind fun y3=>bif !y3 then some (LO.ret false) else some (LO.norm s1.1) else some (LO.norm s1.1)).bind (Ah (fun s4=>(Az (J7 a0 s1 x1) NN (s4,0)).bind (Ah (fun _=>none) (fun i6 s14=>if i6 = 2 then some (LO.norm s14.1) else if i6 = 1 then some (LO.norm s14.1) else some (LO.exit i6 s14.1)) (fun s14=>some (LO.ret s14.1)))) (fun i1 s4=>if i1 = 1 then some (LO.norm s4) else some (LO.exit i1 s4)) (fun s4=>some (LO.ret s4)))).bind (Ah (fun s15=>some (LO.norm (s15,wi .i64 (s1.2 + 1)))) (fun i7 s15=>some (LO.exit i7 (s15,s1.2))) (fun s15=>some (LO.ret (s15,s1.2)))) else some (LO.exit 0 (s1.1,s1.2))
def m8 (a0:Aa):Option (Bool):=(m28 a0).bind fun y1=>bif y1 != 0 then some false else (Az (KL a0) NN (false,0)).bind (Ah (fun _=>none) (fun i8 s16=>if i8 = 0 then some true else none) (fun s16=>some s16.1))
theorem w8 {d:Nat} (hd:11≤d) (k0:Bool) (a0:Aa):Fit (R NN d 8 [.agg (Enc.cs k0 a0)] []) (m8 a0) PB:=by
  obtain ⟨d,rfl,g⟩:=up hd
  refine A8 (t8 NN d _) ?_
  unfold b8 m8
  refine AC (n:=5) rfl rfl (by decide) fun b1=>A5 (aF1 (Bq 0 rfl (Ab (Ae rfl) (Ab A3 (Ab A3 (Ab A3 (Ab A3 Ao)))))) fun l0_=>w28 (by omega) l0_ a0) fun y1 hy1=>q_p fr<|q_i ?_ ?_
  ·exact Ak (Ae rfl) rfl
  ·refine BZ (A:=fun (s:Bool×Int)=>[.bool s.1,iW s.2]) (B:=fun s=>[bx b1 [iW a0.F,.rsl k0 false (a0.Bad.map (Enc.cs k0)),.rsl k0 false (a0.Replicas.map (Enc.cs k0)),.rsl k0 false (a0.Ledger.map (Enc.cs k0)),.rsl k0 false (a0.Requests.map (Enc.cs k0))]]) 0 rr ?_ ?_ ?_
   ·intro s1
    unfold iC KL
    refine q_p fr<|As 0 rfl rfl<|A7<|q_p fr<|q_i ?_ ?_
    ·refine AU (A:=fun (s:Bool)=>[.bool s]) (B:=fun s=>[bx b1 [iW a0.F,.rsl k0 false (a0.Bad.map (Enc.cs k0)),.rsl k0 false (a0.Replicas.map (Enc.cs k0)),.rsl k0 false (a0.Ledger.map (Enc.cs k0)),.rsl k0 false (a0.Requests.map (Enc.cs k0))]]) ?_ ?_ ?_ ?_
     ·refine q_p fr<|As 0 rfl rfl<|Ba rfl fun x1 hx1=>q_p fr<|As 0 rfl rfl<|q_q fr<|q_p fr<|q_p fr<|A5 (aF2 A3 (Ae rfl) fun l0_ l1_=>w29 (by omega) l0_ a0.Bad x1.From) fun y2 hy2=>q_i ?_ ?_
      ·exact Ad 0 rr
      ·refine AU (A:=fun (s:Bool)=>[.bool s]) (B:=fun s=>[bx b1 [iW a0.F,.rsl k0 false (a0.Bad.map (Enc.cs k0)),.rsl k0 false (a0.Replicas.map (Enc.cs k0)),.rsl k0 false (a0.Ledger.map (Enc.cs k0)),.rsl k0 false (a0.Requests.map (Enc.cs k0))]]) ?_ ?_ ?_ ?_
       ·refine q_q fr<|q_p fr<|q_p fr<|q_p fr<|q_k ?_ ?_
        ·exact q_p fr<|As 0 rfl rfl<|q_p fr<|As 0 rfl rfl<|A5 (aF3 (Ae rfl) A3 (Ae rfl) fun l0_ l1_ l2_=>w30 (by omega) a0.F l1_ a0.Ledger s1.2) fun y3 hy3=>q_p fr<|q_i (Am 0 rr)<|Ad 0 rr
        ·first | refine CG ?_ | skip
         exact Ad 0 rr
       ·intro s4
        refine BZ (A:=fun (s:Bool×Int)=>[.bool s.1,iW s.2]) (B:=fun s=>[bx b1 [iW a0.F,.rsl k0 false (a0.Bad.map (Enc.cs k0)),.rsl k0 false (a0.Replicas.map (Enc.cs k0)),.rsl k0 false (a0.Ledger.map (Enc.cs k0)),.rsl k0 false (a0.Requests.map (Enc.cs k0))]]) 0 rr ?_ ?_ ?_
        ·intro s5
         unfold iE J7
         refine AU (A:=fun (s:Bool)=>[.bool s]) (B:=fun s=>[bx b1 [iW a0.F,.rsl k0 false (a0.Bad.map (Enc.cs k0)),.rsl k0 false (a0.Replicas.map (Enc.cs k0)),.rsl k0 false (a0.Ledger.map (Enc.cs k0)),.rsl k0 false (a0.Requests.map (Enc.cs k0))]]) ?_ ?_ ?_ ?_
         ·refine AU (A:=fun (s:Bool)=>[.bool s]) (B:=fun s=>[bx b1 [iW a0.F,.rsl k0 false (a0.Bad.map (Enc.cs k0)),.rsl k0 false (a0.Replicas.map (Enc.cs k0)),.rsl k0 false (a0.Ledger.map (Enc.cs k0)),.rsl k0 false (a0.Requests.map (Enc.cs k0))]]) ?_ ?_ ?_ ?_
          ·exact q_p fr<|q_k (q_q fr<|q_p fr<|q_p fr<|q_p fr<|Ad 0 rr)<|Ad 0 rr
          ·exact fun s8=>q_i (Ad 0 rr)<|Ap 0 rr
          ·exact fun i2 s8=>Ap 0 rr
          ·exact fun s8=>Am 0 rr
         ·intro s9
          refine AU (A:=fun (s:Bool)=>[.bool s]) (B:=fun s=>[bx b1 [iW a0.F,.rsl k0 false (a0.Bad.map (Enc.cs k0)),.rsl k0 false (a0.Replicas.map (Enc.cs k0)),.rsl k0 false (a0.Ledger.map (Enc.cs k0)),.rsl k0 false (a0.Requests.map (Enc.cs k0))]]) ?_ ?_ ?_ ?_
          ·refine q_p fr<|As 0 rfl rfl<|Ba rfl fun x2 hx2=>AU (A:=fun (s:Bool)=>[.bool s]) (B:=fun s=>[bx b1 [iW a0.F,.rsl k0 false (a0.Bad.map (Enc.cs k0)),.rsl k0 false (a0.Replicas.map (Enc.cs k0)),.rsl k0 false (a0.Ledger.map (Enc.cs k0)),.rsl k0 false (a0.Requests.map (Enc.cs k0))]]) ?_ ?_ ?_ ?_
           ·exact q_q fr<|q_p fr<|q_p fr<|q_q fr<|q_p fr<|q_p fr<|q_p fr<|q_k (q_q fr<|q_p fr<|q_p fr<|q_q fr<|q_p fr<|q_p fr<|q_p fr<|q_k (q_q fr<|q_p fr<|q_p fr<|q_q fr<|q_p fr<|q_p fr<|q_p fr<|q_k (q_q fr<|q_p fr<|q_p fr<|q_q fr<|q_p fr<|q_p fr<|q_p fr<|Ad 0 rr)<|Ad 0 rr)<|Ad 0 rr)<|Ad 0 rr
           ·exact fun s12=>q_i (Am 0 rr)<|Ad 0 rr
           ·exact fun i4 s12=>q_n (Ad 0 rr)<|Ap 0 rr
           ·exact fun s12=>Am 0 rr
          ·exact fun s13=>q_p fr<|Ad 0 rr
          ·exact fun i5 s13=>Ap 0 rr
          ·exact fun s13=>Am 0 rr
         ·exact fun i3 s9=>Ap 0 rr
         ·exact fun s9=>Am 0 rr
        ·exact fun i6 s14=>q_n (Ad 0 rr)<|q_n (Ad 0 rr)<|Ap 0 rr
        ·exact fun s14=>Am 0 rr
       ·exact fun i1 s4=>q_n (Ad 0 rr)<|Ap 0 rr
       ·exact fun s4=>Am 0 rr
     ·exact fun s15=>q_p fr<|Ad 0 rr
     ·exact fun i7 s15=>Ap 0 rr
     ·exact fun s15=>Am 0 rr
    ·exact Ap 0 rr
   ·exact fun i8 s16=>q_n (Ak (Ae rfl) rfl)<|Au
   ·exact fun s16=>Ak (Ae rfl) rfl
def m3 (a0:List U8):Option (Bool):=bif (m5 a0) then some true else (m6 a0).bind fun y1=>( bif y1.2 then (m7 y1.1).bind fun y2=>bif y2 then (m8 y1.1).bind fun y3=>some (LO.norm y3) else some (LO.norm false) else some (LO.norm false)).bind (Ah (fun s2=>some s2) (fun i1 s2=>none) (fun s2=>some s2))
theorem w3 {d:Nat} (hd:442≤d) (k0:Bool) (a0:List U8):Fit (R NN d 3 [.rsl k0 false (a0.map (Enc.cs k0))] []) (m3 a0) PB:=by
  obtain ⟨d,rfl,g⟩:=up hd
  refine A8 (t3 NN d _) ?_
  unfold b3 m3
  refine AA (aF1 A3 fun l0_=>w5 (by omega) l0_ a0)<|q_i ?_ ?_
  ·exact Ak (Ae rfl) rfl
  ·refine A5 (aF1 A3 fun l0_=>w6 (by omega) l0_ a0) fun y1 hy1=>q_q fr<|q_q fr<|AT rfl fun b1=>AN 0 rfl rfl rfl (by decide) rfl<|AU (A:=fun (s:Bool)=>[.bool s]) (B:=fun s=>[bx b1 [iW y1.1.F,.rsl false false (y1.1.Bad.map (Enc.cs false)),.rsl false false (y1.1.Replicas.map (Enc.cs false)),.rsl false false (y1.1.Ledger.map (Enc.cs false)),.rsl false false (y1.1.Requests.map (Enc.cs false))]]) ?_ ?_ ?_ ?_
   ·exact q_k (AB 0 rfl rfl rfl<|A5 (aF1 (AS (Aq (l0:=false) (x:=y1.1))) fun l0_=>w7 (by omega) l0_ y1.1) fun y2 hy2=>q_k (AB 0 rfl rfl rfl<|A5 (aF1 (AS (Aq (l0:=false) (x:=y1.1))) fun l0_=>w8 (by omega) l0_ y1.1) fun y3 hy3=>Ad 0 rr)<|Ad 0 rr)<|Ad 0 rr
   ·exact fun s2=>Ak (Ae rfl) rfl
   ·exact fun i1 s2=>Au
   ·exact fun s2=>Ak (Ae rfl) rfl
end
end Go.Proofs.YtjlecnhninhmnaaGreatDoor
