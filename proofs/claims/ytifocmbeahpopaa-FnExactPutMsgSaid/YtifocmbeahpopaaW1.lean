/- Plain functions, and that the evaluator computes them. -/
import Derived.Test.YtifocmbeahpopaaT
import Derived.Test.YtifocmbeahpopaaRh6
import Derived.Test.YtifocmbeahpopaaRh10
import Derived.Test.YtifocmbeahpopaaRh14
namespace Go.Proofs.Ytifocmbeahpopaa
open Go Go.Rf
set_option linter.unusedVariables false
set_option linter.unusedSimpArgs false
noncomputable section
structure TCert where
  Slot:Int
  View:Int
  Value:Int
  deriving DecidableEq
instance:Enc TCert:=(Enc.of fun x:TCert=>(x.Slot,x.View,x.Value)).copy (fun l x=>[.int .i64 x.Slot,.int .i64 x.View,.int .i64 x.Value]) (fun _ _=>rfl) 3 0 rfl rfl
instance:Tr TCert:=Tr.of (fun x:TCert=>(x.Slot,x.View,x.Value)) (fun _ _=>rfl) rfl rfl
structure TMsg where
  Kind:Int
  View:Int
  From:Int
  Slot:Int
  Value:Int
  Certs:List TCert
  Refs:List Int
  deriving DecidableEq
instance:Enc TMsg:=(Enc.of fun x:TMsg=>(x.Kind,x.View,x.From,x.Slot,x.Value,x.Certs,x.Refs)).copy (fun l x=>[.int .i64 x.Kind,.int .i64 x.View,.int .i64 x.From,.int .i64 x.Slot,.int .i64 x.Value,.rsl l false (x.Certs.map (Enc.cs l)),.rsl l false (x.Refs.map (Enc.cs l))]) (fun _ _=>rfl) 7 1 rfl rfl
instance:Tr TMsg:=Tr.of (fun x:TMsg=>(x.Kind,x.View,x.From,x.Slot,x.Value,x.Certs,x.Refs)) (fun _ _=>rfl) rfl rfl
structure TLedgerResult where
  Code:Int
  Ledger:List TMsg
  deriving DecidableEq
instance:Enc TLedgerResult:=(Enc.of fun x:TLedgerResult=>(x.Code,x.Ledger)).copy (fun l x=>[.int .i64 x.Code,.rsl l false (x.Ledger.map (Enc.cs l))]) (fun _ _=>rfl) 2 2 rfl rfl
instance:Tr TLedgerResult:=Tr.of (fun x:TLedgerResult=>(x.Code,x.Ledger)) (fun _ _=>rfl) rfl rfl
theorem bd31_0_1 {x0 x1 r:AV} (hr:(afill (plc [(0,1),(1,1)]) [.int .i64 0,.rsl false true []] [(0,x0),(1,x1)]).map AV.agg = some r):abuild Try.prog 31 [(0,x0),(1,x1)] = some r:=Eq.trans (by kernel_rfl) hr
theorem bd31_0 {x0 r:AV} (hr:(afill (plc [(0,1),(1,1)]) [.int .i64 0,.rsl false true []] [(0,x0)]).map AV.agg = some r):abuild Try.prog 31 [(0,x0)] = some r:=Eq.trans (by kernel_rfl) hr
theorem bd31_1 {x1 r:AV} (hr:(afill (plc [(0,1),(1,1)]) [.int .i64 0,.rsl false true []] [(1,x1)]).map AV.agg = some r):abuild Try.prog 31 [(1,x1)] = some r:=Eq.trans (by kernel_rfl) hr
theorem qs24_0 {S:St}:quietS (abuildS Try.prog 24 0 [] S) S = some (.rsl false true [],S):=by kernel_rfl
theorem qs29_0 {S:St}:quietS (abuildS Try.prog 29 0 [] S) S = some (.rsl false true [],S):=by kernel_rfl
theorem qs34_0 {S:St}:quietS (abuildS Try.prog 34 0 [] S) S = some (.rsl false true [],S):=by kernel_rfl
theorem bs29_1 {x0 r:AV} {S:St} (hr:(aparts 7 0 [(0,x0)]).map (fun es=>mkS 7 es S) = some (r,S)):abuildS Try.prog 29 1 [(0,x0)] S = some (r,S):=Eq.trans (by kernel_rfl) hr
theorem bt29 {a:AV} {S:St}:abuildS Try.prog 29 1 [(0,a)] S = (aparts 7 0 [(0,a)]).map fun es=>mkS 7 es S:=by kernel_rfl
theorem cv65_66 (run:FuncId→List AV→St→Option (AV×St)) (cap args:List AV) (S:St):callV (cfg NN) run 65 (.fn 66 cap) args S = call0 run 66 (args++cap) S:=by kernel_rfl
theorem cv68_55 (run:FuncId→List AV→St→Option (AV×St)) (cap args:List AV) (S:St):callV (cfg NN) run 68 (.fn 55 cap) args S = call0 run 55 (args++cap) S:=by kernel_rfl
theorem cv69_57 (run:FuncId→List AV→St→Option (AV×St)) (cap args:List AV) (S:St):callV (cfg NN) run 69 (.fn 57 cap) args S = call0 run 57 (args++cap) S:=by kernel_rfl
theorem cv69_64 (run:FuncId→List AV→St→Option (AV×St)) (cap args:List AV) (S:St):callV (cfg NN) run 69 (.fn 64 cap) args S = call0 run 64 (args++cap) S:=by kernel_rfl
theorem fo31_Ledger:Fo (α:=TLedgerResult) (γ:=List TMsg) 1 (fun x=>x.Ledger) (fun y x=>{ x with Ledger:=y }):=fun S i c x h=>((fo_snd fo_self):Fo (α:=Int×(List TMsg)) (γ:=List TMsg) 1 _ _) S i c (x.Code,x.Ledger) h
theorem fo36_Certs:Fo (α:=TMsg) (γ:=List TCert) 5 (fun x=>x.Certs) (fun y x=>{ x with Certs:=y }):=fun S i c x h=>((fo_snd (fo_snd (fo_snd (fo_snd (fo_snd (fo_fst fo_self)))))):Fo (α:=Int×Int×Int×Int×Int×(List TCert)×(List Int)) (γ:=List TCert) 5 _ _) S i c (x.Kind,x.View,x.From,x.Slot,x.Value,x.Certs,x.Refs) h
theorem fo36_Refs:Fo (α:=TMsg) (γ:=List Int) 6 (fun x=>x.Refs) (fun y x=>{ x with Refs:=y }):=fun S i c x h=>((fo_snd (fo_snd (fo_snd (fo_snd (fo_snd (fo_snd fo_self)))))):Fo (α:=Int×Int×Int×Int×Int×(List TCert)×(List Int)) (γ:=List Int) 6 _ _) S i c (x.Kind,x.View,x.From,x.Slot,x.Value,x.Certs,x.Refs) h
theorem mk24 (S:St) (n:Nat) (h:(n + 1) * (8 + 1)≤70368744177664):amake Try.prog 24 (.int .i64 n) (.int .i64 n) S = some (.bsl S.length 0 n n true,S++[⟨1,List.replicate n [.int .i64 0],true⟩]):=
  amake_ok (e:=2) (sz:=1) (by_:=8) (z:=[.int .i64 0]) (z0:=[.int .i64 0]) (by kernel_rfl) (by kernel_rfl) (by kernel_rfl) rfl rfl (by omega) rfl rfl h
theorem mk29 (S:St) (n:Nat) (h:(n + 1) * (88 + 1)≤70368744177664):amake Try.prog 29 (.int .i64 n) (.int .i64 n) S = some (.bsl S.length 0 n n true,S++[⟨7,List.replicate n [.int .i64 0,.int .i64 0,.int .i64 0,.int .i64 0,.int .i64 0,.rsl false false [],.rsl false false []],false⟩]):=
  amake_ok (e:=36) (sz:=7) (by_:=88) (z:=[.int .i64 0,.int .i64 0,.int .i64 0,.int .i64 0,.int .i64 0,.rsl false false [],.rsl false false []]) (z0:=[.int .i64 0,.int .i64 0,.int .i64 0,.int .i64 0,.int .i64 0,.rsl false true [],.rsl false true []]) (by kernel_rfl) (by kernel_rfl) (by kernel_rfl) rfl rfl (by omega) rfl rfl h
theorem mk34 (S:St) (n:Nat) (h:(n + 1) * (24 + 1)≤70368744177664):amake Try.prog 34 (.int .i64 n) (.int .i64 n) S = some (.bsl S.length 0 n n true,S++[⟨3,List.replicate n [.int .i64 0,.int .i64 0,.int .i64 0],true⟩]):=
  amake_ok (e:=69) (sz:=3) (by_:=24) (z:=[.int .i64 0,.int .i64 0,.int .i64 0]) (z0:=[.int .i64 0,.int .i64 0,.int .i64 0]) (by kernel_rfl) (by kernel_rfl) (by kernel_rfl) rfl rfl (by omega) rfl rfl h
theorem plt2 {l:Bool} (S:St) (x:Int):Tr.ow S [] (Enc.cs l x) x:=pl_int x
theorem plsTCert {S:St} {l:Bool} (x:TCert):Tr.ow S [] (Enc.cs l x) x:=(pl_pair pl_int (pl_pair pl_int pl_int) _:Tr.ow (α:=Int×Int×Int) S [] (Enc.cs l _) (x.Slot,x.View,x.Value))
theorem plt69 {l:Bool} (S:St) (x:TCert):Tr.ow S [] (Enc.cs l x) x:=plsTCert x
theorem sneq692 (x0:Int) (x1:Int) (x2:Int) (y0:Int) (y1:Int) (y2:Int):bin2 Try.prog .neq 69 (.agg [.int .i64 x0,.int .i64 x1,.int .i64 x2]) (.agg [.int .i64 y0,.int .i64 y1,.int .i64 y2]) = some (.bool (!((x0 == y0) && ((x1 == y1) && ((x2 == y2) && true))))):=by kernel_rfl
theorem trx31 {S:St} {ids:List Nat} {cs:List AV} {x:TLedgerResult} (h:Tr.ow S ids cs x):∃ v0:AV,cs = [.int .i64 x.Code,v0]:=by
  obtain ⟨_,_,_,_,rfl,_,rfl,⟨rfl,rfl⟩,⟨v0,rfl,_⟩⟩:=h
  exact ⟨_,rfl⟩
theorem trx36 {S:St} {ids:List Nat} {cs:List AV} {x:TMsg} (h:Tr.ow S ids cs x):∃ v0 v1:AV,cs = [.int .i64 x.Kind,.int .i64 x.View,.int .i64 x.From,.int .i64 x.Slot,.int .i64 x.Value,v0,v1]:=by
  obtain ⟨_,_,_,_,rfl,_,rfl,⟨rfl,rfl⟩,⟨_,_,_,_,rfl,_,rfl,⟨rfl,rfl⟩,⟨_,_,_,_,rfl,_,rfl,⟨rfl,rfl⟩,⟨_,_,_,_,rfl,_,rfl,⟨rfl,rfl⟩,⟨_,_,_,_,rfl,_,rfl,⟨rfl,rfl⟩,⟨_,_,_,_,rfl,_,rfl,⟨v0,rfl,_⟩,⟨v1,rfl,_⟩⟩⟩⟩⟩⟩⟩:=h
  exact ⟨_,_,rfl⟩
theorem und24:Try.prog.underlying 24 = some (.slice 2):=by kernel_rfl
theorem und29:Try.prog.underlying 29 = some (.slice 36):=by kernel_rfl
theorem und34:Try.prog.underlying 34 = some (.slice 69):=by kernel_rfl
theorem up36_From (n:Int):Up (α:=TMsg) 2 (.int .i64 n) (fun x=>{ x with From:=n }):=(up_of (α:=TMsg) (β:=Int×Int×Int×Int×Int×(List TCert)×(List Int)) (f:=fun x=>(x.Kind,x.View,x.From,x.Slot,x.Value,x.Certs,x.Refs)) (v:=fun x=>{ x with From:=n }) (up_snd (up_snd (up_fst (up_int (n:=n))))) rfl (fun _=>rfl))
theorem up36_Kind (n:Int):Up (α:=TMsg) 0 (.int .i64 n) (fun x=>{ x with Kind:=n }):=(up_of (α:=TMsg) (β:=Int×Int×Int×Int×Int×(List TCert)×(List Int)) (f:=fun x=>(x.Kind,x.View,x.From,x.Slot,x.Value,x.Certs,x.Refs)) (v:=fun x=>{ x with Kind:=n }) (up_fst (up_int (n:=n))) rfl (fun _=>rfl))
theorem up36_Slot (n:Int):Up (α:=TMsg) 3 (.int .i64 n) (fun x=>{ x with Slot:=n }):=(up_of (α:=TMsg) (β:=Int×Int×Int×Int×Int×(List TCert)×(List Int)) (f:=fun x=>(x.Kind,x.View,x.From,x.Slot,x.Value,x.Certs,x.Refs)) (v:=fun x=>{ x with Slot:=n }) (up_snd (up_snd (up_snd (up_fst (up_int (n:=n)))))) rfl (fun _=>rfl))
theorem up36_Value (n:Int):Up (α:=TMsg) 4 (.int .i64 n) (fun x=>{ x with Value:=n }):=(up_of (α:=TMsg) (β:=Int×Int×Int×Int×Int×(List TCert)×(List Int)) (f:=fun x=>(x.Kind,x.View,x.From,x.Slot,x.Value,x.Certs,x.Refs)) (v:=fun x=>{ x with Value:=n }) (up_snd (up_snd (up_snd (up_snd (up_fst (up_int (n:=n))))))) rfl (fun _=>rfl))
theorem up36_View (n:Int):Up (α:=TMsg) 1 (.int .i64 n) (fun x=>{ x with View:=n }):=(up_of (α:=TMsg) (β:=Int×Int×Int×Int×Int×(List TCert)×(List Int)) (f:=fun x=>(x.Kind,x.View,x.From,x.Slot,x.Value,x.Certs,x.Refs)) (v:=fun x=>{ x with View:=n }) (up_snd (up_fst (up_int (n:=n)))) rfl (fun _=>rfl))
theorem up69_Slot (n:Int):Up (α:=TCert) 0 (.int .i64 n) (fun x=>{ x with Slot:=n }):=(up_of (α:=TCert) (β:=Int×Int×Int) (f:=fun x=>(x.Slot,x.View,x.Value)) (v:=fun x=>{ x with Slot:=n }) (up_fst (up_int (n:=n))) rfl (fun _=>rfl))
theorem up69_Value (n:Int):Up (α:=TCert) 2 (.int .i64 n) (fun x=>{ x with Value:=n }):=(up_of (α:=TCert) (β:=Int×Int×Int) (f:=fun x=>(x.Slot,x.View,x.Value)) (v:=fun x=>{ x with Value:=n }) (up_snd (up_snd (up_int (n:=n)))) rfl (fun _=>rfl))
theorem up69_View (n:Int):Up (α:=TCert) 1 (.int .i64 n) (fun x=>{ x with View:=n }):=(up_of (α:=TCert) (β:=Int×Int×Int) (f:=fun x=>(x.Slot,x.View,x.Value)) (v:=fun x=>{ x with View:=n }) (up_snd (up_fst (up_int (n:=n)))) rfl (fun _=>rfl))
theorem ztr36 (S:St):Tr.ow S [] [AV.int .i64 0,AV.int .i64 0,AV.int .i64 0,AV.int .i64 0,AV.int .i64 0,AV.rsl false false [],AV.rsl false false []] (⟨0,0,0,0,0,[],[]⟩:TMsg):=((zt_pair (pl_int (l:=false) 0) (zt_pair (pl_int (l:=false) 0) (zt_pair (pl_int (l:=false) 0) (zt_pair (pl_int (l:=false) 0) (zt_pair (pl_int (l:=false) 0) (zt_pair (zt_nil (α:=TCert) (fl:=false)) (zt_nil (α:=Int) (fl:=false)))))))):Tr.ow (α:=Int×Int×Int×Int×Int×(List TCert)×(List Int)) S [] _ (0,0,0,0,0,[],[]))
def m17 (a0:List TCert) (a1:Int):Int:=bif decide ((wi .i64 (a1 - (a0.length:Int))) < 0) then (-1) else wi .i64 (a1 - (a0.length:Int))
theorem w17 {d:Nat} (hd:1≤d) (k0:Bool) (a0:List TCert) (a1:Int):Fit (R NN d 17 [.rsl k0 false (a0.map (Enc.cs k0)),.int .i64 a1] []) (some (m17 a0 a1)) PI:=by
  obtain ⟨d,rfl,g⟩:=up hd
  refine q_in (t17 NN d _ _) ?_
  unfold b17 m17
  exact q_len<|q_p fr<|q_p fr<|q_ift (fun h1=>q_ret (cv_p rfl) rfl) fun h1=>q_ret (cv_p rfl) rfl
def m18 (a0:List Int) (a1:Int):Int:=bif decide ((wi .i64 (a1 - (a0.length:Int))) < 0) then (-1) else wi .i64 (a1 - (a0.length:Int))
theorem w18 {d:Nat} (hd:1≤d) (k0:Bool) (a0:List Int) (a1:Int):Fit (R NN d 18 [.rsl k0 false (a0.map (Enc.cs k0)),.int .i64 a1] []) (some (m18 a0 a1)) PI:=by
  obtain ⟨d,rfl,g⟩:=up hd
  refine q_in (t18 NN d _ _) ?_
  unfold b18 m18
  exact q_len<|q_p fr<|q_p fr<|q_ift (fun h1=>q_ret (cv_p rfl) rfl) fun h1=>q_ret (cv_p rfl) rfl
def m5 (a0:TMsg) (a1:Int):Int:=bif decide ((m17 a0.Certs a1) < 0) then (-1) else bif decide ((m18 a0.Refs (m17 a0.Certs a1)) < 0) then (-1) else (m18 a0.Refs (m17 a0.Certs a1))
theorem w5 {d:Nat} (hd:2≤d) (k0:Bool) (a0:TMsg) (a1:Int):Fit (R NN d 5 [.agg (Enc.cs k0 a0),.int .i64 a1] []) (some (m5 a0 a1)) PI:=by
  obtain ⟨d,rfl,g⟩:=up hd
  refine q_in (t5 NN d _ _) ?_
  unfold b5 m5
  exact q_box (n:=7) rfl rfl (by decide) fun b1=>q_p fr<|q_ld 0 rfl rfl<|q_c0t (aF2 cv_r (cv_p rfl) fun l0_ l1_=>w17 (by omega) l0_ a0.Certs a1)<|q_p fr<|q_ift (fun h2=>q_ret (cv_p rfl) rfl) fun h2=>q_p fr<|q_ld 0 rfl rfl<|q_c0t (aF2 cv_r (cv_p rfl) fun l0_ l1_=>w18 (by omega) l0_ a0.Refs (m17 a0.Certs a1))<|q_p fr<|q_ift (fun h1=>q_ret (cv_p rfl) rfl) fun h1=>q_ret (cv_p rfl) rfl
def ms4_0 (a0:List TMsg) (s1:Int×Int×Int):Option (LO (Int×Int×Int)):=bif decide (s1.2.2 < (a0.length:Int)) then (getI a0 s1.2.2).bind fun x1=>bif decide ((m5 x1 s1.1) < 0) then some (LO.ret ((m5 x1 s1.1),(-1),s1.2.2)) else some (LO.norm ((m5 x1 s1.1),s1.2.1,wi .i64 (s1.2.2 + 1))) else some (LO.exit 0 (s1.1,s1.2.1,s1.2.2))
def m4 (a0:List TMsg) (a1:Int):Option (Int):=bif decide ((wi .i64 (a1 - (a0.length:Int))) < 0) then some (-1) else (loopO (ms4_0 a0) NN (wi .i64 (a1 - (a0.length:Int)),0,0)).bind (contO (fun _=>none) (fun i1 s2=>if i1 = 0 then some s2.1 else none) (fun s2=>some s2.2.1))
theorem w4 {d:Nat} (hd:3≤d) (k0:Bool) (a0:List TMsg) (a1:Int):Fit (R NN d 4 [.rsl k0 false (a0.map (Enc.cs k0)),.int .i64 a1] []) (m4 a0 a1) PI:=by
  obtain ⟨d,rfl,g⟩:=up hd
  refine q_in (t4 NN d _ _) ?_
  unfold b4 m4
  refine q_len<|q_p fr<|q_p fr<|q_i ?_ ?_
  ·exact q_ret (cv_p rfl) rfl
  ·refine q_lp (A:=fun (s:Int×Int×Int)=>[.int .i64 s.1,.int .i64 s.2.1,.int .i64 s.2.2]) (B:=fun s=>[]) 0 rr ?_ ?_ ?_
   ·intro s1
    unfold s4_0 ms4_0
    exact q_len<|q_p fr<|q_i (q_ix rfl fun x1 hx1=>q_p fr<|q_c0t (aF2 (cv_a (cvs_e (l0:=k0) (x:=x1))) (cv_p rfl) fun l0_ l1_=>w5 (by omega) l0_ x1 s1.1)<|q_p fr<|q_i (q_lret 0 rr)<|q_p fr<|q_norm 0 rr)<|q_exit 0 rr
   ·exact fun i1 s2=>q_n (q_ret (cv_p rfl) rfl)<|q_none
   ·exact fun s2=>q_ret (cv_p rfl) rfl
def m37 (a0:Int) (a1:Int) (a2:Int):Bool:=bif decide (a0 ≥ a1) then decide (a0≤a2) else false
theorem w37 {d:Nat} (hd:1≤d) (a0:Int) (a1:Int) (a2:Int):Fit (R NN d 37 [.int .i64 a0,.int .i64 a1,.int .i64 a2] []) (some (m37 a0 a1 a2)) PB:=by
  obtain ⟨d,rfl,g⟩:=up hd
  refine q_in (t37 NN d _ _ _) ?_
  unfold b37 m37
  exact q_p fr<|q_gTt (fun h1=>q_p fr<|q_ret (cv_p rfl) rfl) fun h1=>q_ret (cv_p rfl) rfl
def m34 (a0:Int):Bool:=(m37 a0 1 2)
theorem w34 {d:Nat} (hd:2≤d) (a0:Int):Fit (R NN d 34 [.int .i64 a0] []) (some (m34 a0)) PB:=by
  obtain ⟨d,rfl,g⟩:=up hd
  refine q_in (t34 NN d _) ?_
  unfold b34 m34
  exact q_c0t (aF3 (cv_p rfl) (cv_p rfl) (cv_p rfl) fun l0_ l1_ l2_=>w37 (by omega) a0 1 2)<|q_ret (cv_p rfl) rfl
def m36 (a0:TMsg):Option (Bool):=( bif (m37 a0.Kind 1 5) then bif (m37 a0.Kind 1 3) then bif a0.Kind == 4 then bif a0.Kind == 5 then some (LO.norm true) else some (LO.norm ((a0.Refs.length:Int) == 0)) else bif (a0.Certs.length:Int) == 0 then bif a0.Kind == 5 then some (LO.norm true) else some (LO.norm ((a0.Refs.length:Int) == 0)) else some (LO.norm false) else bif a0.Slot == 0 then bif a0.Value == 0 then bif a0.Kind == 4 then bif a0.Kind == 5 then some (LO.norm true) else some (LO.norm ((a0.Refs.length:Int) == 0)) else bif (a0.Certs.length:Int) == 0 then bif a0.Kind == 5 then some (LO.norm true) else some (LO.norm ((a0.Refs.length:Int) == 0)) else some (LO.norm false) else some (LO.norm false) else some (LO.norm false) else some (LO.norm false)).bind (contO (fun s2=>some s2) (fun i1 s2=>none) (fun s2=>some s2))
theorem w36 {d:Nat} (hd:2≤d) (k0:Bool) (a0:TMsg):Fit (R NN d 36 [.rp k0 (Enc.cs k0 a0)] []) (m36 a0) PB:=by
  obtain ⟨d,rfl,g⟩:=up hd
  refine q_in (t36 NN d _) ?_
  unfold b36 m36
  refine q_q fr<|q_p fr<|q_p fr<|q_c0t (aF3 (cv_p rfl) (cv_p rfl) (cv_p rfl) fun l0_ l1_ l2_=>w37 (by omega) a0.Kind 1 3)<|q_cu (A:=fun (s:Bool)=>[.bool s]) (B:=fun s=>[]) ?_ ?_ ?_ ?_
  ·exact q_q fr<|q_p fr<|q_p fr<|q_c0t (aF3 (cv_p rfl) (cv_p rfl) (cv_p rfl) fun l0_ l1_ l2_=>w37 (by omega) a0.Kind 1 5)<|q_k (q_j (q_q fr<|q_p fr<|q_p fr<|q_p fr<|q_j (q_q fr<|q_p fr<|q_p fr<|q_p fr<|q_j (q_norm 0 rr)<|q_q fr<|q_p fr<|q_p fr<|q_len<|q_p fr<|q_norm 0 rr)<|q_q fr<|q_p fr<|q_p fr<|q_len<|q_p fr<|q_k (q_q fr<|q_p fr<|q_p fr<|q_p fr<|q_j (q_norm 0 rr)<|q_q fr<|q_p fr<|q_p fr<|q_len<|q_p fr<|q_norm 0 rr)<|q_norm 0 rr)<|q_q fr<|q_p fr<|q_p fr<|q_p fr<|q_k (q_q fr<|q_p fr<|q_p fr<|q_p fr<|q_k (q_q fr<|q_p fr<|q_p fr<|q_p fr<|q_j (q_q fr<|q_p fr<|q_p fr<|q_p fr<|q_j (q_norm 0 rr)<|q_q fr<|q_p fr<|q_p fr<|q_len<|q_p fr<|q_norm 0 rr)<|q_q fr<|q_p fr<|q_p fr<|q_len<|q_p fr<|q_k (q_q fr<|q_p fr<|q_p fr<|q_p fr<|q_j (q_norm 0 rr)<|q_q fr<|q_p fr<|q_p fr<|q_len<|q_p fr<|q_norm 0 rr)<|q_norm 0 rr)<|q_norm 0 rr)<|q_norm 0 rr)<|q_norm 0 rr
  ·exact fun s2=>q_ret (cv_p rfl) rfl
  ·exact fun i1 s2=>q_none
  ·exact fun s2=>q_ret (cv_p rfl) rfl
def m38 (a0:Int) (a1:Int):Bool:=(m37 a1 1 (wi .i64 ((wi .i64 (3 * a0)) + 1)))
theorem w38 {d:Nat} (hd:2≤d) (a0:Int) (a1:Int):Fit (R NN d 38 [.int .i64 a0,.int .i64 a1] []) (some (m38 a0 a1)) PB:=by
  obtain ⟨d,rfl,g⟩:=up hd
  refine q_in (t38 NN d _ _) ?_
  unfold b38 m38
  exact q_p fr<|q_p fr<|q_c0t (aF3 (cv_p rfl) (cv_p rfl) (cv_p rfl) fun l0_ l1_ l2_=>w37 (by omega) a1 1 (wi .i64 ((wi .i64 (3 * a0)) + 1)))<|q_ret (cv_p rfl) rfl
def ms39_0 (a0:TMsg) (s1:Int×Int):Option (LO (Int×Int)):=bif decide (s1.2 < (a0.Certs.length:Int)) then (getI a0.Certs s1.2).bind fun x1=>(getI a0.Certs (wi .i64 (s1.2 - 1))).bind fun x2=>bif decide (x1.Slot≤x2.Slot) then some (LO.ret (1,s1.2)) else some (LO.norm (s1.1,wi .i64 (s1.2 + 1))) else some (LO.exit 0 (s1.1,s1.2))
def ms39_1 (a0:TMsg) (s3:Int×Int):Option (LO (Int×Int)):=bif decide (s3.2 < (a0.Refs.length:Int)) then (getI a0.Refs s3.2).bind fun x3=>(getI a0.Refs (wi .i64 (s3.2 - 1))).bind fun x4=>bif decide (x3≤x4) then some (LO.ret (1,s3.2)) else some (LO.norm (s3.1,wi .i64 (s3.2 + 1))) else some (LO.exit 2 (s3.1,s3.2))
def ms39_2 (a0:TMsg) (s5:Int×Int):Option (LO (Int×Int)):=bif decide (s5.2 < (a0.Certs.length:Int)) then ( (getI a0.Certs s5.2).bind fun x5=>( bif !(m37 x5.Slot 1 30) then some (LO.norm true) else bif !(m37 x5.View 0 (wi .i64 (a0.View - 1))) then some (LO.norm true) else some (LO.norm (!(m37 x5.Value 0 12)))).bind (contO (fun s8=>bif s8 then some (LO.ret 3) else some (LO.norm s5.1)) (fun i3 s8=>if i3 = 5 then some (LO.norm s5.1) else some (LO.exit i3 s5.1)) (fun s8=>some (LO.ret s5.1)))).bind (contO (fun s9=>some (LO.norm (s9,wi .i64 (s5.2 + 1)))) (fun i4 s9=>some (LO.exit i4 (s9,s5.2))) (fun s9=>some (LO.ret (s9,s5.2)))) else some (LO.exit 4 (s5.1,s5.2))
def ms39_3 (a0:TMsg) (s11:Int×Int):Option (LO (Int×Int)):=bif decide (s11.2 < (a0.Refs.length:Int)) then (getI a0.Refs s11.2).bind fun x6=>bif !(m37 x6 0 239) then some (LO.ret (3,s11.2)) else some (LO.norm (s11.1,wi .i64 (s11.2 + 1))) else some (LO.exit 6 (s11.1,s11.2))
def m39 (a0:TMsg):Option (Int):=(loopO (ms39_0 a0) NN (0,1)).bind (contO (fun _=>none) (fun i1 s2=>if i1 = 0 then (loopO (ms39_1 a0) NN (s2.1,1)).bind (contO (fun _=>none) (fun i2 s4=>if i2 = 2 then (loopO (ms39_2 a0) NN (s4.1,0)).bind (contO (fun _=>none) (fun i5 s10=>if i5 = 4 then (loopO (ms39_3 a0) NN (s10.1,0)).bind (contO (fun _=>none) (fun i6 s12=>if i6 = 6 then some 0 else none) (fun s12=>some s12.1)) else none) (fun s10=>some s10.1)) else none) (fun s4=>some s4.1)) else none) (fun s2=>some s2.1))
theorem w39 {d:Nat} (hd:2≤d) (k0:Bool) (a0:TMsg):Fit (R NN d 39 [.rp k0 (Enc.cs k0 a0)] []) (m39 a0) PI:=by
  obtain ⟨d,rfl,g⟩:=up hd
  refine q_in (t39 NN d _) ?_
  unfold b39 m39
  refine q_lp (A:=fun (s:Int×Int)=>[.int .i64 s.1,.int .i64 s.2]) (B:=fun s=>[]) 0 rr ?_ ?_ ?_
  ·intro s1
   unfold s39_0 ms39_0
   exact q_q fr<|q_p fr<|q_p fr<|q_len<|q_p fr<|q_i (q_q fr<|q_p fr<|q_p fr<|q_ix rfl fun x1 hx1=>q_p fr<|q_p fr<|q_q fr<|q_p fr<|q_p fr<|q_p fr<|q_ix rfl fun x2 hx2=>q_p fr<|q_p fr<|q_p fr<|q_i (q_lret 0 rr)<|q_p fr<|q_norm 0 rr)<|q_exit 0 rr
  ·intro i1 s2
   refine q_n ?_ ?_
   ·refine q_lp (A:=fun (s:Int×Int)=>[.int .i64 s.1,.int .i64 s.2]) (B:=fun s=>[]) 0 rr ?_ ?_ ?_
    ·intro s3
     unfold s39_1 ms39_1
     exact q_q fr<|q_p fr<|q_p fr<|q_len<|q_p fr<|q_i (q_q fr<|q_p fr<|q_p fr<|q_ix rfl fun x3 hx3=>q_p fr<|q_q fr<|q_p fr<|q_p fr<|q_p fr<|q_ix rfl fun x4 hx4=>q_p fr<|q_p fr<|q_i (q_lret 0 rr)<|q_p fr<|q_norm 0 rr)<|q_exit 0 rr
    ·intro i2 s4
     refine q_n ?_ ?_
     ·refine q_lp (A:=fun (s:Int×Int)=>[.int .i64 s.1,.int .i64 s.2]) (B:=fun s=>[]) 0 rr ?_ ?_ ?_
      ·intro s5
       unfold s39_2 ms39_2
       refine q_q fr<|q_p fr<|q_p fr<|q_len<|q_p fr<|q_i ?_ ?_
       ·refine q_cu (A:=fun (s:Int)=>[.int .i64 s]) (B:=fun s=>[]) ?_ ?_ ?_ ?_
        ·refine q_q fr<|q_p fr<|q_p fr<|q_ix rfl fun x5 hx5=>q_p fr<|q_new rfl fun b1=>q_st 0 rfl rfl rfl (by decide) rfl<|q_cu (A:=fun (s:Bool)=>[.bool s]) (B:=fun s=>[bx b1 [.int .i64 x5.Slot,.int .i64 x5.View,.int .i64 x5.Value]]) ?_ ?_ ?_ ?_
         ·exact q_p fr<|q_ld 0 rfl rfl<|q_c0t (aF3 (cv_p rfl) (cv_p rfl) (cv_p rfl) fun l0_ l1_ l2_=>w37 (by omega) x5.Slot 1 30)<|q_p fr<|q_j (q_norm 0 rr)<|q_p fr<|q_ld 0 rfl rfl<|q_q fr<|q_p fr<|q_p fr<|q_p fr<|q_c0t (aF3 (cv_p rfl) (cv_p rfl) (cv_p rfl) fun l0_ l1_ l2_=>w37 (by omega) x5.View 0 (wi .i64 (a0.View - 1)))<|q_p fr<|q_j (q_norm 0 rr)<|q_p fr<|q_ld 0 rfl rfl<|q_c0t (aF3 (cv_p rfl) (cv_p rfl) (cv_p rfl) fun l0_ l1_ l2_=>w37 (by omega) x5.Value 0 12)<|q_p fr<|q_norm 0 rr
         ·exact fun s8=>q_i (q_lret 1 rr)<|q_norm 1 rr
         ·exact fun i3 s8=>q_n (q_norm 1 rr)<|q_exit 1 rr
         ·exact fun s8=>q_lret 1 rr
        ·exact fun s9=>q_p fr<|q_norm 0 rr
        ·exact fun i4 s9=>q_exit 0 rr
        ·exact fun s9=>q_lret 0 rr
       ·exact q_exit 0 rr
      ·intro i5 s10
       refine q_n ?_ ?_
       ·refine q_lp (A:=fun (s:Int×Int)=>[.int .i64 s.1,.int .i64 s.2]) (B:=fun s=>[]) 0 rr ?_ ?_ ?_
        ·intro s11
         unfold s39_3 ms39_3
         exact q_q fr<|q_p fr<|q_p fr<|q_len<|q_p fr<|q_i (q_q fr<|q_p fr<|q_p fr<|q_ix rfl fun x6 hx6=>q_p fr<|q_c0t (aF3 (cv_p rfl) (cv_p rfl) (cv_p rfl) fun l0_ l1_ l2_=>w37 (by omega) x6 0 239)<|q_p fr<|q_i (q_lret 0 rr)<|q_p fr<|q_norm 0 rr)<|q_exit 0 rr
        ·exact fun i6 s12=>q_n (q_ret (cv_p rfl) rfl)<|q_none
        ·exact fun s12=>q_ret (cv_p rfl) rfl
       ·exact q_none
      ·exact fun s10=>q_ret (cv_p rfl) rfl
     ·exact q_none
    ·exact fun s4=>q_ret (cv_p rfl) rfl
   ·exact q_none
  ·exact fun s2=>q_ret (cv_p rfl) rfl
def m20 (a0:Int) (a1:TMsg):Option (Int):=(m36 a1).bind fun y1=>bif !y1 then some 1 else ( ( bif !(m37 a1.View 0 20) then some (LO.norm true) else bif !(m38 a0 a1.From) then some (LO.norm true) else bif decide (a1.Kind≤3) then bif !(m37 a1.Slot 1 30) then some (LO.norm true) else some (LO.norm (!(m37 a1.Value 0 12))) else some (LO.norm false)).bind (contO (fun s3=>bif s3 then some (LO.ret 3) else some (LO.norm 0)) (fun i1 s3=>some (LO.exit i1 0)) (fun s3=>some (LO.ret 0)))).bind (contO (fun s4=>( bif decide ((a1.Certs.length:Int) > 30) then some (LO.ret 2) else bif decide ((a1.Refs.length:Int) > (wi .i64 ((wi .i64 (3 * a0)) + 1))) then some (LO.ret 2) else some (LO.norm s4)).bind (contO (fun s6=>(m39 a1).bind fun y2=>some y2) (fun i3 s6=>none) (fun s6=>some s6))) (fun i2 s4=>none) (fun s4=>some s4))
theorem w20 {d:Nat} (hd:3≤d) (a0:Int) (k1:Bool) (a1:TMsg):Fit (R NN d 20 [.int .i64 a0,.rp k1 (Enc.cs k1 a1)] []) (m20 a0 a1) PI:=by
  obtain ⟨d,rfl,g⟩:=up hd
  refine q_in (t20 NN d _ _) ?_
  unfold b20 m20
  refine q_c0 (aF1 (cv_rp (cvs_e (l0:=k1) (x:=a1)) (fun _ _ _ h=>Enc.frz k1 a1 _ _ _ h)) fun l0_=>w36 (by omega) l0_ a1) fun y1 hy1=>q_p fr<|q_i ?_ ?_
  ·exact q_ret (cv_p rfl) rfl
  ·refine q_q fr<|q_p fr<|q_p fr<|q_p fr<|q_cu (A:=fun (s:Int)=>[.int .i64 s]) (B:=fun s=>[]) ?_ ?_ ?_ ?_
   ·refine q_cu (A:=fun (s:Bool)=>[.bool s]) (B:=fun s=>[]) ?_ ?_ ?_ ?_
    ·exact q_q fr<|q_p fr<|q_p fr<|q_c0t (aF3 (cv_p rfl) (cv_p rfl) (cv_p rfl) fun l0_ l1_ l2_=>w37 (by omega) a1.View 0 20)<|q_p fr<|q_j (q_norm 0 rr)<|q_q fr<|q_p fr<|q_p fr<|q_c0t (aF2 (cv_p rfl) (cv_p rfl) fun l0_ l1_=>w38 (by omega) a0 a1.From)<|q_p fr<|q_j (q_norm 0 rr)<|q_k (q_q fr<|q_p fr<|q_p fr<|q_c0t (aF3 (cv_p rfl) (cv_p rfl) (cv_p rfl) fun l0_ l1_ l2_=>w37 (by omega) a1.Slot 1 30)<|q_p fr<|q_j (q_norm 0 rr)<|q_q fr<|q_p fr<|q_p fr<|q_c0t (aF3 (cv_p rfl) (cv_p rfl) (cv_p rfl) fun l0_ l1_ l2_=>w37 (by omega) a1.Value 0 12)<|q_p fr<|q_norm 0 rr)<|q_norm 0 rr
    ·exact fun s3=>q_i (q_lret 0 rr)<|q_norm 0 rr
    ·exact fun i1 s3=>q_exit 0 rr
    ·exact fun s3=>q_lret 0 rr
   ·intro s4
    refine q_cu (A:=fun (s:Int)=>[.int .i64 s]) (B:=fun s=>[]) ?_ ?_ ?_ ?_
    ·refine q_q fr<|q_p fr<|q_p fr<|q_len<|q_p fr<|q_j ?_ ?_
     ·first | refine q_ifT1 ?_ | skip
      exact q_lret 0 rr
     ·exact q_q fr<|q_p fr<|q_p fr<|q_len<|q_p fr<|q_p fr<|q_p fr<|q_i (q_lret 0 rr)<|q_norm 0 rr
    ·exact fun s6=>q_c0 (aF1 (cv_rp (cvs_e (l0:=k1) (x:=a1)) (fun _ _ _ h=>Enc.frz k1 a1 _ _ _ h)) fun l0_=>w39 (by omega) l0_ a1) fun y2 hy2=>q_ret (cv_p rfl) rfl
    ·exact fun i3 s6=>q_none
    ·exact fun s6=>q_ret (cv_p rfl) rfl
   ·exact fun i2 s4=>q_none
   ·exact fun s4=>q_ret (cv_p rfl) rfl
def ms21_0 (a0:TMsg) (a1:Int) (s1:Bool×Int):Option (LO (Bool×Int)):=bif decide (s1.2 < (a0.Refs.length:Int)) then (getI a0.Refs s1.2).bind fun x1=>bif decide (x1 ≥ a1) then some (LO.ret (false,s1.2)) else some (LO.norm (s1.1,wi .i64 (s1.2 + 1))) else some (LO.exit 0 (s1.1,s1.2))
def m21 (a0:TMsg) (a1:Int):Option (Bool):=(loopO (ms21_0 a0 a1) NN (false,0)).bind (contO (fun _=>none) (fun i1 s2=>if i1 = 0 then some true else none) (fun s2=>some s2.1))
theorem w21 {d:Nat} (hd:1≤d) (k0:Bool) (a0:TMsg) (a1:Int):Fit (R NN d 21 [.rp k0 (Enc.cs k0 a0),.int .i64 a1] []) (m21 a0 a1) PB:=by
  obtain ⟨d,rfl,g⟩:=up hd
  refine q_in (t21 NN d _ _) ?_
  unfold b21 m21
  refine q_lp (A:=fun (s:Bool×Int)=>[.bool s.1,.int .i64 s.2]) (B:=fun s=>[]) 0 rr ?_ ?_ ?_
  ·intro s1
   unfold s21_0 ms21_0
   exact q_q fr<|q_p fr<|q_p fr<|q_len<|q_p fr<|q_i (q_q fr<|q_p fr<|q_p fr<|q_ix rfl fun x1 hx1=>q_p fr<|q_p fr<|q_i (q_lret 0 rr)<|q_p fr<|q_norm 0 rr)<|q_exit 0 rr
  ·exact fun i1 s2=>q_n (q_ret (cv_p rfl) rfl)<|q_none
  ·exact fun s2=>q_ret (cv_p rfl) rfl
def ms63_0 (a0:TMsg) (a1:TMsg) (s5:Bool×Int):Option (LO (Bool×Int)):=bif decide (s5.2 < (a0.Certs.length:Int)) then (getI a0.Certs s5.2).bind fun x1=>(getI a1.Certs s5.2).bind fun x2=>bif !(((x1.Slot == x2.Slot) && ((x1.View == x2.View) && ((x1.Value == x2.Value) && true)))) then some (LO.ret (false,s5.2)) else some (LO.norm (s5.1,wi .i64 (s5.2 + 1))) else some (LO.exit 0 (s5.1,s5.2))
def ms63_1 (a0:TMsg) (a1:TMsg) (s7:Bool×Int):Option (LO (Bool×Int)):=bif decide (s7.2 < (a0.Refs.length:Int)) then (getI a0.Refs s7.2).bind fun x3=>(getI a1.Refs s7.2).bind fun x4=>bif x3 != x4 then some (LO.ret (false,s7.2)) else some (LO.norm (s7.1,wi .i64 (s7.2 + 1))) else some (LO.exit 2 (s7.1,s7.2))
def m63 (a0:TMsg) (a1:TMsg):Option (Bool):=( ( bif a0.Kind != a1.Kind then some (LO.norm true) else bif a0.View != a1.View then some (LO.norm true) else bif a0.From != a1.From then some (LO.norm true) else bif a0.Slot != a1.Slot then some (LO.norm true) else bif a0.Value != a1.Value then some (LO.norm true) else bif (a0.Certs.length:Int) != (a1.Certs.length:Int) then some (LO.norm true) else some (LO.norm ((a0.Refs.length:Int) != (a1.Refs.length:Int)))).bind (contO (fun s3=>bif s3 then some (LO.ret false) else some (LO.norm false)) (fun i1 s3=>some (LO.exit i1 false)) (fun s3=>some (LO.ret false)))).bind (contO (fun s4=>(loopO (ms63_0 a0 a1) NN (s4,0)).bind (contO (fun _=>none) (fun i3 s6=>if i3 = 0 then (loopO (ms63_1 a0 a1) NN (s6.1,0)).bind (contO (fun _=>none) (fun i4 s8=>if i4 = 2 then some true else none) (fun s8=>some s8.1)) else none) (fun s6=>some s6.1))) (fun i2 s4=>none) (fun s4=>some s4))
theorem w63 {d:Nat} (hd:1≤d) (k0:Bool) (a0:TMsg) (k1:Bool) (a1:TMsg):Fit (R NN d 63 [.rp k0 (Enc.cs k0 a0),.rp k1 (Enc.cs k1 a1)] []) (m63 a0 a1) PB:=by
  obtain ⟨d,rfl,g⟩:=up hd
  refine q_in (t63 NN d _ _) ?_
  unfold b63 m63
  refine q_cu (A:=fun (s:Bool)=>[.bool s]) (B:=fun s=>[]) ?_ ?_ ?_ ?_
  ·refine q_cu (A:=fun (s:Bool)=>[.bool s]) (B:=fun s=>[]) ?_ ?_ ?_ ?_
   ·exact q_q fr<|q_p fr<|q_p fr<|q_q fr<|q_p fr<|q_p fr<|q_p fr<|q_j (q_norm 0 rr)<|q_q fr<|q_p fr<|q_p fr<|q_q fr<|q_p fr<|q_p fr<|q_p fr<|q_j (q_norm 0 rr)<|q_q fr<|q_p fr<|q_p fr<|q_q fr<|q_p fr<|q_p fr<|q_p fr<|q_j (q_norm 0 rr)<|q_q fr<|q_p fr<|q_p fr<|q_q fr<|q_p fr<|q_p fr<|q_p fr<|q_j (q_norm 0 rr)<|q_q fr<|q_p fr<|q_p fr<|q_q fr<|q_p fr<|q_p fr<|q_p fr<|q_j (q_norm 0 rr)<|q_q fr<|q_p fr<|q_p fr<|q_len<|q_q fr<|q_p fr<|q_p fr<|q_len<|q_p fr<|q_j (q_norm 0 rr)<|q_q fr<|q_p fr<|q_p fr<|q_len<|q_q fr<|q_p fr<|q_p fr<|q_len<|q_p fr<|q_norm 0 rr
   ·exact fun s3=>q_i (q_lret 0 rr)<|q_norm 0 rr
   ·exact fun i1 s3=>q_exit 0 rr
   ·exact fun s3=>q_lret 0 rr
  ·intro s4
   refine q_lp (A:=fun (s:Bool×Int)=>[.bool s.1,.int .i64 s.2]) (B:=fun s=>[]) 0 rr ?_ ?_ ?_
   ·intro s5
    unfold s63_0 ms63_0
    exact q_q fr<|q_p fr<|q_p fr<|q_len<|q_p fr<|q_i (q_q fr<|q_p fr<|q_p fr<|q_ix rfl fun x1 hx1=>q_p fr<|q_q fr<|q_p fr<|q_p fr<|q_ix rfl fun x2 hx2=>q_p fr<|q_p (fun _=>sneq692 _ _ _ _ _ _)<|q_i (q_lret 0 rr)<|q_p fr<|q_norm 0 rr)<|q_exit 0 rr
   ·intro i3 s6
    refine q_n ?_ ?_
    ·refine q_lp (A:=fun (s:Bool×Int)=>[.bool s.1,.int .i64 s.2]) (B:=fun s=>[]) 0 rr ?_ ?_ ?_
     ·intro s7
      unfold s63_1 ms63_1
      exact q_q fr<|q_p fr<|q_p fr<|q_len<|q_p fr<|q_i (q_q fr<|q_p fr<|q_p fr<|q_ix rfl fun x3 hx3=>q_p fr<|q_q fr<|q_p fr<|q_p fr<|q_ix rfl fun x4 hx4=>q_p fr<|q_p fr<|q_i (q_lret 0 rr)<|q_p fr<|q_norm 0 rr)<|q_exit 0 rr
     ·exact fun i4 s8=>q_n (q_ret (cv_p rfl) rfl)<|q_none
     ·exact fun s8=>q_ret (cv_p rfl) rfl
    ·exact q_none
   ·exact fun s6=>q_ret (cv_p rfl) rfl
  ·exact fun i2 s4=>q_none
  ·exact fun s4=>q_ret (cv_p rfl) rfl
def ms40_0 (a0:List TMsg) (a1:TMsg) (s1:Int×Int):Option (LO (Int×Int)):=bif decide (s1.2 < (a0.length:Int)) then (getI a0 s1.2).bind fun x1=>(m63 x1 a1).bind fun y1=>bif y1 then some (LO.ret (s1.2,s1.2)) else some (LO.norm (s1.1,wi .i64 (s1.2 + 1))) else some (LO.exit 0 (s1.1,s1.2))
def m40 (a0:List TMsg) (a1:TMsg):Option (Int):=(loopO (ms40_0 a0 a1) NN (0,0)).bind (contO (fun _=>none) (fun i1 s2=>if i1 = 0 then some (-1) else none) (fun s2=>some s2.1))
theorem w40 {d:Nat} (hd:2≤d) (k0:Bool) (a0:List TMsg) (k1:Bool) (a1:TMsg):Fit (R NN d 40 [.rsl k0 false (a0.map (Enc.cs k0)),.rp k1 (Enc.cs k1 a1)] []) (m40 a0 a1) PI:=by
  obtain ⟨d,rfl,g⟩:=up hd
  refine q_in (t40 NN d _ _) ?_
  unfold b40 m40
  refine q_lp (A:=fun (s:Int×Int)=>[.int .i64 s.1,.int .i64 s.2]) (B:=fun s=>[]) 0 rr ?_ ?_ ?_
  ·intro s1
   unfold s40_0 ms40_0
   exact q_len<|q_p fr<|q_i (q_ix rfl fun x1 hx1=>q_c0 (aF2 (cv_rp (cvs_e (l0:=k0) (x:=x1)) (fun _ _ _ h=>Enc.frz k0 x1 _ _ _ h)) (cv_rp (cvs_e (l0:=k1) (x:=a1)) (fun _ _ _ h=>Enc.frz k1 a1 _ _ _ h)) fun l0_ l1_=>w63 (by omega) l0_ x1 l1_ a1) fun y1 hy1=>q_i (q_lret 0 rr)<|q_p fr<|q_norm 0 rr)<|q_exit 0 rr
  ·exact fun i1 s2=>q_n (q_ret (cv_p rfl) rfl)<|q_none
  ·exact fun s2=>q_ret (cv_p rfl) rfl
def ms35_0 (a0:Int) (a1:List TMsg) (s1:Int×Int):Option (LO (Int×Int)):=bif decide (s1.2 < (a1.length:Int)) then (getI a1 s1.2).bind fun x1=>(m20 a0 x1).bind fun y1=>bif y1 != 0 then some (LO.ret (y1,s1.2)) else (getI a1 s1.2).bind fun x2=>(m21 x2 s1.2).bind fun y2=>bif !y2 then some (LO.ret (4,s1.2)) else (getI a1 s1.2).bind fun x3=>(m40 a1 x3).bind fun y3=>bif y3 != s1.2 then some (LO.ret (6,s1.2)) else some (LO.norm (s1.1,wi .i64 (s1.2 + 1))) else some (LO.exit 0 (s1.1,s1.2))
def m35 (a0:Int) (a1:List TMsg):Option (Int):=bif decide ((a1.length:Int) > 240) then some 2 else (loopO (ms35_0 a0 a1) NN (0,0)).bind (contO (fun _=>none) (fun i1 s2=>if i1 = 0 then some 0 else none) (fun s2=>some s2.1))
theorem w35 {d:Nat} (hd:4≤d) (a0:Int) (k1:Bool) (a1:List TMsg):Fit (R NN d 35 [.int .i64 a0,.rsl k1 false (a1.map (Enc.cs k1))] []) (m35 a0 a1) PI:=by
  obtain ⟨d,rfl,g⟩:=up hd
  refine q_in (t35 NN d _ _) ?_
  unfold b35 m35
  refine q_len<|q_p fr<|q_i ?_ ?_
  ·exact q_ret (cv_p rfl) rfl
  ·refine q_lp (A:=fun (s:Int×Int)=>[.int .i64 s.1,.int .i64 s.2]) (B:=fun s=>[]) 0 rr ?_ ?_ ?_
   ·intro s1
    unfold s35_0 ms35_0
    exact q_len<|q_p fr<|q_i (q_ix rfl fun x1 hx1=>q_c0 (aF2 (cv_p rfl) (cv_rp (cvs_e (l0:=k1) (x:=x1)) (fun _ _ _ h=>Enc.frz k1 x1 _ _ _ h)) fun l0_ l1_=>w20 (by omega) a0 l1_ x1) fun y1 hy1=>q_p fr<|q_i (q_lret 0 rr)<|q_ix rfl fun x2 hx2=>q_c0 (aF2 (cv_rp (cvs_e (l0:=k1) (x:=x2)) (fun _ _ _ h=>Enc.frz k1 x2 _ _ _ h)) (cv_p rfl) fun l0_ l1_=>w21 (by omega) l0_ x2 s1.2) fun y2 hy2=>q_p fr<|q_i (q_lret 0 rr)<|q_ix rfl fun x3 hx3=>q_c0 (aF2 cv_r (cv_rp (cvs_e (l0:=k1) (x:=x3)) (fun _ _ _ h=>Enc.frz k1 x3 _ _ _ h)) fun l0_ l1_=>w40 (by omega) l0_ a1 l1_ x3) fun y3 hy3=>q_p fr<|q_i (q_lret 0 rr)<|q_p fr<|q_norm 0 rr)<|q_exit 0 rr
   ·exact fun i1 s2=>q_n (q_ret (cv_p rfl) rfl)<|q_none
   ·exact fun s2=>q_ret (cv_p rfl) rfl
def m19 (a0:Int) (a1:List TMsg):Option (Int):=bif !(m34 a0) then some 3 else (m35 a0 a1).bind fun y1=>some y1
theorem w19 {d:Nat} (hd:5≤d) (a0:Int) (k1:Bool) (a1:List TMsg):Fit (R NN d 19 [.int .i64 a0,.rsl k1 false (a1.map (Enc.cs k1))] []) (m19 a0 a1) PI:=by
  obtain ⟨d,rfl,g⟩:=up hd
  refine q_in (t19 NN d _ _) ?_
  unfold b19 m19
  exact q_c0t (aF1 (cv_p rfl) fun l0_=>w34 (by omega) a0)<|q_p fr<|q_i (q_ret (cv_p rfl) rfl)<|q_c0 (aF2 (cv_p rfl) cv_r fun l0_ l1_=>w35 (by omega) a0 l1_ a1) fun y1 hy1=>q_ret (cv_p rfl) rfl
def m42 (a0:TMsg):Option (TMsg):=(appO 24 [] a0.Certs).bind fun z1=>(appO 8 [] a0.Refs).bind fun z2=>some (⟨a0.Kind,a0.View,a0.From,a0.Slot,a0.Value,z1,z2⟩:TMsg)
theorem w42 {d:Nat} (hd:1≤d) (k0:Bool) (a0:TMsg):Fit (R NN d 42 [.agg (Enc.cs k0 a0)] []) (m42 a0) (P1 (T:=TMsg) AV.agg):=by
  obtain ⟨d,rfl,g⟩:=up hd
  refine q_in (t42 NN d _) ?_
  unfold b42 m42
  exact q_box (n:=7) rfl rfl (by decide) fun b1=>q_new rfl fun b2=>q_q (fun _=>qs34_0)<|q_p fr<|q_ld 1 rfl rfl<|q_nil (α:=TCert) false<|q_app (ys:=a0.Certs) 0 rfl rfl (fun _ _=>rfl) fun v1 z1 hz1=>q_p fr<|q_sto1 2 rfl (fun S hS=>(HP.cell1 hS 0 rfl)) rfl<|q_q (fun _=>qs24_0)<|q_p fr<|q_ld 2 rfl rfl<|q_nil (α:=Int) false<|q_app (ys:=a0.Refs) 0 rfl rfl (fun _ _=>rfl) fun v2 z2 hz2=>q_p fr<|q_sto1 3 rfl (fun S hS=>(HP.cell1 hS 0 rfl)) rfl<|q_lda 3 rfl rfl rfl<|q_st 2 rfl rfl rfl (by decide) rfl<|q_outm (fun S hS=>hS.lda 2 rfl rfl) (tb_of (α:=TMsg) (β:=Int×Int×Int×Int×Int×(List TCert)×(List Int)) (f:=fun x=>(x.Kind,x.View,x.From,x.Slot,x.Value,x.Certs,x.Refs)) (x:=(⟨a0.Kind,a0.View,a0.From,a0.Slot,a0.Value,z1,z2⟩:TMsg)) rfl (tb_pair (tb_int (n:=a0.Kind)) (tb_pair (tb_int (n:=a0.View)) (tb_pair (tb_int (n:=a0.From)) (tb_pair (tb_int (n:=a0.Slot)) (tb_pair (tb_int (n:=a0.Value)) (tb_pair (tb_sl 1 rfl plt69) (tb_sl 0 rfl plt2)))))))) rfl
def ms41_0 (a0:List TMsg) (s1:Int×(List TMsg)):Option (LO (Int×(List TMsg))):=bif decide (s1.1 < (a0.length:Int)) then (getI a0 s1.1).bind fun x1=>(m42 x1).bind fun y1=>(appO 88 s1.2 [y1]).bind fun z1=>some (LO.norm (wi .i64 (s1.1 + 1),z1)) else some (LO.exit 0 (s1.1,s1.2))
def m41 (a0:List TMsg):Option ((List TMsg)):=(loopO (ms41_0 a0) NN (0,[])).bind (contO (fun _=>none) (fun i4 s2=>if i4 = 0 then some s2.2 else none) (fun s2=>some []))
theorem w41 {d:Nat} (hd:2≤d) (k0:Bool) (a0:List TMsg):Fit (R NN d 41 [.rsl k0 false (a0.map (Enc.cs k0))] []) (m41 a0) P1a:=by
  obtain ⟨d,rfl,g⟩:=up hd
  refine q_in (t41 NN d _) ?_
  unfold b41 m41
  refine q_q (fun _=>qs29_0)<|q_nila (α:=TMsg)<|q_loop (I:=(fun (s:Int×(List TMsg)) l L=>∃ (i1:List Nat) (v1:AV),l = [v1,.int .i64 s.1]∧L = [tra i1 v1 (s.2:List TMsg)])) 0 ⟨[],(.rsl false true []),rfl,rfl⟩ ?_ ?_ ?_
  ·rintro s1 _ _ ⟨i1,v1,rfl,rfl⟩
   unfold s41_0 ms41_0
   refine q_len<|q_p fr<|q_i ?_ ?_
   ·refine q_ix rfl fun x1 hx1=>q_p fr<|q_c1 (W:=AV.agg) (mg:=m42 x1) sh_agg (aF1 (cv_a (cvs_e (l0:=k0) (x:=x1))) fun l0_=>w42 (by omega) l0_ x1) fun y1 hy1 i2 cs1=>q_cx (fun S hS=>trx36 (hS.get (k:=0) rfl)) fun hcs_=>?_
    obtain ⟨v2,v3,rfl⟩:=hcs_
    exact q_ap1 rfl (fun _=>bt29) rfl fun z1 hz1 v4 i3=>q_p fr<|q_norm 0 ⟨i3,v4,rfl,rfl⟩
   ·exact q_exit 0 ⟨i1,v1,rfl,rfl⟩
  ·rintro i4 s2 _ _ ⟨i5,v5,rfl,rfl⟩
   exact q_n (q_outa 0 rfl)<|q_none
  ·rintro s2 _ _ ⟨i6,v6,rfl,rfl⟩
   exact q_nila (α:=TMsg)<|q_outa 0 rfl
def m22 (a0:List TMsg) (a1:TMsg):Option ((List TMsg)×Int):=(m40 a0 a1).bind fun y1=>bif decide (y1 ≥ 0) then (m41 a0).bind fun y2=>some (y2,0) else bif decide ((a0.length:Int) ≥ 240) then some ([],2) else (m41 a0).bind fun y3=>(m42 a1).bind fun y4=>(appO 88 y3 [y4]).bind fun z1=>some (z1,0)
theorem w22 {d:Nat} (hd:3≤d) (k0:Bool) (a0:List TMsg) (k1:Bool) (a1:TMsg):Fit (R NN d 22 [.rsl k0 false (a0.map (Enc.cs k0)),.rp k1 (Enc.cs k1 a1)] []) (m22 a0 a1) (P0 (fun (t:(List TMsg)×Int)=>AV.tup [.rsl false false (t.1.map (Enc.cs false)),.int .i64 t.2])):=by
  obtain ⟨d,rfl,g⟩:=up hd
  refine q_in (t22 NN d _ _) ?_
  unfold b22 m22
  refine q_c0 (aF2 cv_r (cv_rp (cvs_e (l0:=k1) (x:=a1)) (fun _ _ _ h=>Enc.frz k1 a1 _ _ _ h)) fun l0_ l1_=>w40 (by omega) l0_ a0 l1_ a1) fun y1 hy1=>q_p fr<|q_i ?_ ?_
  ·exact q_c1a (mg:=m41 a0) (aF1 cv_r fun l0_=>w41 (by omega) l0_ a0) fun y2 hy2 i1 v1=>q_ret (cv_t (cvs_cons (cv_tra 0 rfl) (cvs_cons (cv_p rfl) cvs_nil))) rfl
  ·refine q_len<|q_p fr<|q_i ?_ ?_
   ·exact q_ret (cv_t (cvs_cons (cv_r (α:=TMsg) (l0:=false) (fl:=true) (xs:=[])) (cvs_cons (cv_p rfl) cvs_nil))) rfl
   ·refine q_q fr<|q_p fr<|q_c1a (mg:=m41 a0) (aF1 cv_r fun l0_=>w41 (by omega) l0_ a0) fun y3 hy3 i2 v2=>q_c1 (W:=AV.agg) (mg:=m42 a1) sh_agg (aF1 (cv_a (cvs_e (l0:=k1) (x:=a1))) fun l0_=>w42 (by omega) l0_ a1) fun y4 hy4 i3 cs3=>q_cx (fun S hS=>trx36 (hS.get (k:=0) rfl)) fun hcs_=>?_
    obtain ⟨v3,v4,rfl⟩:=hcs_
    exact q_ap1 rfl (fun _=>bt29) rfl fun z1 hz1 v5 i4=>q_ret (cv_t (cvs_cons (cv_tra 0 rfl) (cvs_cons (cv_p rfl) cvs_nil))) rfl
def m6 (a0:Int) (a1:List TMsg) (a2:TMsg):Option (TLedgerResult):=(m19 a0 a1).bind fun y1=>bif y1 != 0 then some (⟨y1,[]⟩:TLedgerResult) else (m20 a0 a2).bind fun y2=>bif y2 != 0 then some (⟨y2,[]⟩:TLedgerResult) else (m21 a2 (a1.length:Int)).bind fun y3=>bif !y3 then some (⟨4,[]⟩:TLedgerResult) else (m22 a1 a2).bind fun y4=>some (⟨y4.2,y4.1⟩:TLedgerResult)
theorem w6 {d:Nat} (hd:6≤d) (a0:Int) (k1:Bool) (a1:List TMsg) (k2:Bool) (a2:TMsg):Fit (R NN d 6 [.int .i64 a0,.rsl k1 false (a1.map (Enc.cs k1)),.agg (Enc.cs k2 a2)] []) (m6 a0 a1 a2) (P0 (fun (t:TLedgerResult)=>AV.agg (Enc.cs false t))):=by
  obtain ⟨d,rfl,g⟩:=up hd
  refine q_in (t6 NN d _ _ _) ?_
  unfold b6 m6
  exact q_box (n:=7) rfl rfl (by decide) fun b1=>q_new rfl fun b2=>q_c0 (aF2 (cv_p rfl) cv_r fun l0_ l1_=>w19 (by omega) a0 l1_ a1) fun y1 hy1=>q_p fr<|q_i (q_p (fun _=>bd31_0 rfl)<|q_st 0 rfl rfl rfl (by decide) rfl<|q_retm (fun S hS=>hS.lda 0 rfl rfl) (cv_a (cvs_cons (cv_p rfl) (cvs_cons (cv_r (α:=TMsg) (l0:=false) (fl:=true) (xs:=[])) cvs_nil))) rfl)<|q_c0 (aF2 (cv_p rfl) (cv_b 1 rfl (cvs_cons (cv_p rfl) (cvs_cons (cv_p rfl) (cvs_cons (cv_p rfl) (cvs_cons (cv_p rfl) (cvs_cons (cv_p rfl) (cvs_cons cv_r (cvs_cons cv_r cvs_nil)))))))) fun l0_ l1_=>w20 (by omega) a0 l1_ a2) fun y2 hy2=>q_p fr<|q_i (q_p (fun _=>bd31_0 rfl)<|q_st 0 rfl rfl rfl (by decide) rfl<|q_retm (fun S hS=>hS.lda 0 rfl rfl) (cv_a (cvs_cons (cv_p rfl) (cvs_cons (cv_r (α:=TMsg) (l0:=false) (fl:=true) (xs:=[])) cvs_nil))) rfl)<|q_len<|q_c0 (aF2 (cv_b 1 rfl (cvs_cons (cv_p rfl) (cvs_cons (cv_p rfl) (cvs_cons (cv_p rfl) (cvs_cons (cv_p rfl) (cvs_cons (cv_p rfl) (cvs_cons cv_r (cvs_cons cv_r cvs_nil)))))))) (cv_p rfl) fun l0_ l1_=>w21 (by omega) l0_ a2 (a1.length:Int)) fun y3 hy3=>q_p fr<|q_i (q_p (fun _=>bd31_0 rfl)<|q_st 0 rfl rfl rfl (by decide) rfl<|q_retm (fun S hS=>hS.lda 0 rfl rfl) (cv_a (cvs_cons (cv_p rfl) (cvs_cons (cv_r (α:=TMsg) (l0:=false) (fl:=true) (xs:=[])) cvs_nil))) rfl)<|q_c0 (aF2 cv_r (cv_b 1 rfl (cvs_cons (cv_p rfl) (cvs_cons (cv_p rfl) (cvs_cons (cv_p rfl) (cvs_cons (cv_p rfl) (cvs_cons (cv_p rfl) (cvs_cons cv_r (cvs_cons cv_r cvs_nil)))))))) fun l0_ l1_=>w22 (by omega) l0_ a1 l1_ a2) fun y4 hy4=>q_q fr<|q_q fr<|q_p (fun _=>bd31_0_1 rfl)<|q_st 0 rfl rfl rfl (by decide) rfl<|q_retm (fun S hS=>hS.lda 0 rfl rfl) (cv_a (cvs_cons (cv_p rfl) (cvs_cons cv_r cvs_nil))) rfl
def m43 (a0:TCert):TCert:=a0
theorem w43 {d:Nat} (hd:1≤d) (k0:Bool) (a0:TCert):Fit (R NN d 43 [.agg (Enc.cs k0 a0)] []) (some (m43 a0)) (P0 (fun (t:TCert)=>AV.agg (Enc.cs false t))):=by
  obtain ⟨d,rfl,g⟩:=up hd
  refine q_in (t43 NN d _) ?_
  unfold b43 m43
  exact q_box (n:=3) rfl rfl (by decide) fun b1=>q_new rfl fun b2=>q_new rfl fun b3=>q_p fr<|q_ld 2 rfl rfl<|q_p fr<|q_st 0 rfl rfl rfl (by decide) rfl<|q_p fr<|q_ld 2 rfl rfl<|q_p fr<|q_st 0 rfl rfl rfl (by decide) rfl<|q_p fr<|q_ld 2 rfl rfl<|q_p fr<|q_st 0 rfl rfl rfl (by decide) rfl<|q_lda 0 rfl rfl rfl<|q_st 1 rfl rfl rfl (by decide) rfl<|q_retm (fun S hS=>hS.lda 1 rfl rfl) (cv_a (cvs_e (l0:=false) (x:=a0))) rfl
def ms23_0 (a0:List TCert) (s1:Int×(List TCert)):Option (LO (Int×(List TCert))):=bif decide (s1.1 < (a0.length:Int)) then (getI a0 s1.1).bind fun x1=>(getI s1.2 s1.1).bind fun x2=>some (LO.norm (wi .i64 (s1.1 + 1),s1.2.set (Int.toNat s1.1) (m43 x1))) else some (LO.exit 0 (s1.1,s1.2))
def m23 (a0:List TCert):Option ((List TCert)):=(mkO 24 (a0.length:Int) (⟨0,0,0⟩:TCert)).bind fun z1=>(loopO (ms23_0 a0) NN (0,z1)).bind (contO (fun _=>none) (fun i1 s2=>if i1 = 0 then some s2.2 else none) (fun s2=>some []))
theorem w23 {d:Nat} (hd:2≤d) (k0:Bool) (a0:List TCert):Fit (R NN d 23 [.rsl k0 false (a0.map (Enc.cs k0))] []) (m23 a0) (P1 (T:=List TCert) one1):=by
  obtain ⟨d,rfl,g⟩:=up hd
  refine q_in (t23 NN d _) ?_
  unfold b23 m23
  refine q_len<|q_mk (z:=(⟨0,0,0⟩:TCert)) mk34 fun v1 z1 hz1=>q_lp (A:=fun (s:Int×(List TCert))=>[.int .i64 s.1]) (B:=fun s=>[sl false v1 (s.2:List TCert)]) 0 rr ?_ ?_ ?_
  ·intro s1
   unfold s23_0 ms23_0
   exact q_len<|q_p fr<|q_i (q_ix rfl fun x1 hx1=>q_p fr<|q_c0t (aF1 (cv_a (cvs_e (l0:=k0) (x:=x1))) fun l0_=>w43 (by omega) l0_ x1)<|q_ixo 0 rfl rfl fun x2 hx2=>q_stoe (y:=(m43 x1)) 0 rfl rfl hx2 rfl (by decide)<|q_p fr<|q_norm 0 rr)<|q_exit 0 rr
  ·exact fun i1 s2=>q_n (q_out (tb_sl 0 rfl plt69) rfl)<|q_none
  ·exact fun s2=>q_out (tb_nil (α:=TCert) (fl:=true)) rfl
def ms24_0 (a0:List Int) (s1:Int×(List Int)):Option (LO (Int×(List Int))):=bif decide (s1.1 < (a0.length:Int)) then (getI a0 s1.1).bind fun x1=>(getI s1.2 s1.1).bind fun x2=>some (LO.norm (wi .i64 (s1.1 + 1),s1.2.set (Int.toNat s1.1) x1)) else some (LO.exit 0 (s1.1,s1.2))
def m24 (a0:List Int):Option ((List Int)):=(mkO 8 (a0.length:Int) 0).bind fun z1=>(loopO (ms24_0 a0) NN (0,z1)).bind (contO (fun _=>none) (fun i1 s2=>if i1 = 0 then some s2.2 else none) (fun s2=>some []))
theorem w24 {d:Nat} (hd:1≤d) (k0:Bool) (a0:List Int):Fit (R NN d 24 [.rsl k0 false (a0.map (Enc.cs k0))] []) (m24 a0) (P1 (T:=List Int) one1):=by
  obtain ⟨d,rfl,g⟩:=up hd
  refine q_in (t24 NN d _) ?_
  unfold b24 m24
  refine q_len<|q_mk (z:=0) mk24 fun v1 z1 hz1=>q_lp (A:=fun (s:Int×(List Int))=>[.int .i64 s.1]) (B:=fun s=>[sl false v1 (s.2:List Int)]) 0 rr ?_ ?_ ?_
  ·intro s1
   unfold s24_0 ms24_0
   exact q_len<|q_p fr<|q_i (q_ix rfl fun x1 hx1=>q_p fr<|q_ixo 0 rfl rfl fun x2 hx2=>q_stoe (y:=x1) 0 rfl rfl hx2 rfl (by decide)<|q_p fr<|q_norm 0 rr)<|q_exit 0 rr
  ·exact fun i1 s2=>q_n (q_out (tb_sl 0 rfl plt2) rfl)<|q_none
  ·exact fun s2=>q_out (tb_nil (α:=Int) (fl:=true)) rfl
def m8 (a0:TMsg):Option (TMsg):=(m23 a0.Certs).bind fun y1=>(m24 a0.Refs).bind fun y2=>some (⟨a0.Kind,a0.View,a0.From,a0.Slot,a0.Value,y1,y2⟩:TMsg)
theorem w8 {d:Nat} (hd:3≤d) (k0:Bool) (a0:TMsg):Fit (R NN d 8 [.agg (Enc.cs k0 a0)] []) (m8 a0) (P1 (T:=TMsg) AV.agg):=by
  obtain ⟨d,rfl,g⟩:=up hd
  refine q_in (t8 NN d _) ?_
  unfold b8 m8
  exact q_box (n:=7) rfl rfl (by decide) fun b1=>q_new rfl fun b2=>q_new rfl fun b3=>q_p fr<|q_ld 2 rfl rfl<|q_p fr<|q_st 0 rfl rfl rfl (by decide) rfl<|q_p fr<|q_ld 2 rfl rfl<|q_p fr<|q_st 0 rfl rfl rfl (by decide) rfl<|q_p fr<|q_ld 2 rfl rfl<|q_p fr<|q_st 0 rfl rfl rfl (by decide) rfl<|q_p fr<|q_ld 2 rfl rfl<|q_p fr<|q_st 0 rfl rfl rfl (by decide) rfl<|q_p fr<|q_ld 2 rfl rfl<|q_p fr<|q_st 0 rfl rfl rfl (by decide) rfl<|q_p fr<|q_ld 2 rfl rfl<|q_c1s (mg:=m23 a0.Certs) (aF1 cv_r fun l0_=>w23 (by omega) l0_ a0.Certs) fun y1 hy1 i1 v1=>q_p fr<|q_sto1 1 rfl (fun S hS=>(HP.cell1t hS 0 rfl)) rfl<|q_p fr<|q_ld 3 rfl rfl<|q_c1s (mg:=m24 a0.Refs) (aF1 cv_r fun l0_=>w24 (by omega) l0_ a0.Refs) fun y2 hy2 i2 v2=>q_p fr<|q_sto1 2 rfl (fun S hS=>(HP.cell1t hS 0 rfl)) rfl<|q_lda 2 rfl rfl rfl<|q_st 3 rfl rfl rfl (by decide) rfl<|q_outm (fun S hS=>hS.lda 3 rfl rfl) (tb_of (α:=TMsg) (β:=Int×Int×Int×Int×Int×(List TCert)×(List Int)) (f:=fun x=>(x.Kind,x.View,x.From,x.Slot,x.Value,x.Certs,x.Refs)) (x:=(⟨a0.Kind,a0.View,a0.From,a0.Slot,a0.Value,y1,y2⟩:TMsg)) rfl (tb_pair (tb_int (n:=a0.Kind)) (tb_pair (tb_int (n:=a0.View)) (tb_pair (tb_int (n:=a0.From)) (tb_pair (tb_int (n:=a0.Slot)) (tb_pair (tb_int (n:=a0.Value)) (tb_pair (tb_tr 1 rfl) (tb_tr 0 rfl)))))))) rfl
theorem w8f {d:Nat} (hd:3≤d) (k0:Bool) (a0:TMsg):Fit (R NN d 8 [.agg (Enc.cs k0 a0)] []) (m8 a0) (P0 (fun (t:TMsg)=>AV.agg (Enc.cs false t))):=p1_agg (w8 hd k0 a0)
def ms7_0 (a0:List TMsg) (s1:Int×(List TMsg)):Option (LO (Int×(List TMsg))):=bif decide (s1.1 < (a0.length:Int)) then (getI a0 s1.1).bind fun x1=>(m8 x1).bind fun y1=>(getI s1.2 s1.1).bind fun x2=>some (LO.norm (wi .i64 (s1.1 + 1),s1.2.set (Int.toNat s1.1) y1)) else some (LO.exit 0 (s1.1,s1.2))
def m7 (a0:List TMsg):Option ((List TMsg)):=(mkO 88 (a0.length:Int) (⟨0,0,0,0,0,[],[]⟩:TMsg)).bind fun z1=>(loopO (ms7_0 a0) NN (0,z1)).bind (contO (fun _=>none) (fun i5 s2=>if i5 = 0 then some s2.2 else none) (fun s2=>some []))
theorem w7 {d:Nat} (hd:4≤d) (k0:Bool) (a0:List TMsg):Fit (R NN d 7 [.rsl k0 false (a0.map (Enc.cs k0))] []) (m7 a0) (P1 (T:=List TMsg) one1):=by
  obtain ⟨d,rfl,g⟩:=up hd
  refine q_in (t7 NN d _) ?_
  unfold b7 m7
  refine q_len<|q_mkt (z:=(⟨0,0,0,0,0,[],[]⟩:TMsg)) mk29 ztr36 fun z1 hz1 v1 i1=>q_loop (I:=(fun (s:Int×(List TMsg)) l L=>∃ (i2:List Nat),l = [.int .i64 s.1]∧L = [tr i2 [v1] (s.2:List TMsg)])) 0 ⟨i1,rfl,rfl⟩ ?_ ?_ ?_
  ·rintro s1 _ _ ⟨i2,rfl,rfl⟩
   unfold s7_0 ms7_0
   refine q_len<|q_p fr<|q_i ?_ ?_
   ·refine q_ix rfl fun x1 hx1=>q_p fr<|q_c1 (W:=AV.agg) (mg:=m8 x1) sh_agg (aF1 (cv_a (cvs_e (l0:=k0) (x:=x1))) fun l0_=>w8 (by omega) l0_ x1) fun y1 hy1 i3 cs1=>q_cx (fun S hS=>trx36 (hS.get (k:=0) rfl)) fun hcs_=>?_
    obtain ⟨v2,v3,rfl⟩:=hcs_
    exact q_ixt 1 rfl rfl fun x2 hx2=>q_ste rfl (by decide) hx2 rfl fun i4=>q_p fr<|q_norm 0 ⟨i4,rfl,rfl⟩
   ·exact q_exit 0 ⟨i2,rfl,rfl⟩
  ·rintro i5 s2 _ _ ⟨i6,rfl,rfl⟩
   exact q_n (q_out (tb_tr 0 rfl) rfl)<|q_none
  ·rintro s2 _ _ ⟨i7,rfl,rfl⟩
   exact q_out (tb_nil (α:=TMsg) (fl:=true)) rfl
theorem w7f {d:Nat} (hd:4≤d) (k0:Bool) (a0:List TMsg):Fit (R NN d 7 [.rsl k0 false (a0.map (Enc.cs k0))] []) (m7 a0) (P0 (fun (t:List TMsg)=>AV.rsl false false (t.map (Enc.cs false)))):=p1_sl (w7 hd k0 a0)
def m48 (a0:Int) (a1:Int) (a2:Int):Bool:=bif decide (a1≤a0) then decide (a0≤a2) else false
theorem w48 {d:Nat} (hd:1≤d) (a0:Int) (a1:Int) (a2:Int):Fit (R NN d 48 [.int .i64 a0,.int .i64 a1,.int .i64 a2] []) (some (m48 a0 a1 a2)) PB:=by
  obtain ⟨d,rfl,g⟩:=up hd
  refine q_in (t48 NN d _ _ _) ?_
  unfold b48 m48
  exact q_p fr<|q_gTt (fun h1=>q_p fr<|q_ret (cv_p rfl) rfl) fun h1=>q_ret (cv_p rfl) rfl
def m47 (a0:Int):Bool:=(m48 a0 1 3)
theorem w47 {d:Nat} (hd:2≤d) (a0:Int):Fit (R NN d 47 [.int .i64 a0] []) (some (m47 a0)) PB:=by
  obtain ⟨d,rfl,g⟩:=up hd
  refine q_in (t47 NN d _) ?_
  unfold b47 m47
  exact q_c0t (aF3 (cv_p rfl) (cv_p rfl) (cv_p rfl) fun l0_ l1_ l2_=>w48 (by omega) a0 1 3)<|q_ret (cv_p rfl) rfl
def m49 (a0:Int):Bool:=(m48 a0 0 20)
theorem w49 {d:Nat} (hd:2≤d) (a0:Int):Fit (R NN d 49 [.int .i64 a0] []) (some (m49 a0)) PB:=by
  obtain ⟨d,rfl,g⟩:=up hd
  refine q_in (t49 NN d _) ?_
  unfold b49 m49
  exact q_c0t (aF3 (cv_p rfl) (cv_p rfl) (cv_p rfl) fun l0_ l1_ l2_=>w48 (by omega) a0 0 20)<|q_ret (cv_p rfl) rfl
def m53 (a0:Int):Int:=wi .i64 ((wi .i64 (3 * a0)) + 1)
theorem w53 {d:Nat} (hd:1≤d) (a0:Int):Fit (R NN d 53 [.int .i64 a0] []) (some (m53 a0)) PI:=by
  obtain ⟨d,rfl,g⟩:=up hd
  refine q_in (t53 NN d _) ?_
  unfold b53 m53
  exact q_p fr<|q_p fr<|q_ret (cv_p rfl) rfl
def m50 (a0:Int) (a1:Int):Bool:=(m48 a1 1 (m53 a0))
theorem w50 {d:Nat} (hd:2≤d) (a0:Int) (a1:Int):Fit (R NN d 50 [.int .i64 a0,.int .i64 a1] []) (some (m50 a0 a1)) PB:=by
  obtain ⟨d,rfl,g⟩:=up hd
  refine q_in (t50 NN d _ _) ?_
  unfold b50 m50
  exact q_c0t (aF1 (cv_p rfl) fun l0_=>w53 (by omega) a0)<|q_c0t (aF3 (cv_p rfl) (cv_p rfl) (cv_p rfl) fun l0_ l1_ l2_=>w48 (by omega) a1 1 (m53 a0))<|q_ret (cv_p rfl) rfl
def m51 (a0:Int):Bool:=(m48 a0 1 30)
theorem w51 {d:Nat} (hd:2≤d) (a0:Int):Fit (R NN d 51 [.int .i64 a0] []) (some (m51 a0)) PB:=by
  obtain ⟨d,rfl,g⟩:=up hd
  refine q_in (t51 NN d _) ?_
  unfold b51 m51
  exact q_c0t (aF3 (cv_p rfl) (cv_p rfl) (cv_p rfl) fun l0_ l1_ l2_=>w48 (by omega) a0 1 30)<|q_ret (cv_p rfl) rfl
def m52 (a0:Int):Bool:=(m48 a0 0 12)
theorem w52 {d:Nat} (hd:2≤d) (a0:Int):Fit (R NN d 52 [.int .i64 a0] []) (some (m52 a0)) PB:=by
  obtain ⟨d,rfl,g⟩:=up hd
  refine q_in (t52 NN d _) ?_
  unfold b52 m52
  exact q_c0t (aF3 (cv_p rfl) (cv_p rfl) (cv_p rfl) fun l0_ l1_ l2_=>w48 (by omega) a0 0 12)<|q_ret (cv_p rfl) rfl
def ms68_0 (a0:List TCert) (a1:TCert→Option (Bool)) (s1:Int×Int):Option (LO (Int×Int)):=bif decide (s1.2 < (a0.length:Int)) then (getI a0 s1.2).bind fun x1=>(a1 x1).bind fun y1=>bif y1 then some (LO.ret (s1.2,s1.2)) else some (LO.norm (s1.1,wi .i64 (s1.2 + 1))) else some (LO.exit 0 (s1.1,s1.2))
def m68 (a0:List TCert) (a1:TCert→Option (Bool)):Option (Int):=(loopO (ms68_0 a0 a1) NN (0,0)).bind (contO (fun _=>none) (fun i1 s2=>if i1 = 0 then some (-1) else none) (fun s2=>some s2.1))
theorem w68 {Dc:Nat} {d:Nat} (hd:Dc + 1≤d) (k0:Bool) (a0:List TCert) (c1:Bool→AV) (hc1:∀ l,CV 8 [] false (c1 l) c1) (a1:TCert→Option (Bool)) (tc1:∀ (d:Nat),Dc≤d→∀ (l:Bool) (q0:Bool) (x0:TCert) (S:St) (t:Bool),a1 x0 = some t→callV (cfg NN) (R NN d) 68 (c1 l) [.agg (Enc.cs q0 x0)] S = some ((fun (t:Bool)=>AV.bool t) t,S)) (k1:Bool):Fit (R NN d 68 [.rsl k0 false (a0.map (Enc.cs k0)),c1 k1] []) (m68 a0 a1) PI:=by
  obtain ⟨d,rfl,g⟩:=up hd
  refine q_in (t68 NN d _ _) ?_
  unfold b68 m68
  refine q_len<|q_lp (A:=fun (s:Int×Int)=>[.int .i64 s.1,.int .i64 s.2]) (B:=fun s=>[]) 0 rr ?_ ?_ ?_
  ·intro s1
   unfold s68_0 ms68_0
   exact q_p fr<|q_i (q_ix rfl fun x1 hx1=>q_p fr<|q_cv (mg:=a1 x1) (E:=(fun (t:Bool)=>AV.bool t)) (fun S t ht=>tc1 d (by omega) k1 k0 x1 S t ht) fun y1 hy1=>q_i (q_lret 0 rr)<|q_p fr<|q_norm 0 rr)<|q_exit 0 rr
  ·exact fun i1 s2=>q_n (q_ret (cv_p rfl) rfl)<|q_none
  ·exact fun s2=>q_ret (cv_p rfl) rfl
def m54 (a0:List TCert) (a1:TCert→Option (Bool)):Option (Bool):=(m68 a0 a1).bind fun y1=>some (decide (y1 ≥ 0))
theorem w54 {Dc:Nat} {d:Nat} (hd:Dc + 2≤d) (k0:Bool) (a0:List TCert) (c1:Bool→AV) (hc1:∀ l,CV 8 [] false (c1 l) c1) (a1:TCert→Option (Bool)) (tc1:∀ (d:Nat),Dc≤d→∀ (l:Bool) (q0:Bool) (x0:TCert) (S:St) (t:Bool),a1 x0 = some t→callV (cfg NN) (R NN d) 68 (c1 l) [.agg (Enc.cs q0 x0)] S = some ((fun (t:Bool)=>AV.bool t) t,S)) (k1:Bool):Fit (R NN d 54 [.rsl k0 false (a0.map (Enc.cs k0)),c1 k1] []) (m54 a0 a1) PB:=by
  obtain ⟨d,rfl,g⟩:=up hd
  refine q_in (t54 NN d _ _) ?_
  unfold b54 m54
  exact q_c0 (aF2 cv_r (CV.any (hc1 k1)) fun l0_ l1_=>w68 (by omega) l0_ a0 c1 hc1 a1 tc1 l1_) fun y1 hy1=>q_p fr<|q_ret (cv_p rfl) rfl
def m55 (a0:TCert) (a1:TMsg):Option (Bool):=( bif !(m51 a0.Slot) then some (LO.norm true) else bif !(m48 a0.View 0 (wi .i64 (a1.View - 1))) then some (LO.norm true) else some (LO.norm (!(m52 a0.Value)))).bind (contO (fun s2=>some s2) (fun i1 s2=>none) (fun s2=>some s2))
theorem w55 {d:Nat} (hd:3≤d) (k0:Bool) (a0:TCert) (k1:Bool) (a1:TMsg):Fit (R NN d 55 [.agg (Enc.cs k0 a0),.rp k1 (Enc.cs k1 a1)] []) (m55 a0 a1) PB:=by
  obtain ⟨d,rfl,g⟩:=up hd
  refine q_in (t55 NN d _ _) ?_
  unfold b55 m55
  refine q_box (n:=3) rfl rfl (by decide) fun b1=>q_cu (A:=fun (s:Bool)=>[.bool s]) (B:=fun s=>[bx b1 [.int .i64 a0.Slot,.int .i64 a0.View,.int .i64 a0.Value]]) ?_ ?_ ?_ ?_
  ·exact q_p fr<|q_ld 0 rfl rfl<|q_c0t (aF1 (cv_p rfl) fun l0_=>w51 (by omega) a0.Slot)<|q_p fr<|q_j (q_norm 0 rr)<|q_p fr<|q_ld 0 rfl rfl<|q_p fr<|q_p fr<|q_p fr<|q_c0t (aF3 (cv_p rfl) (cv_p rfl) (cv_p rfl) fun l0_ l1_ l2_=>w48 (by omega) a0.View 0 (wi .i64 (a1.View - 1)))<|q_p fr<|q_j (q_norm 0 rr)<|q_p fr<|q_ld 0 rfl rfl<|q_c0t (aF1 (cv_p rfl) fun l0_=>w52 (by omega) a0.Value)<|q_p fr<|q_norm 0 rr
  ·exact fun s2=>q_ret (cv_p rfl) rfl
  ·exact fun i1 s2=>q_none
  ·exact fun s2=>q_ret (cv_p rfl) rfl
def ms69_0 (a0:List Int) (a1:Int→Option (Bool)) (s1:Int×Int):Option (LO (Int×Int)):=bif decide (s1.2 < (a0.length:Int)) then (getI a0 s1.2).bind fun x1=>(a1 x1).bind fun y1=>bif y1 then some (LO.ret (s1.2,s1.2)) else some (LO.norm (s1.1,wi .i64 (s1.2 + 1))) else some (LO.exit 0 (s1.1,s1.2))
def m69 (a0:List Int) (a1:Int→Option (Bool)):Option (Int):=(loopO (ms69_0 a0 a1) NN (0,0)).bind (contO (fun _=>none) (fun i1 s2=>if i1 = 0 then some (-1) else none) (fun s2=>some s2.1))
theorem w69 {Dc:Nat} {d:Nat} (hd:Dc + 1≤d) (k0:Bool) (a0:List Int) (c1:Bool→AV) (hc1:∀ l,CV 8 [] false (c1 l) c1) (a1:Int→Option (Bool)) (tc1:∀ (d:Nat),Dc≤d→∀ (l:Bool) (x0:Int) (S:St) (t:Bool),a1 x0 = some t→callV (cfg NN) (R NN d) 69 (c1 l) [.int .i64 x0] S = some ((fun (t:Bool)=>AV.bool t) t,S)) (k1:Bool):Fit (R NN d 69 [.rsl k0 false (a0.map (Enc.cs k0)),c1 k1] []) (m69 a0 a1) PI:=by
  obtain ⟨d,rfl,g⟩:=up hd
  refine q_in (t69 NN d _ _) ?_
  unfold b69 m69
  refine q_len<|q_lp (A:=fun (s:Int×Int)=>[.int .i64 s.1,.int .i64 s.2]) (B:=fun s=>[]) 0 rr ?_ ?_ ?_
  ·intro s1
   unfold s69_0 ms69_0
   exact q_p fr<|q_i (q_ix rfl fun x1 hx1=>q_p fr<|q_cv (mg:=a1 x1) (E:=(fun (t:Bool)=>AV.bool t)) (fun S t ht=>tc1 d (by omega) k1 x1 S t ht) fun y1 hy1=>q_i (q_lret 0 rr)<|q_p fr<|q_norm 0 rr)<|q_exit 0 rr
  ·exact fun i1 s2=>q_n (q_ret (cv_p rfl) rfl)<|q_none
  ·exact fun s2=>q_ret (cv_p rfl) rfl
def m56 (a0:List Int) (a1:Int→Option (Bool)):Option (Bool):=(m69 a0 a1).bind fun y1=>some (decide (y1 ≥ 0))
theorem w56 {Dc:Nat} {d:Nat} (hd:Dc + 2≤d) (k0:Bool) (a0:List Int) (c1:Bool→AV) (hc1:∀ l,CV 8 [] false (c1 l) c1) (a1:Int→Option (Bool)) (tc1:∀ (d:Nat),Dc≤d→∀ (l:Bool) (x0:Int) (S:St) (t:Bool),a1 x0 = some t→callV (cfg NN) (R NN d) 69 (c1 l) [.int .i64 x0] S = some ((fun (t:Bool)=>AV.bool t) t,S)) (k1:Bool):Fit (R NN d 56 [.rsl k0 false (a0.map (Enc.cs k0)),c1 k1] []) (m56 a0 a1) PB:=by
  obtain ⟨d,rfl,g⟩:=up hd
  refine q_in (t56 NN d _ _) ?_
  unfold b56 m56
  exact q_c0 (aF2 cv_r (CV.any (hc1 k1)) fun l0_ l1_=>w69 (by omega) l0_ a0 c1 hc1 a1 tc1 l1_) fun y1 hy1=>q_p fr<|q_ret (cv_p rfl) rfl
def m57 (a0:Int):Bool:=!(m48 a0 0 239)
theorem w57 {d:Nat} (hd:2≤d) (a0:Int):Fit (R NN d 57 [.int .i64 a0] []) (some (m57 a0)) PB:=by
  obtain ⟨d,rfl,g⟩:=up hd
  refine q_in (t57 NN d _) ?_
  unfold b57 m57
  exact q_c0t (aF3 (cv_p rfl) (cv_p rfl) (cv_p rfl) fun l0_ l1_ l2_=>w48 (by omega) a0 0 239)<|q_p fr<|q_ret (cv_p rfl) rfl
def ms26_0 (a1:TMsg) (s7:Int×Int):Option (LO (Int×Int)):=bif decide (s7.2 < (a1.Certs.length:Int)) then ( (getI a1.Certs s7.2).bind fun x1=>bif decide (s7.2 > 0) then (getI a1.Certs (wi .i64 (s7.2 - 1))).bind fun x2=>bif decide (x1.Slot≤x2.Slot) then some (LO.ret 1) else some (LO.norm s7.1) else some (LO.norm s7.1)).bind (contO (fun s9=>some (LO.norm (s9,wi .i64 (s7.2 + 1)))) (fun i4 s9=>some (LO.exit i4 (s9,s7.2))) (fun s9=>some (LO.ret (s9,s7.2)))) else some (LO.exit 1 (s7.1,s7.2))
def ms26_1 (a1:TMsg) (s11:Int×Int):Option (LO (Int×Int)):=bif decide (s11.2 < (a1.Refs.length:Int)) then ( (getI a1.Refs s11.2).bind fun x3=>bif decide (s11.2 > 0) then (getI a1.Refs (wi .i64 (s11.2 - 1))).bind fun x4=>bif decide (x3≤x4) then some (LO.ret 1) else some (LO.norm s11.1) else some (LO.norm s11.1)).bind (contO (fun s13=>some (LO.norm (s13,wi .i64 (s11.2 + 1)))) (fun i6 s13=>some (LO.exit i6 (s13,s11.2))) (fun s13=>some (LO.ret (s13,s11.2)))) else some (LO.exit 3 (s11.1,s11.2))
def m26 (a0:Int) (a1:TMsg):Option (Int):=( ( bif !(m48 a1.Kind 1 5) then some (LO.norm true) else bif !(m47 a1.Kind) then bif a1.Slot != 0 then some (LO.norm true) else bif a1.Value != 0 then some (LO.norm true) else bif a1.Kind != 4 then bif decide ((a1.Certs.length:Int) > 0) then some (LO.norm true) else bif a1.Kind != 5 then some (LO.norm (decide ((a1.Refs.length:Int) > 0))) else some (LO.norm false) else bif a1.Kind != 5 then some (LO.norm (decide ((a1.Refs.length:Int) > 0))) else some (LO.norm false) else bif a1.Kind != 4 then bif decide ((a1.Certs.length:Int) > 0) then some (LO.norm true) else bif a1.Kind != 5 then some (LO.norm (decide ((a1.Refs.length:Int) > 0))) else some (LO.norm false) else bif a1.Kind != 5 then some (LO.norm (decide ((a1.Refs.length:Int) > 0))) else some (LO.norm false)).bind (contO (fun s3=>bif s3 then some (LO.ret 1) else ( bif !(m49 a1.View) then some (LO.norm true) else bif !(m50 a0 a1.From) then some (LO.norm true) else bif (m47 a1.Kind) then bif !(m51 a1.Slot) then some (LO.norm true) else some (LO.norm (!(m52 a1.Value))) else some (LO.norm false)).bind (contO (fun s5=>bif s5 then some (LO.ret 3) else bif decide ((a1.Certs.length:Int) > 30) then some (LO.ret 2) else bif decide ((a1.Refs.length:Int) > (m53 a0)) then some (LO.ret 2) else some (LO.norm 0)) (fun i2 s5=>if i2 = 0 then some (LO.norm 0) else some (LO.exit i2 0)) (fun s5=>some (LO.ret 0)))) (fun i1 s3=>if i1 = 0 then some (LO.norm 0) else some (LO.exit i1 0)) (fun s3=>some (LO.ret 0)))).bind (contO (fun s6=>(loopO (ms26_0 a1) NN (s6,0)).bind (contO (fun _=>none) (fun i5 s10=>if i5 = 1 then (loopO (ms26_1 a1) NN (s10.1,0)).bind (contO (fun _=>none) (fun i7 s14=>if i7 = 3 then (m54 a1.Certs (fun x0_=>m55 x0_ a1)).bind fun y1=>bif y1 then some 3 else (m56 a1.Refs (fun x0_=>some (m57 x0_))).bind fun y2=>bif y2 then some 3 else some 0 else none) (fun s14=>some s14.1)) else none) (fun s10=>some s10.1))) (fun i3 s6=>none) (fun s6=>some s6))
theorem w26 {d:Nat} (hd:6≤d) (a0:Int) (k1:Bool) (a1:TMsg):Fit (R NN d 26 [.int .i64 a0,.agg (Enc.cs k1 a1)] []) (m26 a0 a1) PI:=by
  obtain ⟨d,rfl,g⟩:=up hd
  refine q_in (t26 NN d _ _) ?_
  unfold b26 m26
  refine q_box (n:=7) rfl rfl (by decide) fun b1=>q_p fr<|q_ld 0 rfl rfl<|q_c0t (aF1 (cv_p rfl) fun l0_=>w47 (by omega) a1.Kind)<|q_cu (A:=fun (s:Int)=>[.int .i64 s]) (B:=fun s=>[bx b1 [.int .i64 a1.Kind,.int .i64 a1.View,.int .i64 a1.From,.int .i64 a1.Slot,.int .i64 a1.Value,.rsl k1 false (a1.Certs.map (Enc.cs k1)),.rsl k1 false (a1.Refs.map (Enc.cs k1))]]) ?_ ?_ ?_ ?_
  ·refine q_cu (A:=fun (s:Bool)=>[.bool s]) (B:=fun s=>[bx b1 [.int .i64 a1.Kind,.int .i64 a1.View,.int .i64 a1.From,.int .i64 a1.Slot,.int .i64 a1.Value,.rsl k1 false (a1.Certs.map (Enc.cs k1)),.rsl k1 false (a1.Refs.map (Enc.cs k1))]]) ?_ ?_ ?_ ?_
   ·exact q_p fr<|q_ld 0 rfl rfl<|q_c0t (aF3 (cv_p rfl) (cv_p rfl) (cv_p rfl) fun l0_ l1_ l2_=>w48 (by omega) a1.Kind 1 5)<|q_p fr<|q_j (q_norm 0 rr)<|q_p fr<|q_k (q_p fr<|q_ld 0 rfl rfl<|q_p fr<|q_j (q_norm 0 rr)<|q_p fr<|q_ld 0 rfl rfl<|q_p fr<|q_j (q_norm 0 rr)<|q_p fr<|q_ld 0 rfl rfl<|q_p fr<|q_k (q_p fr<|q_ld 0 rfl rfl<|q_len<|q_p fr<|q_j (q_norm 0 rr)<|q_p fr<|q_ld 0 rfl rfl<|q_p fr<|q_k (q_p fr<|q_ld 0 rfl rfl<|q_len<|q_p fr<|q_norm 0 rr)<|q_norm 0 rr)<|q_p fr<|q_ld 0 rfl rfl<|q_p fr<|q_k (q_p fr<|q_ld 0 rfl rfl<|q_len<|q_p fr<|q_norm 0 rr)<|q_norm 0 rr)<|q_p fr<|q_ld 0 rfl rfl<|q_p fr<|q_k (q_p fr<|q_ld 0 rfl rfl<|q_len<|q_p fr<|q_j (q_norm 0 rr)<|q_p fr<|q_ld 0 rfl rfl<|q_p fr<|q_k (q_p fr<|q_ld 0 rfl rfl<|q_len<|q_p fr<|q_norm 0 rr)<|q_norm 0 rr)<|q_p fr<|q_ld 0 rfl rfl<|q_p fr<|q_k (q_p fr<|q_ld 0 rfl rfl<|q_len<|q_p fr<|q_norm 0 rr)<|q_norm 0 rr
   ·intro s3
    refine q_i ?_ ?_
    ·exact q_lret 0 rr
    ·refine q_cu (A:=fun (s:Bool)=>[.bool s]) (B:=fun s=>[bx b1 [.int .i64 a1.Kind,.int .i64 a1.View,.int .i64 a1.From,.int .i64 a1.Slot,.int .i64 a1.Value,.rsl k1 false (a1.Certs.map (Enc.cs k1)),.rsl k1 false (a1.Refs.map (Enc.cs k1))]]) ?_ ?_ ?_ ?_
     ·exact q_p fr<|q_ld 0 rfl rfl<|q_c0t (aF1 (cv_p rfl) fun l0_=>w49 (by omega) a1.View)<|q_p fr<|q_j (q_norm 0 rr)<|q_p fr<|q_ld 0 rfl rfl<|q_c0t (aF2 (cv_p rfl) (cv_p rfl) fun l0_ l1_=>w50 (by omega) a0 a1.From)<|q_p fr<|q_j (q_norm 0 rr)<|q_k (q_p fr<|q_ld 0 rfl rfl<|q_c0t (aF1 (cv_p rfl) fun l0_=>w51 (by omega) a1.Slot)<|q_p fr<|q_j (q_norm 0 rr)<|q_p fr<|q_ld 0 rfl rfl<|q_c0t (aF1 (cv_p rfl) fun l0_=>w52 (by omega) a1.Value)<|q_p fr<|q_norm 0 rr)<|q_norm 0 rr
     ·intro s5
      refine q_i ?_ ?_
      ·exact q_lret 0 rr
      ·refine q_p fr<|q_ld 0 rfl rfl<|q_len<|q_p fr<|q_j ?_ ?_
       ·first | refine q_ifT1 ?_ | skip
        exact q_lret 0 rr
       ·exact q_p fr<|q_ld 0 rfl rfl<|q_len<|q_c0t (aF1 (cv_p rfl) fun l0_=>w53 (by omega) a0)<|q_p fr<|q_i (q_lret 0 rr)<|q_norm 0 rr
     ·exact fun i2 s5=>q_n (q_norm 0 rr)<|q_exit 0 rr
     ·exact fun s5=>q_lret 0 rr
   ·exact fun i1 s3=>q_n (q_norm 0 rr)<|q_exit 0 rr
   ·exact fun s3=>q_lret 0 rr
  ·intro s6
   refine q_p fr<|q_ld 0 rfl rfl<|q_len<|q_lp (A:=fun (s:Int×Int)=>[.int .i64 s.1,.int .i64 s.2]) (B:=fun s=>[bx b1 [.int .i64 a1.Kind,.int .i64 a1.View,.int .i64 a1.From,.int .i64 a1.Slot,.int .i64 a1.Value,.rsl k1 false (a1.Certs.map (Enc.cs k1)),.rsl k1 false (a1.Refs.map (Enc.cs k1))]]) 0 rr ?_ ?_ ?_
   ·intro s7
    unfold s26_0 ms26_0
    refine q_p fr<|q_i ?_ ?_
    ·refine q_cu (A:=fun (s:Int)=>[.int .i64 s]) (B:=fun s=>[bx b1 [.int .i64 a1.Kind,.int .i64 a1.View,.int .i64 a1.From,.int .i64 a1.Slot,.int .i64 a1.Value,.rsl k1 false (a1.Certs.map (Enc.cs k1)),.rsl k1 false (a1.Refs.map (Enc.cs k1))]]) ?_ ?_ ?_ ?_
     ·refine q_ix rfl fun x1 hx1=>q_p fr<|q_new rfl fun b2=>q_st 0 rfl rfl rfl (by decide) rfl<|q_p fr<|q_k ?_ ?_
      ·exact q_p fr<|q_ld 0 rfl rfl<|q_p fr<|q_ld 1 rfl rfl<|q_p fr<|q_ix rfl fun x2 hx2=>q_p fr<|q_p fr<|q_p fr<|q_i (q_lret 1 rr)<|q_norm 1 rr
      ·first | refine q_ifF1 ?_ | skip
       exact q_norm 1 rr
     ·exact fun s9=>q_p fr<|q_norm 0 rr
     ·exact fun i4 s9=>q_exit 0 rr
     ·exact fun s9=>q_lret 0 rr
    ·exact q_exit 0 rr
   ·intro i5 s10
    refine q_n ?_ ?_
    ·refine q_p fr<|q_ld 0 rfl rfl<|q_len<|q_lp (A:=fun (s:Int×Int)=>[.int .i64 s.1,.int .i64 s.2]) (B:=fun s=>[bx b1 [.int .i64 a1.Kind,.int .i64 a1.View,.int .i64 a1.From,.int .i64 a1.Slot,.int .i64 a1.Value,.rsl k1 false (a1.Certs.map (Enc.cs k1)),.rsl k1 false (a1.Refs.map (Enc.cs k1))]]) 0 rr ?_ ?_ ?_
     ·intro s11
      unfold s26_1 ms26_1
      refine q_p fr<|q_i ?_ ?_
      ·refine q_cu (A:=fun (s:Int)=>[.int .i64 s]) (B:=fun s=>[bx b1 [.int .i64 a1.Kind,.int .i64 a1.View,.int .i64 a1.From,.int .i64 a1.Slot,.int .i64 a1.Value,.rsl k1 false (a1.Certs.map (Enc.cs k1)),.rsl k1 false (a1.Refs.map (Enc.cs k1))]]) ?_ ?_ ?_ ?_
       ·refine q_ix rfl fun x3 hx3=>q_p fr<|q_p fr<|q_k ?_ ?_
        ·exact q_p fr<|q_ld 0 rfl rfl<|q_p fr<|q_ix rfl fun x4 hx4=>q_p fr<|q_p fr<|q_i (q_lret 0 rr)<|q_norm 0 rr
        ·first | refine q_ifF1 ?_ | skip
         exact q_norm 0 rr
       ·exact fun s13=>q_p fr<|q_norm 0 rr
       ·exact fun i6 s13=>q_exit 0 rr
       ·exact fun s13=>q_lret 0 rr
      ·exact q_exit 0 rr
     ·exact fun i7 s14=>q_n (q_p fr<|q_ld 0 rfl rfl<|q_c0 (aF2 cv_r (cv_f (cvs_cons (cv_b 0 rfl (cvs_e (l0:=k1) (x:=a1))) cvs_nil)) fun l0_ l1_=>w54 (Dc:=3) (by omega) l0_ a1.Certs (fun l=>.fn 55 [.rp l (Enc.cs l a1)]) (fun l=>cv_f (cvs_cons (cv_rp (cvs_e (l0:=l) (x:=a1)) (fun _ _ _ h=>Enc.frz _ a1 _ _ _ h)) cvs_nil)) (fun x0_=>m55 x0_ a1) (fun d hd l q0_ x0_ S t ht=>(cv68_55 _ _ _ _).trans (call0_of (E:=(fun (t:Bool)=>AV.bool t)) (mg:=m55 x0_ a1) (args2 (M:=fun a=>Fit (R NN d 55 a []) _ _) (cv_a (cvs_e (l0:=q0_) (x:=x0_))) (cv_rp (cvs_e (l0:=l) (x:=a1)) (fun _ _ _ h=>Enc.frz _ a1 _ _ _ h)) HP.nil fun u0_ v0_=>w55 hd u0_ x0_ v0_ a1) ht)) l1_) fun y1 hy1=>q_i (q_ret (cv_p rfl) rfl)<|q_p fr<|q_ld 0 rfl rfl<|q_c0 (aF2 cv_r (cv_f cvs_nil) fun l0_ l1_=>w56 (Dc:=2) (by omega) l0_ a1.Refs (fun l=>.fn 57 []) (fun l=>cv_f cvs_nil) (fun x0_=>some (m57 x0_)) (fun d hd l x0_ S t ht=>(cv69_57 _ _ _ _).trans (call0_of (E:=(fun (t:Bool)=>AV.bool t)) (mg:=some (m57 x0_)) (args1 (M:=fun a=>Fit (R NN d 57 a []) _ _) (cv_p rfl) HP.nil fun u0_=>w57 hd x0_) ht)) l1_) fun y2 hy2=>q_i (q_ret (cv_p rfl) rfl)<|q_ret (cv_p rfl) rfl)<|q_none
     ·exact fun s14=>q_ret (cv_p rfl) rfl
    ·exact q_none
   ·exact fun s10=>q_ret (cv_p rfl) rfl
  ·exact fun i3 s6=>q_none
  ·exact fun s6=>q_ret (cv_p rfl) rfl
def m44 (a0:Int):Bool:=(m48 a0 1 2)
theorem w44 {d:Nat} (hd:2≤d) (a0:Int):Fit (R NN d 44 [.int .i64 a0] []) (some (m44 a0)) PB:=by
  obtain ⟨d,rfl,g⟩:=up hd
  refine q_in (t44 NN d _) ?_
  unfold b44 m44
  exact q_c0t (aF3 (cv_p rfl) (cv_p rfl) (cv_p rfl) fun l0_ l1_ l2_=>w48 (by omega) a0 1 2)<|q_ret (cv_p rfl) rfl
def m64 (a0:Int) (a1:Int):Bool:=decide (a0 ≥ a1)
theorem w64 {d:Nat} (hd:1≤d) (a0:Int) (k1:Bool) (a1:Int):Fit (R NN d 64 [.int .i64 a0,.rp k1 (Enc.cs k1 a1)] []) (some (m64 a0 a1)) PB:=by
  obtain ⟨d,rfl,g⟩:=up hd
  refine q_in (t64 NN d _ _) ?_
  unfold b64 m64
  exact q_p fr<|q_p fr<|q_ret (cv_p rfl) rfl
def m45 (a0:TMsg) (a1:Int):Option (Bool):=(m56 a0.Refs (fun x0_=>some (m64 x0_ a1))).bind fun y1=>some (!y1)
theorem w45 {d:Nat} (hd:4≤d) (k0:Bool) (a0:TMsg) (a1:Int):Fit (R NN d 45 [.agg (Enc.cs k0 a0),.int .i64 a1] []) (m45 a0 a1) PB:=by
  obtain ⟨d,rfl,g⟩:=up hd
  refine q_in (t45 NN d _ _) ?_
  unfold b45 m45
  exact q_box (n:=7) rfl rfl (by decide) fun b1=>q_box (n:=1) rfl rfl (by decide) fun b2=>q_p fr<|q_ld 1 rfl rfl<|q_c0 (aF2 cv_r (cv_f (cvs_cons (cv_b 0 rfl (cvs_e (l0:=false) (x:=a1))) cvs_nil)) fun l0_ l1_=>w56 (Dc:=1) (by omega) l0_ a0.Refs (fun l=>.fn 64 [.rp l (Enc.cs l a1)]) (fun l=>cv_f (cvs_cons (cv_rp (cvs_e (l0:=l) (x:=a1)) (fun _ _ _ h=>Enc.frz _ a1 _ _ _ h)) cvs_nil)) (fun x0_=>some (m64 x0_ a1)) (fun d hd l x0_ S t ht=>(cv69_64 _ _ _ _).trans (call0_of (E:=(fun (t:Bool)=>AV.bool t)) (mg:=some (m64 x0_ a1)) (args2 (M:=fun a=>Fit (R NN d 64 a []) _ _) (cv_p rfl) (cv_rp (cvs_e (l0:=l) (x:=a1)) (fun _ _ _ h=>Enc.frz _ a1 _ _ _ h)) HP.nil fun u0_ v0_=>w64 hd x0_ v0_ a1) ht)) l1_) fun y1 hy1=>q_p fr<|q_ret (cv_p rfl) rfl
def ms65_0 (a0:List TMsg) (a1:TMsg→Option (Bool)) (s1:Int×Int):Option (LO (Int×Int)):=bif decide (s1.2 < (a0.length:Int)) then (getI a0 s1.2).bind fun x1=>(a1 x1).bind fun y1=>bif y1 then some (LO.ret (s1.2,s1.2)) else some (LO.norm (s1.1,wi .i64 (s1.2 + 1))) else some (LO.exit 0 (s1.1,s1.2))
def m65 (a0:List TMsg) (a1:TMsg→Option (Bool)):Option (Int):=(loopO (ms65_0 a0 a1) NN (0,0)).bind (contO (fun _=>none) (fun i1 s2=>if i1 = 0 then some (-1) else none) (fun s2=>some s2.1))
theorem w65 {Dc:Nat} {d:Nat} (hd:Dc + 1≤d) (k0:Bool) (a0:List TMsg) (c1:Bool→AV) (hc1:∀ l,CV 8 [] false (c1 l) c1) (a1:TMsg→Option (Bool)) (tc1:∀ (d:Nat),Dc≤d→∀ (l:Bool) (q0:Bool) (x0:TMsg) (S:St) (t:Bool),a1 x0 = some t→callV (cfg NN) (R NN d) 65 (c1 l) [.agg (Enc.cs q0 x0)] S = some ((fun (t:Bool)=>AV.bool t) t,S)) (k1:Bool):Fit (R NN d 65 [.rsl k0 false (a0.map (Enc.cs k0)),c1 k1] []) (m65 a0 a1) PI:=by
  obtain ⟨d,rfl,g⟩:=up hd
  refine q_in (t65 NN d _ _) ?_
  unfold b65 m65
  refine q_len<|q_lp (A:=fun (s:Int×Int)=>[.int .i64 s.1,.int .i64 s.2]) (B:=fun s=>[]) 0 rr ?_ ?_ ?_
  ·intro s1
   unfold s65_0 ms65_0
   exact q_p fr<|q_i (q_ix rfl fun x1 hx1=>q_p fr<|q_cv (mg:=a1 x1) (E:=(fun (t:Bool)=>AV.bool t)) (fun S t ht=>tc1 d (by omega) k1 k0 x1 S t ht) fun y1 hy1=>q_i (q_lret 0 rr)<|q_p fr<|q_norm 0 rr)<|q_exit 0 rr
  ·exact fun i1 s2=>q_n (q_ret (cv_p rfl) rfl)<|q_none
  ·exact fun s2=>q_ret (cv_p rfl) rfl
def ms72_0 (a0:List TCert) (a1:List TCert) (s1:Bool×Int):Option (LO (Bool×Int)):=bif decide (s1.2 < (a0.length:Int)) then (getI a0 s1.2).bind fun x1=>(getI a1 s1.2).bind fun x2=>bif !(((x1.Slot == x2.Slot) && ((x1.View == x2.View) && ((x1.Value == x2.Value) && true)))) then some (LO.ret (false,s1.2)) else some (LO.norm (s1.1,wi .i64 (s1.2 + 1))) else some (LO.exit 0 (s1.1,s1.2))
def m72 (a0:List TCert) (a1:List TCert):Option (Bool):=bif (a0.length:Int) != (a1.length:Int) then some false else (loopO (ms72_0 a0 a1) NN (false,0)).bind (contO (fun _=>none) (fun i1 s2=>if i1 = 0 then some true else none) (fun s2=>some s2.1))
theorem w72 {d:Nat} (hd:1≤d) (k0:Bool) (a0:List TCert) (k1:Bool) (a1:List TCert):Fit (R NN d 72 [.rsl k0 false (a0.map (Enc.cs k0)),.rsl k1 false (a1.map (Enc.cs k1))] []) (m72 a0 a1) PB:=by
  obtain ⟨d,rfl,g⟩:=up hd
  refine q_in (t72 NN d _ _) ?_
  unfold b72 m72
  refine q_len<|q_len<|q_p fr<|q_i ?_ ?_
  ·exact q_ret (cv_p rfl) rfl
  ·refine q_len<|q_lp (A:=fun (s:Bool×Int)=>[.bool s.1,.int .i64 s.2]) (B:=fun s=>[]) 0 rr ?_ ?_ ?_
   ·intro s1
    unfold s72_0 ms72_0
    exact q_p fr<|q_i (q_ix rfl fun x1 hx1=>q_p fr<|q_ix rfl fun x2 hx2=>q_p fr<|q_p (fun _=>sneq692 _ _ _ _ _ _)<|q_i (q_lret 0 rr)<|q_p fr<|q_norm 0 rr)<|q_exit 0 rr
   ·exact fun i1 s2=>q_n (q_ret (cv_p rfl) rfl)<|q_none
   ·exact fun s2=>q_ret (cv_p rfl) rfl
def ms73_0 (a0:List Int) (a1:List Int) (s1:Bool×Int):Option (LO (Bool×Int)):=bif decide (s1.2 < (a0.length:Int)) then (getI a0 s1.2).bind fun x1=>(getI a1 s1.2).bind fun x2=>bif x1 != x2 then some (LO.ret (false,s1.2)) else some (LO.norm (s1.1,wi .i64 (s1.2 + 1))) else some (LO.exit 0 (s1.1,s1.2))
def m73 (a0:List Int) (a1:List Int):Option (Bool):=bif (a0.length:Int) != (a1.length:Int) then some false else (loopO (ms73_0 a0 a1) NN (false,0)).bind (contO (fun _=>none) (fun i1 s2=>if i1 = 0 then some true else none) (fun s2=>some s2.1))
theorem w73 {d:Nat} (hd:1≤d) (k0:Bool) (a0:List Int) (k1:Bool) (a1:List Int):Fit (R NN d 73 [.rsl k0 false (a0.map (Enc.cs k0)),.rsl k1 false (a1.map (Enc.cs k1))] []) (m73 a0 a1) PB:=by
  obtain ⟨d,rfl,g⟩:=up hd
  refine q_in (t73 NN d _ _) ?_
  unfold b73 m73
  refine q_len<|q_len<|q_p fr<|q_i ?_ ?_
  ·exact q_ret (cv_p rfl) rfl
  ·refine q_len<|q_lp (A:=fun (s:Bool×Int)=>[.bool s.1,.int .i64 s.2]) (B:=fun s=>[]) 0 rr ?_ ?_ ?_
   ·intro s1
    unfold s73_0 ms73_0
    exact q_p fr<|q_i (q_ix rfl fun x1 hx1=>q_p fr<|q_ix rfl fun x2 hx2=>q_p fr<|q_p fr<|q_i (q_lret 0 rr)<|q_p fr<|q_norm 0 rr)<|q_exit 0 rr
   ·exact fun i1 s2=>q_n (q_ret (cv_p rfl) rfl)<|q_none
   ·exact fun s2=>q_ret (cv_p rfl) rfl
def m67 (a0:TMsg) (a1:TMsg):Option (Bool):=( bif a0.Kind == a1.Kind then bif a0.View == a1.View then bif a0.From == a1.From then bif a0.Slot == a1.Slot then bif a0.Value == a1.Value then (m72 a0.Certs a1.Certs).bind fun y1=>bif y1 then (m73 a0.Refs a1.Refs).bind fun y2=>some (LO.norm y2) else some (LO.norm false) else some (LO.norm false) else some (LO.norm false) else some (LO.norm false) else some (LO.norm false) else some (LO.norm false)).bind (contO (fun s2=>some s2) (fun i1 s2=>none) (fun s2=>some s2))
theorem w67 {d:Nat} (hd:2≤d) (k0:Bool) (a0:TMsg) (k1:Bool) (a1:TMsg):Fit (R NN d 67 [.agg (Enc.cs k0 a0),.agg (Enc.cs k1 a1)] []) (m67 a0 a1) PB:=by
  obtain ⟨d,rfl,g⟩:=up hd
  refine q_in (t67 NN d _ _) ?_
  unfold b67 m67
  refine q_box (n:=7) rfl rfl (by decide) fun b1=>q_box (n:=7) rfl rfl (by decide) fun b2=>q_cu (A:=fun (s:Bool)=>[.bool s]) (B:=fun s=>[bx b2 [.int .i64 a1.Kind,.int .i64 a1.View,.int .i64 a1.From,.int .i64 a1.Slot,.int .i64 a1.Value,.rsl k1 false (a1.Certs.map (Enc.cs k1)),.rsl k1 false (a1.Refs.map (Enc.cs k1))],bx b1 [.int .i64 a0.Kind,.int .i64 a0.View,.int .i64 a0.From,.int .i64 a0.Slot,.int .i64 a0.Value,.rsl k0 false (a0.Certs.map (Enc.cs k0)),.rsl k0 false (a0.Refs.map (Enc.cs k0))]]) ?_ ?_ ?_ ?_
  ·exact q_p fr<|q_ld 1 rfl rfl<|q_p fr<|q_ld 0 rfl rfl<|q_p fr<|q_k (q_p fr<|q_ld 1 rfl rfl<|q_p fr<|q_ld 0 rfl rfl<|q_p fr<|q_k (q_p fr<|q_ld 1 rfl rfl<|q_p fr<|q_ld 0 rfl rfl<|q_p fr<|q_k (q_p fr<|q_ld 1 rfl rfl<|q_p fr<|q_ld 0 rfl rfl<|q_p fr<|q_k (q_p fr<|q_ld 1 rfl rfl<|q_p fr<|q_ld 0 rfl rfl<|q_p fr<|q_k (q_p fr<|q_ld 1 rfl rfl<|q_p fr<|q_ld 0 rfl rfl<|q_c0 (aF2 cv_r cv_r fun l0_ l1_=>w72 (by omega) l0_ a0.Certs l1_ a1.Certs) fun y1 hy1=>q_k (q_p fr<|q_ld 1 rfl rfl<|q_p fr<|q_ld 0 rfl rfl<|q_c0 (aF2 cv_r cv_r fun l0_ l1_=>w73 (by omega) l0_ a0.Refs l1_ a1.Refs) fun y2 hy2=>q_norm 0 rr)<|q_norm 0 rr)<|q_norm 0 rr)<|q_norm 0 rr)<|q_norm 0 rr)<|q_norm 0 rr)<|q_norm 0 rr
  ·exact fun s2=>q_ret (cv_p rfl) rfl
  ·exact fun i1 s2=>q_none
  ·exact fun s2=>q_ret (cv_p rfl) rfl
def m66 (a0:TMsg) (a1:TMsg):Option (Bool):=(m67 a0 a1).bind fun y1=>some y1
theorem w66 {d:Nat} (hd:3≤d) (k0:Bool) (a0:TMsg) (k1:Bool) (a1:TMsg):Fit (R NN d 66 [.agg (Enc.cs k0 a0),.rp k1 (Enc.cs k1 a1)] []) (m66 a0 a1) PB:=by
  obtain ⟨d,rfl,g⟩:=up hd
  refine q_in (t66 NN d _ _) ?_
  unfold b66 m66
  exact q_box (n:=7) rfl rfl (by decide) fun b1=>q_lda 0 rfl rfl rfl<|q_p fr<|q_c0 (aF2 (cv_a (cvs_e (l0:=k0) (x:=a0))) (cv_a (cvs_e (l0:=k1) (x:=a1))) fun l0_ l1_=>w67 (by omega) l0_ a0 l1_ a1) fun y1 hy1=>q_ret (cv_p rfl) rfl
def m46 (a0:List TMsg) (a1:TMsg):Option (Int):=(m65 a0 (fun x0_=>m66 x0_ a1)).bind fun y1=>some y1
theorem w46 {d:Nat} (hd:5≤d) (k0:Bool) (a0:List TMsg) (k1:Bool) (a1:TMsg):Fit (R NN d 46 [.rsl k0 false (a0.map (Enc.cs k0)),.agg (Enc.cs k1 a1)] []) (m46 a0 a1) PI:=by
  obtain ⟨d,rfl,g⟩:=up hd
  refine q_in (t46 NN d _ _) ?_
  unfold b46 m46
  exact q_box (n:=7) rfl rfl (by decide) fun b1=>q_c0 (aF2 cv_r (cv_f (cvs_cons (cv_b 0 rfl (cvs_e (l0:=k1) (x:=a1))) cvs_nil)) fun l0_ l1_=>w65 (Dc:=3) (by omega) l0_ a0 (fun l=>.fn 66 [.rp l (Enc.cs l a1)]) (fun l=>cv_f (cvs_cons (cv_rp (cvs_e (l0:=l) (x:=a1)) (fun _ _ _ h=>Enc.frz _ a1 _ _ _ h)) cvs_nil)) (fun x0_=>m66 x0_ a1) (fun d hd l q0_ x0_ S t ht=>(cv65_66 _ _ _ _).trans (call0_of (E:=(fun (t:Bool)=>AV.bool t)) (mg:=m66 x0_ a1) (args2 (M:=fun a=>Fit (R NN d 66 a []) _ _) (cv_a (cvs_e (l0:=q0_) (x:=x0_))) (cv_rp (cvs_e (l0:=l) (x:=a1)) (fun _ _ _ h=>Enc.frz _ a1 _ _ _ h)) HP.nil fun u0_ v0_=>w66 hd u0_ x0_ v0_ a1) ht)) l1_) fun y1 hy1=>q_ret (cv_p rfl) rfl
def ms25_0 (a0:Int) (a1:List TMsg) (s1:Int×Int):Option (LO (Int×Int)):=bif decide (s1.2 < (a1.length:Int)) then (getI a1 s1.2).bind fun x1=>(m26 a0 x1).bind fun y1=>bif y1 != 0 then some (LO.ret (y1,s1.2)) else (m45 x1 s1.2).bind fun y2=>bif !y2 then some (LO.ret (4,s1.2)) else (subI a1 0 s1.2).bind fun ys1=>(m46 ys1 x1).bind fun y3=>bif decide (y3 ≥ 0) then some (LO.ret (6,s1.2)) else some (LO.norm (s1.1,wi .i64 (s1.2 + 1))) else some (LO.exit 1 (s1.1,s1.2))
def m25 (a0:Int) (a1:List TMsg):Option (Int):=bif !(m44 a0) then some 3 else bif decide ((a1.length:Int) > 240) then some 2 else (loopO (ms25_0 a0 a1) NN (0,0)).bind (contO (fun _=>none) (fun i1 s2=>if i1 = 1 then some 0 else none) (fun s2=>some s2.1))
theorem w25 {d:Nat} (hd:7≤d) (a0:Int) (k1:Bool) (a1:List TMsg):Fit (R NN d 25 [.int .i64 a0,.rsl k1 false (a1.map (Enc.cs k1))] []) (m25 a0 a1) PI:=by
  obtain ⟨d,rfl,g⟩:=up hd
  refine q_in (t25 NN d _ _) ?_
  unfold b25 m25
  refine q_c0t (aF1 (cv_p rfl) fun l0_=>w44 (by omega) a0)<|q_p fr<|q_i ?_ ?_
  ·exact q_ret (cv_p rfl) rfl
  ·refine q_len<|q_p fr<|q_i ?_ ?_
   ·exact q_ret (cv_p rfl) rfl
   ·refine q_len<|q_lp (A:=fun (s:Int×Int)=>[.int .i64 s.1,.int .i64 s.2]) (B:=fun s=>[]) 0 rr ?_ ?_ ?_
    ·intro s1
     unfold s25_0 ms25_0
     exact q_p fr<|q_i (q_ix rfl fun x1 hx1=>q_p fr<|q_new rfl fun b1=>q_st 0 rfl rfl rfl (by decide) rfl<|q_lda 0 rfl rfl rfl<|q_c0 (aF2 (cv_p rfl) (cv_a (cvs_e (l0:=k1) (x:=x1))) fun l0_ l1_=>w26 (by omega) a0 l1_ x1) fun y1 hy1=>q_p fr<|q_i (q_lret 1 rr)<|q_lda 0 rfl rfl rfl<|q_c0 (aF2 (cv_a (cvs_e (l0:=k1) (x:=x1))) (cv_p rfl) fun l0_ l1_=>w45 (by omega) l0_ x1 s1.2) fun y2 hy2=>q_p fr<|q_i (q_lret 1 rr)<|q_sub rfl (.inr ⟨rfl,rfl⟩) (.inl rfl) fun fl1 ys1 hys1=>q_lda 0 rfl rfl rfl<|q_c0 (aF2 cv_r (cv_a (cvs_e (l0:=k1) (x:=x1))) fun l0_ l1_=>w46 (by omega) l0_ ys1 l1_ x1) fun y3 hy3=>q_p fr<|q_i (q_lret 1 rr)<|q_p fr<|q_norm 1 rr)<|q_exit 0 rr
    ·exact fun i1 s2=>q_n (q_ret (cv_p rfl) rfl)<|q_none
    ·exact fun s2=>q_ret (cv_p rfl) rfl
def m58 (a0:List TMsg):Option (List TMsg):=appO 88 [] a0
theorem w58c {d:Nat} (hd:1≤d) (v:AV) (S:St):R NN d 58 [v] S = pk (anil Try.prog 29 v) S fun r1=>ifA r1 (some (AV.rsl false true [],S)) (pq (quietS (abuildS Try.prog 29 0 [] S) S) fun r2=>pe (appA 7 88 r2 v S) fun r3 S3=>some (r3,S3)):=by
  obtain ⟨d,rfl,g⟩:=up hd
  exact t58 NN d v S
def m70 (a0:List TCert):Option (List TCert):=appO 24 [] a0
theorem w70 {d:Nat} (hd:1≤d) (k0:Bool) (a0:List TCert):Fit (R NN d 70 [.rsl k0 false (a0.map (Enc.cs k0))] []) (m70 a0) (P1 (T:=List TCert) one1):=by
  obtain ⟨d,rfl,g⟩:=up hd
  rw [t70]
  refine (?_:Okh [] (fun S=>b70 (cfg NN) (R NN d) (.rsl k0 false (a0.map (Enc.cs k0))) S) _ _) [] HP.nil
  unfold b70 m70
  refine q_nilc (e:=69) und34 (fun h S=>?_) ?_
  · subst h
    refine Eq.symm (show pq (quietS (abuildS _ _ _ _ S) S) _ = _ from ?_)
    rw [qs34_0]; rfl
  refine q_q (fun _=>qs34_0) ?_
  refine q_nil (α:=TCert) false ?_
  rw [show appO 24 ([]:List TCert) a0 = (appO 24 [] a0).bind some from by cases appO 24 ([]:List TCert) a0 <;> rfl]
  refine q_app (ys:=a0) 0 rfl rfl (fun _ _=>rfl) fun v1 z1 hz1=>?_
  exact q_out (tb_sl 0 rfl plt69) rfl
def m71 (a0:List Int):Option (List Int):=appO 8 [] a0
theorem w71 {d:Nat} (hd:1≤d) (k0:Bool) (a0:List Int):Fit (R NN d 71 [.rsl k0 false (a0.map (Enc.cs k0))] []) (m71 a0) (P1 (T:=List Int) one1):=by
  obtain ⟨d,rfl,g⟩:=up hd
  rw [t71]
  refine (?_:Okh [] (fun S=>b71 (cfg NN) (R NN d) (.rsl k0 false (a0.map (Enc.cs k0))) S) _ _) [] HP.nil
  unfold b71 m71
  refine q_nilc (e:=2) und24 (fun h S=>?_) ?_
  · subst h
    refine Eq.symm (show pq (quietS (abuildS _ _ _ _ S) S) _ = _ from ?_)
    rw [qs24_0]; rfl
  refine q_q (fun _=>qs24_0) ?_
  refine q_nil (α:=Int) false ?_
  rw [show appO 8 ([]:List Int) a0 = (appO 8 [] a0).bind some from by cases appO 8 ([]:List Int) a0 <;> rfl]
  refine q_app (ys:=a0) 0 rfl rfl (fun _ _=>rfl) fun v1 z1 hz1=>?_
  exact q_out (tb_sl 0 rfl plt2) rfl
def m59 (a0:TMsg):Option (TMsg):=(m70 a0.Certs).bind fun y1=>(m71 a0.Refs).bind fun y2=>some (⟨a0.Kind,a0.View,a0.From,a0.Slot,a0.Value,y1,y2⟩:TMsg)
theorem w59 {d:Nat} (hd:2≤d) (k0:Bool) (a0:TMsg):Fit (R NN d 59 [.agg (Enc.cs k0 a0)] []) (m59 a0) (P1 (T:=TMsg) AV.agg):=by
  obtain ⟨d,rfl,g⟩:=up hd
  refine q_in (t59 NN d _) ?_
  unfold b59 m59
  exact q_box (n:=7) rfl rfl (by decide) fun b1=>q_new rfl fun b2=>q_p fr<|q_ld 1 rfl rfl<|q_c1s (mg:=m70 a0.Certs) (aF1 cv_r fun l0_=>w70 (by omega) l0_ a0.Certs) fun y1 hy1 i1 v1=>q_p fr<|q_sto1 2 rfl (fun S hS=>(HP.cell1t hS 0 rfl)) rfl<|q_p fr<|q_ld 2 rfl rfl<|q_c1s (mg:=m71 a0.Refs) (aF1 cv_r fun l0_=>w71 (by omega) l0_ a0.Refs) fun y2 hy2 i2 v2=>q_p fr<|q_sto1 3 rfl (fun S hS=>(HP.cell1t hS 0 rfl)) rfl<|q_lda 3 rfl rfl rfl<|q_st 2 rfl rfl rfl (by decide) rfl<|q_outm (fun S hS=>hS.lda 2 rfl rfl) (tb_of (α:=TMsg) (β:=Int×Int×Int×Int×Int×(List TCert)×(List Int)) (f:=fun x=>(x.Kind,x.View,x.From,x.Slot,x.Value,x.Certs,x.Refs)) (x:=(⟨a0.Kind,a0.View,a0.From,a0.Slot,a0.Value,y1,y2⟩:TMsg)) rfl (tb_pair (tb_int (n:=a0.Kind)) (tb_pair (tb_int (n:=a0.View)) (tb_pair (tb_int (n:=a0.From)) (tb_pair (tb_int (n:=a0.Slot)) (tb_pair (tb_int (n:=a0.Value)) (tb_pair (tb_tr 1 rfl) (tb_tr 0 rfl)))))))) rfl
theorem w59f {d:Nat} (hd:2≤d) (k0:Bool) (a0:TMsg):Fit (R NN d 59 [.agg (Enc.cs k0 a0)] []) (m59 a0) (P0 (fun (t:TMsg)=>AV.agg (Enc.cs false t))):=p1_agg (w59 hd k0 a0)
def m27 (a0:List TMsg) (a1:TMsg):Option ((List TMsg)×Int):=(m45 a1 (a0.length:Int)).bind fun y1=>bif !y1 then some ([],4) else (m46 a0 a1).bind fun y2=>bif decide (y2 ≥ 0) then some (a0,0) else bif (a0.length:Int) == 240 then some ([],2) else (m58 a0).bind fun z1=>(m59 a1).bind fun y3=>(appO 88 z1 [y3]).bind fun z2=>some (z2,0)
theorem w27 {d:Nat} (hd:6≤d) (L0:List En) (i0_:List Nat) (v0_:AV) (a0:List TMsg) (c1_0 c1_1 c1_2 c1_3 c1_4 c1_5 c1_6:AV) (a1:TMsg) (hc1:CVs 7 [] false [c1_0,c1_1,c1_2,c1_3,c1_4,c1_5,c1_6] (fun l=>Enc.cs l a1)):Okh (wls i0_ v0_ (a0:List TMsg)::L0) (fun S=>R NN d 27 [v0_,.agg [c1_0,c1_1,c1_2,c1_3,c1_4,c1_5,c1_6]] S) (m27 a0 a1) (P8 i0_ v0_ a0 L0):=by
  obtain ⟨d,rfl,g⟩:=up hd
  refine q_to (t27 NN d _ _) ?_
  unfold b27 m27
  exact q_box (n:=7) rfl rfl (by decide) fun b1=>q_lda 0 rfl rfl rfl<|q_lens 1 rfl<|q_c0 (aF2 (cv_a (CVs.any hc1)) (cv_p rfl) fun l0_ l1_=>w45 (by omega) l0_ a1 (a0.length:Int)) fun y1 hy1=>q_p fr<|q_i (q_p8F 1 (by decide) rfl rfl)<|q_lda 0 rfl rfl rfl<|q_c0 (aF2 (cv_wls (α:=TMsg) 1 rfl) (cv_a (CVs.any hc1)) fun l0_ l1_=>w46 (by omega) l0_ a0 l1_ a1) fun y2 hy2=>q_p fr<|q_i (q_sel 2 [1,0] (by decide) (by decide)<|q_sel 2 [1,0] (by decide) (by decide)<|q_p8T 1 (by decide) rfl rfl)<|q_lens 1 rfl<|q_p fr<|q_i (q_p8F 1 (by decide) rfl rfl)<|q_lda 0 rfl rfl rfl<|q_sel 2 [1,0] (by decide) (by decide)<|q_cl3 (mg:=m58 a0) (fun S=>w58c (by omega) _ S) und29 qs29_0 rfl rfl fun z1 hz1 i1 v1=>q_c0 (aF1 (cv_a (CVs.any hc1)) fun l0_=>w59f (by omega) l0_ a1) fun y3 hy3=>q_e (fun _=>bs29_1 rfl)<|q_apw (y:=y3) (l:=false) (fl':=true) rfl fun z2 hz2 v2 i2=>q_was<|q_sel 2 [1,0] (by decide) (by decide)<|q_p8T 1 (by decide) rfl rfl
def ms28_0 (a0:List TMsg) (s1:Int×(List TMsg)):Option (LO (Int×(List TMsg))):=bif decide (s1.1 < (a0.length:Int)) then (getI a0 s1.1).bind fun x1=>(m59 x1).bind fun y1=>(appO 88 s1.2 [y1]).bind fun z1=>some (LO.norm (wi .i64 (s1.1 + 1),z1)) else some (LO.exit 0 (s1.1,s1.2))
def m28 (a0:List TMsg):Option ((List TMsg)):=(loopO (ms28_0 a0) NN (0,[])).bind (contO (fun _=>none) (fun i4 s2=>if i4 = 0 then some s2.2 else none) (fun s2=>some []))
theorem w28 {d:Nat} (hd:3≤d) (k0:Bool) (a0:List TMsg):Fit (R NN d 28 [.rsl k0 false (a0.map (Enc.cs k0))] []) (m28 a0) (P1 (T:=List TMsg) one1):=by
  obtain ⟨d,rfl,g⟩:=up hd
  refine q_in (t28 NN d _) ?_
  unfold b28 m28
  refine q_q (fun _=>qs29_0)<|q_len<|q_nila (α:=TMsg)<|q_loop (I:=(fun (s:Int×(List TMsg)) l L=>∃ (i1:List Nat) (v1:AV),l = [v1,.int .i64 s.1]∧L = [tra i1 v1 (s.2:List TMsg)])) 0 ⟨[],(.rsl false true []),rfl,rfl⟩ ?_ ?_ ?_
  ·rintro s1 _ _ ⟨i1,v1,rfl,rfl⟩
   unfold s28_0 ms28_0
   refine q_p fr<|q_i ?_ ?_
   ·refine q_ix rfl fun x1 hx1=>q_p fr<|q_new rfl fun b1=>q_st 0 rfl rfl rfl (by decide) rfl<|q_lda 0 rfl rfl rfl<|q_c1 (W:=AV.agg) (mg:=m59 x1) sh_agg (aF1 (cv_a (cvs_e (l0:=k0) (x:=x1))) fun l0_=>w59 (by omega) l0_ x1) fun y1 hy1 i2 cs1=>q_cx (fun S hS=>trx36 (hS.get (k:=0) rfl)) fun hcs_=>?_
    obtain ⟨v2,v3,rfl⟩:=hcs_
    exact q_sel 3 [0,2,1] (by decide) (by decide)<|q_ap1 rfl (fun _=>bt29) rfl fun z1 hz1 v4 i3=>q_p fr<|q_sel 2 [1,0] (by decide) (by decide)<|q_norm 1 ⟨i3,v4,rfl,rfl⟩
   ·exact q_exit 0 ⟨i1,v1,rfl,rfl⟩
  ·rintro i4 s2 _ _ ⟨i5,v5,rfl,rfl⟩
   exact q_n (q_wk<|q_out (tb_tr 0 rfl) rfl)<|q_none
  ·rintro s2 _ _ ⟨i6,v6,rfl,rfl⟩
   exact q_out (tb_nil (α:=TMsg) (fl:=true)) rfl
def m9 (a0:Int) (a1:List TMsg) (a2:TMsg):Option (TLedgerResult):=(m25 a0 a1).bind fun y1=>bif y1 != 0 then some (⟨y1,[]⟩:TLedgerResult) else (m26 a0 a2).bind fun y2=>bif y2 != 0 then some (⟨y2,[]⟩:TLedgerResult) else (m27 a1 a2).bind fun y3=>bif y3.2 == 0 then (m28 y3.1).bind fun y4=>some (⟨0,y4⟩:TLedgerResult) else some (⟨y3.2,[]⟩:TLedgerResult)
theorem w9 {d:Nat} (hd:8≤d) (a0:Int) (k1:Bool) (a1:List TMsg) (k2:Bool) (a2:TMsg):Fit (R NN d 9 [.int .i64 a0,.rsl k1 false (a1.map (Enc.cs k1)),.agg (Enc.cs k2 a2)] []) (m9 a0 a1 a2) (P1 (T:=TLedgerResult) AV.agg):=by
  obtain ⟨d,rfl,g⟩:=up hd
  refine q_in (t9 NN d _ _ _) ?_
  unfold b9 m9
  refine q_box (n:=7) rfl rfl (by decide) fun b1=>q_new rfl fun b2=>q_c0 (aF2 (cv_p rfl) cv_r fun l0_ l1_=>w25 (by omega) a0 l1_ a1) fun y1 hy1=>q_p fr<|q_i ?_ ?_
  ·exact q_p (fun _=>bd31_0 rfl)<|q_st 0 rfl rfl rfl (by decide) rfl<|q_outm (fun S hS=>hS.lda 0 rfl rfl) (tb_of (α:=TLedgerResult) (β:=Int×(List TMsg)) (f:=fun x=>(x.Code,x.Ledger)) (x:=(⟨y1,[]⟩:TLedgerResult)) rfl (tb_pair (tb_int (n:=y1)) (tb_nil (α:=TMsg) (fl:=true)))) rfl
  ·refine q_lda 1 rfl rfl rfl<|q_c0 (aF2 (cv_p rfl) (cv_a (cvs_e (l0:=k2) (x:=a2))) fun l0_ l1_=>w26 (by omega) a0 l1_ a2) fun y2 hy2=>q_p fr<|q_i ?_ ?_
   ·exact q_p (fun _=>bd31_0 rfl)<|q_st 0 rfl rfl rfl (by decide) rfl<|q_outm (fun S hS=>hS.lda 0 rfl rfl) (tb_of (α:=TLedgerResult) (β:=Int×(List TMsg)) (f:=fun x=>(x.Code,x.Ledger)) (x:=(⟨y2,[]⟩:TLedgerResult)) rfl (tb_pair (tb_int (n:=y2)) (tb_nil (α:=TMsg) (fl:=true)))) rfl
   ·refine q_lda 1 rfl rfl rfl<|q_wf<|q_s8 (mg:=m27 a1 a2) (w27 (by omega) _ [] (.rsl k1 false (a1.map (Enc.cs k1))) a1 _ _ _ _ _ _ _ a2 (cvs_e (l0:=k2) (x:=a2))) (fun y3 hy3 hky3 i1 w1=>?_) (fun y3 hy3 hky3=>?_)
    ·refine q_q fr<|q_q fr<|q_p fr<|q_ifkF (bne_k hky3)<|q_c1s (mg:=m28 y3.1) (aF1 (cv_wls (α:=TMsg) 0 rfl) fun l0_=>w28 (by omega) l0_ y3.1) fun y4 hy4 i2 v1=>q_ph (fun S hS=>bd31_1 (by simp only [afill,plc,gd,List.getD_cons_zero,List.getD_cons_succ,List.getElem?_cons_zero,List.getElem?_cons_succ,hS.cell1t 0 rfl]; rfl)) ?_
     exact q_st 2 rfl rfl rfl (by decide) rfl<|q_outm (fun S hS=>hS.lda 2 rfl rfl) (tb_of (α:=TLedgerResult) (β:=Int×(List TMsg)) (f:=fun x=>(x.Code,x.Ledger)) (x:=(⟨0,y4⟩:TLedgerResult)) rfl (tb_pair (tb_int (n:=0)) (tb_tr 0 rfl))) rfl
    ·exact q_q fr<|q_q fr<|q_p fr<|q_ifkT (bne_k hky3)<|q_p (fun _=>bd31_0 rfl)<|q_st 1 rfl rfl rfl (by decide) rfl<|q_outm (fun S hS=>hS.lda 1 rfl rfl) (tb_of (α:=TLedgerResult) (β:=Int×(List TMsg)) (f:=fun x=>(x.Code,x.Ledger)) (x:=(⟨y3.2,[]⟩:TLedgerResult)) rfl (tb_pair (tb_int (n:=y3.2)) (tb_nil (α:=TMsg) (fl:=true)))) rfl
theorem w9f {d:Nat} (hd:8≤d) (a0:Int) (k1:Bool) (a1:List TMsg) (k2:Bool) (a2:TMsg):Fit (R NN d 9 [.int .i64 a0,.rsl k1 false (a1.map (Enc.cs k1)),.agg (Enc.cs k2 a2)] []) (m9 a0 a1 a2) (P0 (fun (t:TLedgerResult)=>AV.agg (Enc.cs false t))):=p1_agg (w9 hd a0 k1 a1 k2 a2)
def m60 (a0:TCert) (a1:TCert):Bool:=bif a0.Slot != a1.Slot then false else bif a0.View != a1.View then false else bif a0.Value != a1.Value then false else true
theorem w60 {d:Nat} (hd:1≤d) (k0:Bool) (a0:TCert) (k1:Bool) (a1:TCert):Fit (R NN d 60 [.agg (Enc.cs k0 a0),.agg (Enc.cs k1 a1)] []) (some (m60 a0 a1)) PB:=by
  obtain ⟨d,rfl,g⟩:=up hd
  refine q_in (t60 NN d _ _) ?_
  unfold b60 m60
  exact q_box (n:=3) rfl rfl (by decide) fun b1=>q_box (n:=3) rfl rfl (by decide) fun b2=>q_p fr<|q_ld 1 rfl rfl<|q_p fr<|q_ld 0 rfl rfl<|q_p fr<|q_ift (fun h3=>q_ret (cv_p rfl) rfl) fun h3=>q_p fr<|q_ld 1 rfl rfl<|q_p fr<|q_ld 0 rfl rfl<|q_p fr<|q_ift (fun h2=>q_ret (cv_p rfl) rfl) fun h2=>q_p fr<|q_ld 1 rfl rfl<|q_p fr<|q_ld 0 rfl rfl<|q_p fr<|q_ift (fun h1=>q_ret (cv_p rfl) rfl) fun h1=>q_ret (cv_p rfl) rfl
def ms29_0 (a0:List TCert) (a1:List TCert) (s1:Bool×Int):Option (LO (Bool×Int)):=bif decide (s1.2 < (a0.length:Int)) then (getI a0 s1.2).bind fun x1=>(getI a1 s1.2).bind fun x2=>bif !(m60 x1 x2) then some (LO.ret (false,s1.2)) else some (LO.norm (s1.1,wi .i64 (s1.2 + 1))) else some (LO.exit 0 (s1.1,s1.2))
def m29 (a0:List TCert) (a1:List TCert):Option (Bool):=bif (a0.length:Int) != (a1.length:Int) then some false else (loopO (ms29_0 a0 a1) NN (false,0)).bind (contO (fun _=>none) (fun i1 s2=>if i1 = 0 then some true else none) (fun s2=>some s2.1))
theorem w29 {d:Nat} (hd:2≤d) (k0:Bool) (a0:List TCert) (k1:Bool) (a1:List TCert):Fit (R NN d 29 [.rsl k0 false (a0.map (Enc.cs k0)),.rsl k1 false (a1.map (Enc.cs k1))] []) (m29 a0 a1) PB:=by
  obtain ⟨d,rfl,g⟩:=up hd
  refine q_in (t29 NN d _ _) ?_
  unfold b29 m29
  refine q_len<|q_len<|q_p fr<|q_i ?_ ?_
  ·exact q_ret (cv_p rfl) rfl
  ·refine q_lp (A:=fun (s:Bool×Int)=>[.bool s.1,.int .i64 s.2]) (B:=fun s=>[]) 0 rr ?_ ?_ ?_
   ·intro s1
    unfold s29_0 ms29_0
    exact q_len<|q_p fr<|q_i (q_ix rfl fun x1 hx1=>q_p fr<|q_ix rfl fun x2 hx2=>q_p fr<|q_c0t (aF2 (cv_a (cvs_e (l0:=k0) (x:=x1))) (cv_a (cvs_e (l0:=k1) (x:=x2))) fun l0_ l1_=>w60 (by omega) l0_ x1 l1_ x2)<|q_p fr<|q_i (q_lret 0 rr)<|q_p fr<|q_norm 0 rr)<|q_exit 0 rr
   ·exact fun i1 s2=>q_n (q_ret (cv_p rfl) rfl)<|q_none
   ·exact fun s2=>q_ret (cv_p rfl) rfl
def ms30_0 (a0:List Int) (a1:List Int) (s1:Bool×Int):Option (LO (Bool×Int)):=bif decide (s1.2 < (a0.length:Int)) then (getI a0 s1.2).bind fun x1=>(getI a1 s1.2).bind fun x2=>bif x1 != x2 then some (LO.ret (false,s1.2)) else some (LO.norm (s1.1,wi .i64 (s1.2 + 1))) else some (LO.exit 0 (s1.1,s1.2))
def m30 (a0:List Int) (a1:List Int):Option (Bool):=bif (a0.length:Int) != (a1.length:Int) then some false else (loopO (ms30_0 a0 a1) NN (false,0)).bind (contO (fun _=>none) (fun i1 s2=>if i1 = 0 then some true else none) (fun s2=>some s2.1))
theorem w30 {d:Nat} (hd:1≤d) (k0:Bool) (a0:List Int) (k1:Bool) (a1:List Int):Fit (R NN d 30 [.rsl k0 false (a0.map (Enc.cs k0)),.rsl k1 false (a1.map (Enc.cs k1))] []) (m30 a0 a1) PB:=by
  obtain ⟨d,rfl,g⟩:=up hd
  refine q_in (t30 NN d _ _) ?_
  unfold b30 m30
  refine q_len<|q_len<|q_p fr<|q_i ?_ ?_
  ·exact q_ret (cv_p rfl) rfl
  ·refine q_lp (A:=fun (s:Bool×Int)=>[.bool s.1,.int .i64 s.2]) (B:=fun s=>[]) 0 rr ?_ ?_ ?_
   ·intro s1
    unfold s30_0 ms30_0
    exact q_len<|q_p fr<|q_i (q_ix rfl fun x1 hx1=>q_p fr<|q_ix rfl fun x2 hx2=>q_p fr<|q_p fr<|q_i (q_lret 0 rr)<|q_p fr<|q_norm 0 rr)<|q_exit 0 rr
   ·exact fun i1 s2=>q_n (q_ret (cv_p rfl) rfl)<|q_none
   ·exact fun s2=>q_ret (cv_p rfl) rfl
def m12 (a0:TMsg) (a1:TMsg):Option (Bool):=bif a0.Kind != a1.Kind then some false else bif a0.View != a1.View then some false else bif a0.From != a1.From then some false else bif a0.Slot != a1.Slot then some false else bif a0.Value != a1.Value then some false else (m29 a0.Certs a1.Certs).bind fun y1=>bif !y1 then some false else (m30 a0.Refs a1.Refs).bind fun y2=>bif !y2 then some false else some true
theorem w12 {d:Nat} (hd:3≤d) (k0:Bool) (a0:TMsg) (k1:Bool) (a1:TMsg):Fit (R NN d 12 [.agg (Enc.cs k0 a0),.agg (Enc.cs k1 a1)] []) (m12 a0 a1) PB:=by
  obtain ⟨d,rfl,g⟩:=up hd
  refine q_in (t12 NN d _ _) ?_
  unfold b12 m12
  exact q_box (n:=7) rfl rfl (by decide) fun b1=>q_box (n:=7) rfl rfl (by decide) fun b2=>q_p fr<|q_ld 1 rfl rfl<|q_p fr<|q_ld 0 rfl rfl<|q_p fr<|q_i (q_ret (cv_p rfl) rfl)<|q_p fr<|q_ld 1 rfl rfl<|q_p fr<|q_ld 0 rfl rfl<|q_p fr<|q_i (q_ret (cv_p rfl) rfl)<|q_p fr<|q_ld 1 rfl rfl<|q_p fr<|q_ld 0 rfl rfl<|q_p fr<|q_i (q_ret (cv_p rfl) rfl)<|q_p fr<|q_ld 1 rfl rfl<|q_p fr<|q_ld 0 rfl rfl<|q_p fr<|q_i (q_ret (cv_p rfl) rfl)<|q_p fr<|q_ld 1 rfl rfl<|q_p fr<|q_ld 0 rfl rfl<|q_p fr<|q_i (q_ret (cv_p rfl) rfl)<|q_p fr<|q_ld 1 rfl rfl<|q_p fr<|q_ld 0 rfl rfl<|q_c0 (aF2 cv_r cv_r fun l0_ l1_=>w29 (by omega) l0_ a0.Certs l1_ a1.Certs) fun y1 hy1=>q_p fr<|q_i (q_ret (cv_p rfl) rfl)<|q_p fr<|q_ld 1 rfl rfl<|q_p fr<|q_ld 0 rfl rfl<|q_c0 (aF2 cv_r cv_r fun l0_ l1_=>w30 (by omega) l0_ a0.Refs l1_ a1.Refs) fun y2 hy2=>q_p fr<|q_i (q_ret (cv_p rfl) rfl)<|q_ret (cv_p rfl) rfl
def ms11_0 (a0:List TMsg) (a1:List TMsg) (s1:Bool×Int):Option (LO (Bool×Int)):=bif decide (s1.2 < (a0.length:Int)) then (getI a0 s1.2).bind fun x1=>(getI a1 s1.2).bind fun x2=>(m12 x1 x2).bind fun y1=>bif !y1 then some (LO.ret (false,s1.2)) else some (LO.norm (s1.1,wi .i64 (s1.2 + 1))) else some (LO.exit 0 (s1.1,s1.2))
def m11 (a0:List TMsg) (a1:List TMsg):Option (Bool):=bif (a0.length:Int) != (a1.length:Int) then some false else (loopO (ms11_0 a0 a1) NN (false,0)).bind (contO (fun _=>none) (fun i1 s2=>if i1 = 0 then some true else none) (fun s2=>some s2.1))
theorem w11 {d:Nat} (hd:4≤d) (k0:Bool) (a0:List TMsg) (k1:Bool) (a1:List TMsg):Fit (R NN d 11 [.rsl k0 false (a0.map (Enc.cs k0)),.rsl k1 false (a1.map (Enc.cs k1))] []) (m11 a0 a1) PB:=by
  obtain ⟨d,rfl,g⟩:=up hd
  refine q_in (t11 NN d _ _) ?_
  unfold b11 m11
  refine q_len<|q_len<|q_p fr<|q_i ?_ ?_
  ·exact q_ret (cv_p rfl) rfl
  ·refine q_lp (A:=fun (s:Bool×Int)=>[.bool s.1,.int .i64 s.2]) (B:=fun s=>[]) 0 rr ?_ ?_ ?_
   ·intro s1
    unfold s11_0 ms11_0
    exact q_len<|q_p fr<|q_i (q_ix rfl fun x1 hx1=>q_p fr<|q_ix rfl fun x2 hx2=>q_p fr<|q_c0 (aF2 (cv_a (cvs_e (l0:=k0) (x:=x1))) (cv_a (cvs_e (l0:=k1) (x:=x2))) fun l0_ l1_=>w12 (by omega) l0_ x1 l1_ x2) fun y1 hy1=>q_p fr<|q_i (q_lret 0 rr)<|q_p fr<|q_norm 0 rr)<|q_exit 0 rr
   ·exact fun i1 s2=>q_n (q_ret (cv_p rfl) rfl)<|q_none
   ·exact fun s2=>q_ret (cv_p rfl) rfl
def m10 (a0:TLedgerResult) (a1:TLedgerResult):Option (Bool):=bif a0.Code != a1.Code then some false else (m11 a0.Ledger a1.Ledger).bind fun y1=>bif !y1 then some false else some true
theorem w10 {d:Nat} (hd:5≤d) (k0:Bool) (a0:TLedgerResult) (k1:Bool) (a1:TLedgerResult):Fit (R NN d 10 [.agg (Enc.cs k0 a0),.agg (Enc.cs k1 a1)] []) (m10 a0 a1) PB:=by
  obtain ⟨d,rfl,g⟩:=up hd
  refine q_in (t10 NN d _ _) ?_
  unfold b10 m10
  exact q_box (n:=2) rfl rfl (by decide) fun b1=>q_box (n:=2) rfl rfl (by decide) fun b2=>q_p fr<|q_ld 1 rfl rfl<|q_p fr<|q_ld 0 rfl rfl<|q_p fr<|q_i (q_ret (cv_p rfl) rfl)<|q_p fr<|q_ld 1 rfl rfl<|q_p fr<|q_ld 0 rfl rfl<|q_c0 (aF2 cv_r cv_r fun l0_ l1_=>w11 (by omega) l0_ a0.Ledger l1_ a1.Ledger) fun y1 hy1=>q_p fr<|q_i (q_ret (cv_p rfl) rfl)<|q_ret (cv_p rfl) rfl
def ms31_0 (s1:Int×Int×(List TCert)):Option (LO (Int×Int×(List TCert))):=bif decide (s1.2.1 < (s1.2.2.length:Int)) then (getI s1.2.2 s1.2.1).bind fun x1=>letO (s1.2.2.set (Int.toNat s1.2.1) ({ x1 with Slot:=s1.1 })) fun z1=>(getI z1 s1.2.1).bind fun x2=>letO (z1.set (Int.toNat s1.2.1) ({ x2 with View:=wi .i64 (s1.1 + 1) })) fun z2=>(getI z2 s1.2.1).bind fun x3=>letO (z2.set (Int.toNat s1.2.1) ({ x3 with Value:=wi .i64 ((wi .i64 (s1.1 + 1)) + 1) })) fun z3=>some (LO.norm (wi .i64 ((wi .i64 ((wi .i64 (s1.1 + 1)) + 1)) + 1),wi .i64 (s1.2.1 + 1),z3)) else some (LO.exit 0 (s1.1,s1.2.1,s1.2.2))
def m31 (a0:List TCert) (a1:Int):Option (Int×(List TCert)):=(loopO (ms31_0) NN (a1,0,a0)).bind (contO (fun _=>none) (fun i1 s2=>if i1 = 0 then some (s2.1,s2.2.2) else none) (fun s2=>some (0,s2.2.2)))
theorem w31 {d:Nat} (hd:1≤d) (L0:List En) (i0_:List Nat) (c0_0:AV) (a0:List TCert) (a1:Int):Okh (tr i0_ [c0_0] (a0:List TCert)::L0) (fun S=>R NN d 31 [c0_0,.int .i64 a1] S) (m31 a0 a1) (P2 (fun (t:Int×(List TCert))=>AV.int .i64 t.1) (fun (t:Int×(List TCert))=>tr i0_ [c0_0] t.2::L0)):=by
  obtain ⟨d,rfl,g⟩:=up hd
  refine q_to (t31 NN d _ _) ?_
  unfold b31 m31
  refine q_lp (A:=fun (s:Int×Int×(List TCert))=>[.int .i64 s.1,.int .i64 s.2.1]) (B:=fun s=>tr i0_ [c0_0] (s.2.2:List TCert)::L0) 0 rr ?_ ?_ ?_
  ·intro s1
   unfold s31_0 ms31_0
   exact q_lent 0 rfl<|q_p fr<|q_i (q_ixt 0 rfl rfl fun x1 hx1=>q_flt 0 rfl hx1 (by decide)<|q_stl 0 rfl rfl hx1 rfl (up69_Slot s1.1) fun z1 hz1=>q_p fr<|q_ixt 0 rfl rfl fun x2 hx2=>q_flt 0 rfl hx2 (by decide)<|q_stl 0 rfl rfl hx2 rfl (up69_View (wi .i64 (s1.1 + 1))) fun z2 hz2=>q_p fr<|q_ixt 0 rfl rfl fun x3 hx3=>q_flt 0 rfl hx3 (by decide)<|q_stl 0 rfl rfl hx3 rfl (up69_Value (wi .i64 ((wi .i64 (s1.1 + 1)) + 1))) fun z3 hz3=>q_p fr<|q_p fr<|q_norm 0 rr)<|q_exit 0 rr
  ·exact fun i1 s2=>q_n (q_ret2 0 rfl rfl)<|q_none
  ·exact fun s2=>q_ret2 0 rfl rfl
def ms32_0 (s1:Int×Int×(List Int)):Option (LO (Int×Int×(List Int))):=bif decide (s1.2.1 < (s1.2.2.length:Int)) then (getI s1.2.2 s1.2.1).bind fun x1=>letO (s1.2.2.set (Int.toNat s1.2.1) s1.1) fun z1=>some (LO.norm (wi .i64 (s1.1 + 1),wi .i64 (s1.2.1 + 1),z1)) else some (LO.exit 0 (s1.1,s1.2.1,s1.2.2))
def m32 (a0:List Int) (a1:Int):Option (Int×(List Int)):=(loopO (ms32_0) NN (a1,0,a0)).bind (contO (fun _=>none) (fun i1 s2=>if i1 = 0 then some (s2.1,s2.2.2) else none) (fun s2=>some (0,s2.2.2)))
theorem w32 {d:Nat} (hd:1≤d) (L0:List En) (i0_:List Nat) (c0_0:AV) (a0:List Int) (a1:Int):Okh (tr i0_ [c0_0] (a0:List Int)::L0) (fun S=>R NN d 32 [c0_0,.int .i64 a1] S) (m32 a0 a1) (P2 (fun (t:Int×(List Int))=>AV.int .i64 t.1) (fun (t:Int×(List Int))=>tr i0_ [c0_0] t.2::L0)):=by
  obtain ⟨d,rfl,g⟩:=up hd
  refine q_to (t32 NN d _ _) ?_
  unfold b32 m32
  refine q_lp (A:=fun (s:Int×Int×(List Int))=>[.int .i64 s.1,.int .i64 s.2.1]) (B:=fun s=>tr i0_ [c0_0] (s.2.2:List Int)::L0) 0 rr ?_ ?_ ?_
  ·intro s1
   unfold s32_0 ms32_0
   exact q_lent 0 rfl<|q_p fr<|q_i (q_ixt 0 rfl rfl fun x1 hx1=>q_stl0 0 rfl rfl hx1 rfl (up_int (n:=s1.1)) fun z1 hz1=>q_p fr<|q_p fr<|q_norm 0 rr)<|q_exit 0 rr
  ·exact fun i1 s2=>q_n (q_ret2 0 rfl rfl)<|q_none
  ·exact fun s2=>q_ret2 0 rfl rfl
def ms13_0 (s1:Int×Int×(List TMsg)):Option (LO (Int×Int×(List TMsg))):=bif decide (s1.2.1 < (s1.2.2.length:Int)) then (getI s1.2.2 s1.2.1).bind fun x1=>letO (s1.2.2.set (Int.toNat s1.2.1) ({ x1 with Kind:=s1.1 })) fun z1=>(getI z1 s1.2.1).bind fun x2=>letO (z1.set (Int.toNat s1.2.1) ({ x2 with View:=wi .i64 (s1.1 + 1) })) fun z2=>(getI z2 s1.2.1).bind fun x3=>letO (z2.set (Int.toNat s1.2.1) ({ x3 with From:=wi .i64 ((wi .i64 (s1.1 + 1)) + 1) })) fun z3=>(getI z3 s1.2.1).bind fun x4=>letO (z3.set (Int.toNat s1.2.1) ({ x4 with Slot:=wi .i64 ((wi .i64 ((wi .i64 (s1.1 + 1)) + 1)) + 1) })) fun z4=>(getI z4 s1.2.1).bind fun x5=>letO (z4.set (Int.toNat s1.2.1) ({ x5 with Value:=wi .i64 ((wi .i64 ((wi .i64 ((wi .i64 (s1.1 + 1)) + 1)) + 1)) + 1) })) fun z5=>(getI z5 s1.2.1).bind fun x6=>(m31 x6.Certs (wi .i64 ((wi .i64 ((wi .i64 ((wi .i64 ((wi .i64 (s1.1 + 1)) + 1)) + 1)) + 1)) + 1))).bind fun y1=>letO (z5.set (Int.toNat s1.2.1) ({ x6 with Certs:=y1.2 })) fun z6=>(getI z6 s1.2.1).bind fun x7=>(m32 x7.Refs y1.1).bind fun y2=>letO (z6.set (Int.toNat s1.2.1) ({ x7 with Refs:=y2.2 })) fun z7=>some (LO.norm (y2.1,wi .i64 (s1.2.1 + 1),z7)) else some (LO.exit 0 (s1.1,s1.2.1,s1.2.2))
def m13 (a0:List TMsg) (a1:Int):Option (Int×(List TMsg)):=(loopO (ms13_0) NN (a1,0,a0)).bind (contO (fun _=>none) (fun i1 s2=>if i1 = 0 then some (s2.1,s2.2.2) else none) (fun s2=>some (0,s2.2.2)))
theorem w13 {d:Nat} (hd:2≤d) (L0:List En) (i0_:List Nat) (c0_0:AV) (a0:List TMsg) (a1:Int):Okh (tr i0_ [c0_0] (a0:List TMsg)::L0) (fun S=>R NN d 13 [c0_0,.int .i64 a1] S) (m13 a0 a1) (P2 (fun (t:Int×(List TMsg))=>AV.int .i64 t.1) (fun (t:Int×(List TMsg))=>tr i0_ [c0_0] t.2::L0)):=by
  obtain ⟨d,rfl,g⟩:=up hd
  refine q_to (t13 NN d _ _) ?_
  unfold b13 m13
  refine q_lp (A:=fun (s:Int×Int×(List TMsg))=>[.int .i64 s.1,.int .i64 s.2.1]) (B:=fun s=>tr i0_ [c0_0] (s.2.2:List TMsg)::L0) 0 rr ?_ ?_ ?_
  ·intro s1
   unfold s13_0 ms13_0
   exact q_lent 0 rfl<|q_p fr<|q_i (q_ixt 0 rfl rfl fun x1 hx1=>q_flt 0 rfl hx1 (by decide)<|q_stl 0 rfl rfl hx1 rfl (up36_Kind s1.1) fun z1 hz1=>q_p fr<|q_ixt 0 rfl rfl fun x2 hx2=>q_flt 0 rfl hx2 (by decide)<|q_stl 0 rfl rfl hx2 rfl (up36_View (wi .i64 (s1.1 + 1))) fun z2 hz2=>q_p fr<|q_ixt 0 rfl rfl fun x3 hx3=>q_flt 0 rfl hx3 (by decide)<|q_stl 0 rfl rfl hx3 rfl (up36_From (wi .i64 ((wi .i64 (s1.1 + 1)) + 1))) fun z3 hz3=>q_p fr<|q_ixt 0 rfl rfl fun x4 hx4=>q_flt 0 rfl hx4 (by decide)<|q_stl 0 rfl rfl hx4 rfl (up36_Slot (wi .i64 ((wi .i64 ((wi .i64 (s1.1 + 1)) + 1)) + 1))) fun z4 hz4=>q_p fr<|q_ixt 0 rfl rfl fun x5 hx5=>q_flt 0 rfl hx5 (by decide)<|q_stl 0 rfl rfl hx5 rfl (up36_Value (wi .i64 ((wi .i64 ((wi .i64 ((wi .i64 (s1.1 + 1)) + 1)) + 1)) + 1))) fun z5 hz5=>q_p fr<|q_ixt 0 rfl rfl fun x6 hx6=>q_flt 0 rfl hx6 (by decide)<|q_ldf rfl rfl hx6 fo36_Certs fun w1 ic1=>q_s (mg:=m31 x6.Certs (wi .i64 ((wi .i64 ((wi .i64 ((wi .i64 ((wi .i64 (s1.1 + 1)) + 1)) + 1)) + 1)) + 1))) (w31 (by omega) _ ic1 w1 x6.Certs (wi .i64 ((wi .i64 ((wi .i64 ((wi .i64 ((wi .i64 (s1.1 + 1)) + 1)) + 1)) + 1)) + 1))) fun y1 hy1=>q_putl fun z6 hz6=>q_ixt 0 rfl rfl fun x7 hx7=>q_flt 0 rfl hx7 (by decide)<|q_ldf rfl rfl hx7 fo36_Refs fun w2 ic2=>q_s (mg:=m32 x7.Refs y1.1) (w32 (by omega) _ ic2 w2 x7.Refs y1.1) fun y2 hy2=>q_putl fun z7 hz7=>q_p fr<|q_norm 0 rr)<|q_exit 0 rr
  ·exact fun i1 s2=>q_n (q_ret2 0 rfl rfl)<|q_none
  ·exact fun s2=>q_ret2 0 rfl rfl
def m14 (a0:TMsg) (a1:Int):Option (Int×TMsg):=(m31 a0.Certs a1).bind fun y1=>letO ({ a0 with Certs:=y1.2 }) fun z1=>(m32 z1.Refs y1.1).bind fun y2=>letO ({ z1 with Refs:=y2.2 }) fun z2=>some (y2.1,z2)
theorem w14 {d:Nat} (hd:2≤d) (L0:List En) (i0_:List Nat) (c0_0 c0_1 c0_2 c0_3 c0_4 c0_5 c0_6:AV) (a0:TMsg) (a1:Int):Okh (tr i0_ [c0_0,c0_1,c0_2,c0_3,c0_4,c0_5,c0_6] (a0:TMsg)::L0) (fun S=>R NN d 14 [.agg [c0_0,c0_1,c0_2,c0_3,c0_4,c0_5,c0_6],.int .i64 a1] S) (m14 a0 a1) (P2 (fun (t:Int×TMsg)=>AV.int .i64 t.1) (fun (t:Int×TMsg)=>tr i0_ [c0_0,c0_1,c0_2,c0_3,c0_4,c0_5,c0_6] t.2::L0)):=by
  obtain ⟨d,rfl,g⟩:=up hd
  refine q_to (t14 NN d _ _) ?_
  unfold b14 m14
  exact q_box (n:=7) rfl rfl (by decide) fun b1=>q_p fr<|q_ld 0 rfl rfl<|q_sel 2 [1,0] (by decide) (by decide)<|q_prt fo36_Certs rfl fun ic1=>q_s (mg:=m31 a0.Certs a1) (w31 (by omega) _ ic1 c0_5 a0.Certs a1) fun y1 hy1=>q_putl fun z1 hz1=>q_p fr<|q_ld 1 rfl rfl<|q_prt fo36_Refs rfl fun ic2=>q_s (mg:=m32 z1.Refs y1.1) (w32 (by omega) _ ic2 c0_6 z1.Refs y1.1) fun y2 hy2=>q_putl fun z2 hz2=>q_sel 2 [1,0] (by decide) (by decide)<|q_ret2 1 rfl rfl
def m15 (a0:TLedgerResult) (a1:Int):Option (Int×TLedgerResult):=(m13 a0.Ledger a1).bind fun y1=>letO ({ a0 with Ledger:=y1.2 }) fun z1=>some (y1.1,z1)
theorem w15 {d:Nat} (hd:3≤d) (L0:List En) (i0_:List Nat) (c0_0 c0_1:AV) (a0:TLedgerResult) (a1:Int):Okh (tr i0_ [c0_0,c0_1] (a0:TLedgerResult)::L0) (fun S=>R NN d 15 [.agg [c0_0,c0_1],.int .i64 a1] S) (m15 a0 a1) (P2 (fun (t:Int×TLedgerResult)=>AV.int .i64 t.1) (fun (t:Int×TLedgerResult)=>tr i0_ [c0_0,c0_1] t.2::L0)):=by
  obtain ⟨d,rfl,g⟩:=up hd
  refine q_to (t15 NN d _ _) ?_
  unfold b15 m15
  exact q_box (n:=2) rfl rfl (by decide) fun b1=>q_p fr<|q_ld 0 rfl rfl<|q_sel 2 [1,0] (by decide) (by decide)<|q_prt fo31_Ledger rfl fun ic1=>q_s (mg:=m13 a0.Ledger a1) (w13 (by omega) _ ic1 c0_1 a0.Ledger a1) fun y1 hy1=>q_putl fun z1 hz1=>q_sel 2 [1,0] (by decide) (by decide)<|q_ret2 1 rfl rfl
def ms61_0 (a0:List TCert) (s1:Int×Int×Int):Option (LO (Int×Int×Int)):=bif decide (s1.2.2 < (a0.length:Int)) then (getI a0 s1.2.2).bind fun x1=>bif x1.Slot != s1.1 then some (LO.ret (s1.1,(-1),s1.2.2)) else (getI a0 s1.2.2).bind fun x2=>bif x2.View != (wi .i64 (s1.1 + 1)) then some (LO.ret (wi .i64 (s1.1 + 1),(-1),s1.2.2)) else (getI a0 s1.2.2).bind fun x3=>bif x3.Value != (wi .i64 ((wi .i64 (s1.1 + 1)) + 1)) then some (LO.ret (wi .i64 ((wi .i64 (s1.1 + 1)) + 1),(-1),s1.2.2)) else some (LO.norm (wi .i64 ((wi .i64 ((wi .i64 (s1.1 + 1)) + 1)) + 1),s1.2.1,wi .i64 (s1.2.2 + 1))) else some (LO.exit 0 (s1.1,s1.2.1,s1.2.2))
def m61 (a0:List TCert) (a1:Int):Option (Int):=(loopO (ms61_0 a0) NN (a1,0,0)).bind (contO (fun _=>none) (fun i1 s2=>if i1 = 0 then some s2.1 else none) (fun s2=>some s2.2.1))
theorem w61 {d:Nat} (hd:1≤d) (k0:Bool) (a0:List TCert) (a1:Int):Fit (R NN d 61 [.rsl k0 false (a0.map (Enc.cs k0)),.int .i64 a1] []) (m61 a0 a1) PI:=by
  obtain ⟨d,rfl,g⟩:=up hd
  refine q_in (t61 NN d _ _) ?_
  unfold b61 m61
  refine q_lp (A:=fun (s:Int×Int×Int)=>[.int .i64 s.1,.int .i64 s.2.1,.int .i64 s.2.2]) (B:=fun s=>[]) 0 rr ?_ ?_ ?_
  ·intro s1
   unfold s61_0 ms61_0
   exact q_len<|q_p fr<|q_i (q_ix rfl fun x1 hx1=>q_p fr<|q_p fr<|q_p fr<|q_i (q_lret 0 rr)<|q_p fr<|q_ix rfl fun x2 hx2=>q_p fr<|q_p fr<|q_p fr<|q_i (q_lret 0 rr)<|q_p fr<|q_ix rfl fun x3 hx3=>q_p fr<|q_p fr<|q_p fr<|q_i (q_lret 0 rr)<|q_p fr<|q_p fr<|q_norm 0 rr)<|q_exit 0 rr
  ·exact fun i1 s2=>q_n (q_ret (cv_p rfl) rfl)<|q_none
  ·exact fun s2=>q_ret (cv_p rfl) rfl
def ms62_0 (a0:List Int) (s1:Int×Int×Int):Option (LO (Int×Int×Int)):=bif decide (s1.2.2 < (a0.length:Int)) then (getI a0 s1.2.2).bind fun x1=>bif x1 != s1.1 then some (LO.ret (s1.1,(-1),s1.2.2)) else some (LO.norm (wi .i64 (s1.1 + 1),s1.2.1,wi .i64 (s1.2.2 + 1))) else some (LO.exit 0 (s1.1,s1.2.1,s1.2.2))
def m62 (a0:List Int) (a1:Int):Option (Int):=(loopO (ms62_0 a0) NN (a1,0,0)).bind (contO (fun _=>none) (fun i1 s2=>if i1 = 0 then some s2.1 else none) (fun s2=>some s2.2.1))
theorem w62 {d:Nat} (hd:1≤d) (k0:Bool) (a0:List Int) (a1:Int):Fit (R NN d 62 [.rsl k0 false (a0.map (Enc.cs k0)),.int .i64 a1] []) (m62 a0 a1) PI:=by
  obtain ⟨d,rfl,g⟩:=up hd
  refine q_in (t62 NN d _ _) ?_
  unfold b62 m62
  refine q_lp (A:=fun (s:Int×Int×Int)=>[.int .i64 s.1,.int .i64 s.2.1,.int .i64 s.2.2]) (B:=fun s=>[]) 0 rr ?_ ?_ ?_
  ·intro s1
   unfold s62_0 ms62_0
   exact q_len<|q_p fr<|q_i (q_ix rfl fun x1 hx1=>q_p fr<|q_p fr<|q_i (q_lret 0 rr)<|q_p fr<|q_p fr<|q_norm 0 rr)<|q_exit 0 rr
  ·exact fun i1 s2=>q_n (q_ret (cv_p rfl) rfl)<|q_none
  ·exact fun s2=>q_ret (cv_p rfl) rfl
def ms33_0 (a0:List TMsg) (s1:Int×Int×Int):Option (LO (Int×Int×Int)):=bif decide (s1.2.2 < (a0.length:Int)) then (getI a0 s1.2.2).bind fun x1=>bif x1.Kind != s1.1 then some (LO.ret (s1.1,(-1),s1.2.2)) else (getI a0 s1.2.2).bind fun x2=>bif x2.View != (wi .i64 (s1.1 + 1)) then some (LO.ret (wi .i64 (s1.1 + 1),(-1),s1.2.2)) else (getI a0 s1.2.2).bind fun x3=>bif x3.From != (wi .i64 ((wi .i64 (s1.1 + 1)) + 1)) then some (LO.ret (wi .i64 ((wi .i64 (s1.1 + 1)) + 1),(-1),s1.2.2)) else (getI a0 s1.2.2).bind fun x4=>bif x4.Slot != (wi .i64 ((wi .i64 ((wi .i64 (s1.1 + 1)) + 1)) + 1)) then some (LO.ret (wi .i64 ((wi .i64 ((wi .i64 (s1.1 + 1)) + 1)) + 1),(-1),s1.2.2)) else (getI a0 s1.2.2).bind fun x5=>bif x5.Value != (wi .i64 ((wi .i64 ((wi .i64 ((wi .i64 (s1.1 + 1)) + 1)) + 1)) + 1)) then some (LO.ret (wi .i64 ((wi .i64 ((wi .i64 ((wi .i64 (s1.1 + 1)) + 1)) + 1)) + 1),(-1),s1.2.2)) else (getI a0 s1.2.2).bind fun x6=>(m61 x6.Certs (wi .i64 ((wi .i64 ((wi .i64 ((wi .i64 ((wi .i64 (s1.1 + 1)) + 1)) + 1)) + 1)) + 1))).bind fun y1=>bif decide (y1 < 0) then some (LO.ret (y1,(-1),s1.2.2)) else (getI a0 s1.2.2).bind fun x7=>(m62 x7.Refs y1).bind fun y2=>bif decide (y2 < 0) then some (LO.ret (y2,(-1),s1.2.2)) else some (LO.norm (y2,s1.2.1,wi .i64 (s1.2.2 + 1))) else some (LO.exit 0 (s1.1,s1.2.1,s1.2.2))
def m33 (a0:List TMsg) (a1:Int):Option (Int):=(loopO (ms33_0 a0) NN (a1,0,0)).bind (contO (fun _=>none) (fun i1 s2=>if i1 = 0 then some s2.1 else none) (fun s2=>some s2.2.1))
theorem w33 {d:Nat} (hd:2≤d) (k0:Bool) (a0:List TMsg) (a1:Int):Fit (R NN d 33 [.rsl k0 false (a0.map (Enc.cs k0)),.int .i64 a1] []) (m33 a0 a1) PI:=by
  obtain ⟨d,rfl,g⟩:=up hd
  refine q_in (t33 NN d _ _) ?_
  unfold b33 m33
  refine q_lp (A:=fun (s:Int×Int×Int)=>[.int .i64 s.1,.int .i64 s.2.1,.int .i64 s.2.2]) (B:=fun s=>[]) 0 rr ?_ ?_ ?_
  ·intro s1
   unfold s33_0 ms33_0
   exact q_len<|q_p fr<|q_i (q_ix rfl fun x1 hx1=>q_p fr<|q_p fr<|q_p fr<|q_i (q_lret 0 rr)<|q_p fr<|q_ix rfl fun x2 hx2=>q_p fr<|q_p fr<|q_p fr<|q_i (q_lret 0 rr)<|q_p fr<|q_ix rfl fun x3 hx3=>q_p fr<|q_p fr<|q_p fr<|q_i (q_lret 0 rr)<|q_p fr<|q_ix rfl fun x4 hx4=>q_p fr<|q_p fr<|q_p fr<|q_i (q_lret 0 rr)<|q_p fr<|q_ix rfl fun x5 hx5=>q_p fr<|q_p fr<|q_p fr<|q_i (q_lret 0 rr)<|q_p fr<|q_ix rfl fun x6 hx6=>q_p fr<|q_p fr<|q_c0 (aF2 cv_r (cv_p rfl) fun l0_ l1_=>w61 (by omega) l0_ x6.Certs (wi .i64 ((wi .i64 ((wi .i64 ((wi .i64 ((wi .i64 (s1.1 + 1)) + 1)) + 1)) + 1)) + 1))) fun y1 hy1=>q_p fr<|q_i (q_lret 0 rr)<|q_ix rfl fun x7 hx7=>q_p fr<|q_p fr<|q_c0 (aF2 cv_r (cv_p rfl) fun l0_ l1_=>w62 (by omega) l0_ x7.Refs y1) fun y2 hy2=>q_p fr<|q_i (q_lret 0 rr)<|q_p fr<|q_norm 0 rr)<|q_exit 0 rr
  ·exact fun i1 s2=>q_n (q_ret (cv_p rfl) rfl)<|q_none
  ·exact fun s2=>q_ret (cv_p rfl) rfl
def m16 (a0:TLedgerResult) (a1:Int):Option (Int):=(m33 a0.Ledger a1).bind fun y1=>bif decide (y1 < 0) then some (-1) else some y1
theorem w16 {d:Nat} (hd:3≤d) (k0:Bool) (a0:TLedgerResult) (a1:Int):Fit (R NN d 16 [.agg (Enc.cs k0 a0),.int .i64 a1] []) (m16 a0 a1) PI:=by
  obtain ⟨d,rfl,g⟩:=up hd
  refine q_in (t16 NN d _ _) ?_
  unfold b16 m16
  exact q_box (n:=2) rfl rfl (by decide) fun b1=>q_p fr<|q_ld 0 rfl rfl<|q_c0 (aF2 cv_r (cv_p rfl) fun l0_ l1_=>w33 (by omega) l0_ a0.Ledger a1) fun y1 hy1=>q_p fr<|q_i (q_ret (cv_p rfl) rfl)<|q_ret (cv_p rfl) rfl
def m3 (a0:Int) (a1:List TMsg) (a2:TMsg):Option (Bool):=(m4 a1 1048576).bind fun y1=>bif decide (y1 < 0) then some true else bif decide ((m5 a2 y1) < 0) then some true else (m7 a1).bind fun y2=>(m8 a2).bind fun y3=>(m6 a0 y2 y3).bind fun y4=>(m7 a1).bind fun y5=>(m8 a2).bind fun y6=>(m9 a0 y5 y6).bind fun y7=>(m10 y7 y4).bind fun y8=>bif !y8 then some false else (m7 a1).bind fun y9=>(m11 y5 y9).bind fun y10=>bif !y10 then some false else (m8 a2).bind fun y11=>(m12 y6 y11).bind fun y12=>bif !y12 then some false else (m13 y5 1).bind fun y13=>(m14 y6 y13.1).bind fun y14=>( bif decide (y14.1 < 0) then some (LO.ret false) else (m10 y7 y4).bind fun y15=>bif !y15 then some (LO.ret false) else some (LO.norm false)).bind (contO (fun s2=>(m15 y7 1).bind fun y16=>(m16 y16.2 1).bind fun y17=>bif decide (y17 < 0) then some false else bif y17 != y16.1 then some false else (m7 a1).bind fun y18=>(m8 a2).bind fun y19=>(m9 a0 y18 y19).bind fun y20=>(m10 y20 y4).bind fun y21=>bif !y21 then some false else (m16 y16.2 1).bind fun y22=>bif decide (y22 < 0) then some false else bif y22 != y16.1 then some false else some true) (fun i5 s2=>none) (fun s2=>some s2))
theorem w3 {d:Nat} (hd:9≤d) (a0:Int) (k1:Bool) (a1:List TMsg) (k2:Bool) (a2:TMsg):Fit (R NN d 3 [.int .i64 a0,.rsl k1 false (a1.map (Enc.cs k1)),.agg (Enc.cs k2 a2)] []) (m3 a0 a1 a2) PB:=by
  obtain ⟨d,rfl,g⟩:=up hd
  refine q_in (t3 NN d _ _ _) ?_
  unfold b3 m3
  refine q_box (n:=7) rfl rfl (by decide) fun b1=>q_c0 (aF2 cv_r (cv_p rfl) fun l0_ l1_=>w4 (by omega) l0_ a1 1048576) fun y1 hy1=>q_p fr<|q_i ?_ ?_
  ·exact q_ret (cv_p rfl) rfl
  ·refine q_lda 0 rfl rfl rfl<|q_c0t (aF2 (cv_a (cvs_e (l0:=k2) (x:=a2))) (cv_p rfl) fun l0_ l1_=>w5 (by omega) l0_ a2 y1)<|q_p fr<|q_i ?_ ?_
   ·exact q_ret (cv_p rfl) rfl
   ·refine q_new rfl fun b2=>q_c0 (aF1 cv_r fun l0_=>w7f (by omega) l0_ a1) fun y2 hy2=>q_lda 1 rfl rfl rfl<|q_c0 (aF1 (cv_a (cvs_e (l0:=k2) (x:=a2))) fun l0_=>w8f (by omega) l0_ a2) fun y3 hy3=>q_c0 (aF3 (cv_p rfl) cv_r (cv_a (cvs_e (l0:=false) (x:=y3))) fun l0_ l1_ l2_=>w6 (by omega) a0 l1_ y2 l2_ y3) fun y4 hy4=>q_st 0 rfl rfl rfl (by decide) rfl<|q_c1s (mg:=m7 a1) (aF1 cv_r fun l0_=>w7 (by omega) l0_ a1) fun y5 hy5 i1 v1=>q_lda 2 rfl rfl rfl<|q_c1 (W:=AV.agg) (mg:=m8 a2) sh_agg (aF1 (cv_a (cvs_e (l0:=k2) (x:=a2))) fun l0_=>w8 (by omega) l0_ a2) fun y6 hy6 i2 cs2=>q_cx (fun S hS=>trx36 (hS.get (k:=0) rfl)) fun hcs_=>?_
    obtain ⟨v2,v3,rfl⟩:=hcs_
    refine q_new rfl fun b3=>q_st 0 rfl rfl rfl (by decide) rfl<|q_lda 0 rfl rfl rfl<|q_c1 (W:=AV.agg) (mg:=m9 a0 y5 y6) sh_agg (aF3 (cv_p rfl) (cv_tr 2 rfl) (cv_a (cvs_tr 1 rfl)) fun l0_ l1_ l2_=>w9 (by omega) a0 l1_ y5 l2_ y6) fun y7 hy7 i3 cs3=>q_cx (fun S hS=>trx31 (hS.get (k:=0) rfl)) fun hcs_=>?_
    obtain ⟨v4,rfl⟩:=hcs_
    refine q_new rfl fun b4=>q_st 0 rfl rfl rfl (by decide) rfl<|q_lda 0 rfl rfl rfl<|q_lda 5 rfl rfl rfl<|q_c0 (aF2 (cv_a (cvs_tr 1 rfl)) (cv_a (cvs_e (l0:=false) (x:=y4))) fun l0_ l1_=>w10 (by omega) l0_ y7 l1_ y4) fun y8 hy8=>q_p fr<|q_i ?_ ?_
    ·exact q_ret (cv_p rfl) rfl
    ·refine q_c1s (mg:=m7 a1) (aF1 cv_r fun l0_=>w7 (by omega) l0_ a1) fun y9 hy9 i4 v5=>q_c0 (aF2 (cv_tr 5 rfl) (cv_tr 0 rfl) fun l0_ l1_=>w11 (by omega) l0_ y5 l1_ y9) fun y10 hy10=>q_p fr<|q_i ?_ ?_
     ·exact q_ret (cv_p rfl) rfl
     ·refine q_lda 3 rfl rfl rfl<|q_lda 7 rfl rfl rfl<|q_c0 (aF1 (cv_a (cvs_e (l0:=k2) (x:=a2))) fun l0_=>w8f (by omega) l0_ a2) fun y11 hy11=>q_c0 (aF2 (cv_a (cvs_tr 4 rfl)) (cv_a (cvs_e (l0:=false) (x:=y11))) fun l0_ l1_=>w12 (by omega) l0_ y6 l1_ y11) fun y12 hy12=>q_p fr<|q_i ?_ ?_
      ·exact q_ret (cv_p rfl) rfl
      ·refine q_sel 8 [5,0,1,2,3,4,6,7] (by decide) (by decide)<|q_s (mg:=m13 y5 1) (w13 (by omega) _ i1 v1 y5 1) fun y13 hy13=>q_lda 4 rfl rfl rfl<|q_sel 8 [5,0,1,2,3,4,6,7] (by decide) (by decide)<|q_s (mg:=m14 y6 y13.1) (w14 (by omega) _ i2 (.int .i64 y6.Kind) (.int .i64 y6.View) (.int .i64 y6.From) (.int .i64 y6.Slot) (.int .i64 y6.Value) v2 v3 y6 y13.1) fun y14 hy14=>q_cu (A:=fun (s:Bool)=>[.bool s]) (B:=fun s=>[tr i2 [.int .i64 y6.Kind,.int .i64 y6.View,.int .i64 y6.From,.int .i64 y6.Slot,.int .i64 y6.Value,v2,v3] (y14.2:TMsg),tr i1 [v1] (y13.2:List TMsg),tr i4 [v5] (y9:List TMsg),bx b4 [.int .i64 y7.Code,v4],tr i3 [.int .i64 y7.Code,v4] (y7:TLedgerResult),bx b3 [.int .i64 y6.Kind,.int .i64 y6.View,.int .i64 y6.From,.int .i64 y6.Slot,.int .i64 y6.Value,v2,v3],bx b2 [.int .i64 y4.Code,.rsl false false (y4.Ledger.map (Enc.cs false))],bx b1 [.int .i64 a2.Kind,.int .i64 a2.View,.int .i64 a2.From,.int .i64 a2.Slot,.int .i64 a2.Value,.rsl k2 false (a2.Certs.map (Enc.cs k2)),.rsl k2 false (a2.Refs.map (Enc.cs k2))]]) ?_ ?_ ?_ ?_
       ·refine q_p fr<|q_j ?_ ?_
        ·first | refine q_ifT1 ?_ | skip
         exact q_lret 0 rr
        ·exact q_lda 3 rfl rfl rfl<|q_lda 6 rfl rfl rfl<|q_c0 (aF2 (cv_a (cvs_tr 4 rfl)) (cv_a (cvs_e (l0:=false) (x:=y4))) fun l0_ l1_=>w10 (by omega) l0_ y7 l1_ y4) fun y15 hy15=>q_p fr<|q_i (q_lret 0 rr)<|q_norm 0 rr
       ·exact fun s2=>q_lda 3 rfl rfl rfl<|q_sel 8 [4,0,1,2,3,5,6,7] (by decide) (by decide)<|q_s (mg:=m15 y7 1) (w15 (by omega) _ i3 (.int .i64 y7.Code) v4 y7 1) fun y16 hy16=>q_lda 4 rfl rfl rfl<|q_c0 (aF2 (cv_a (cvs_tr 0 rfl)) (cv_p rfl) fun l0_ l1_=>w16 (by omega) l0_ y16.2 1) fun y17 hy17=>q_p fr<|q_i (q_ret (cv_p rfl) rfl)<|q_p fr<|q_i (q_ret (cv_p rfl) rfl)<|q_new rfl fun b5=>q_c0 (aF1 cv_r fun l0_=>w7f (by omega) l0_ a1) fun y18 hy18=>q_lda 8 rfl rfl rfl<|q_c0 (aF1 (cv_a (cvs_e (l0:=k2) (x:=a2))) fun l0_=>w8f (by omega) l0_ a2) fun y19 hy19=>q_c0 (aF3 (cv_p rfl) cv_r (cv_a (cvs_e (l0:=false) (x:=y19))) fun l0_ l1_ l2_=>w9f (by omega) a0 l1_ y18 l2_ y19) fun y20 hy20=>q_st 0 rfl rfl rfl (by decide) rfl<|q_lda 0 rfl rfl rfl<|q_lda 7 rfl rfl rfl<|q_c0 (aF2 (cv_a (cvs_e (l0:=false) (x:=y20))) (cv_a (cvs_e (l0:=false) (x:=y4))) fun l0_ l1_=>w10 (by omega) l0_ y20 l1_ y4) fun y21 hy21=>q_p fr<|q_i (q_ret (cv_p rfl) rfl)<|q_lda 5 rfl rfl rfl<|q_c0 (aF2 (cv_a (cvs_tr 1 rfl)) (cv_p rfl) fun l0_ l1_=>w16 (by omega) l0_ y16.2 1) fun y22 hy22=>q_p fr<|q_i (q_ret (cv_p rfl) rfl)<|q_p fr<|q_i (q_ret (cv_p rfl) rfl)<|q_ret (cv_p rfl) rfl
       ·exact fun i5 s2=>q_none
       ·exact fun s2=>q_ret (cv_p rfl) rfl
end
end Go.Proofs.Ytifocmbeahpopaa
