/- Clusters: sizes, copies, likeness. -/
import Derived.Test.YtmjibndicekcaaaGreatDoorSort
import Derived.Test.YtmjibndicekcaaaGreatDoorRh6
namespace Go.Proofs.YtmjibndicekcaaaGreatDoor
open Go Go.Rf
set_option linter.unusedVariables false
set_option linter.unusedSimpArgs false
theorem NN_l {n:Nat} (h:n≤1048576):n < NN:=by rw [NN_eq]; omega
def okMsg (m:TMsg):Prop:=m.Certs.length≤maxLen∧m.Refs.length≤maxLen
def goodMsg (m:TMsg):Prop:=m.Certs.length≤1048576∧m.Refs.length≤1048576
def okReq (r:TRequest):Prop:=r.Ops.length≤maxLen∧∀ o∈r.Ops,o.Path.length≤maxLen
def goodReq (r:TRequest):Prop:=r.Ops.length≤1048576
def okClu (c:TCluster):Prop:=c.Bad.length≤maxLen∧c.Replicas.length≤maxLen∧(c.Ledger.length≤maxLen∧∀ m∈c.Ledger,okMsg m)∧(c.Requests.length≤maxLen∧∀ r∈c.Requests,okReq r)
structure GoodClu (c:TCluster):Prop where
 bad:c.Bad.length≤1048576
 rep:c.Replicas.length≤1048576
 led:c.Ledger.length≤1048576
 msg:∀ m∈c.Ledger,goodMsg m
 req:c.Requests.length≤1048576
 ops:∀ r∈c.Requests,goodReq r
theorem szMsg_ok:Sz (fun x l=>some (m37 x l)) okMsg goodMsg:=by
 rintro x ⟨h1,h2⟩ l k0 k1
 refine ⟨_,rfl,?_⟩
 obtain ⟨y,hy,hy2⟩:=gSl_ok x.Certs h1 l k0 k1
 injection hy with hy
 unfold m37
 rw [show m66 x.Certs l = y from hy]
 by_cases c1:y < 0
 ·simp only [c1,decide_true,cond_true]; intro h; omega
 obtain ⟨e1,e2⟩:=hy2 (by omega)
 obtain ⟨z,hz,hz2⟩:=gSl_ok x.Refs h2 y (by omega) (by omega)
 injection hz with hz
 rw [show m13 x.Refs y = z from hz]
 by_cases c2:z < 0
 ·simp only [c1,c2,decide_true,decide_false,cond_true,cond_false]; intro h; omega
 simp only [c1,c2,decide_false,cond_false]
 intro h
 obtain ⟨e3,e4⟩:=hz2 h
 exact ⟨by omega,e2,e4⟩
theorem szMsgS_ok:Sz (m15) (fun xs=>xs.length≤maxLen∧∀ x∈xs,okMsg x) (fun xs=>xs.length≤1048576∧∀ x∈xs,goodMsg x):=gS_ok szMsg_ok (NN_l (Nat.le_refl _))
theorem szOp_ok:Sz (fun x l=>some (m95 x l)) (fun o=>o.Path.length≤maxLen) (fun o=>o.Path.length≤1048576):=fun x hx l k0 k1=>gSl_ok x.Path hx l k0 k1
theorem szOpS_ok:Sz (m67) (fun xs=>xs.length≤maxLen∧∀ x∈xs,x.Path.length≤maxLen) (fun xs=>xs.length≤1048576∧∀ x∈xs,x.Path.length≤1048576):=gS_ok szOp_ok (NN_l (Nat.le_refl _))
theorem szReq_ok:Sz (m38) okReq goodReq:=by
 rintro x hx l k0 k1
 obtain ⟨y,hy,hy2⟩:=szOpS_ok x.Ops hx l k0 k1
 unfold m38
 rw [hy,obs]
 by_cases c1:y < 0
 ·simp only [c1,decide_true,cond_true]; exact ⟨_,rfl,fun h=>by omega⟩
 simp only [c1,decide_false,cond_false]
 exact ⟨_,rfl,fun h=>⟨(hy2 h).1,(hy2 h).2.1⟩⟩
theorem szReqS_ok:Sz (m16) (fun xs=>xs.length≤maxLen∧∀ x∈xs,okReq x) (fun xs=>xs.length≤1048576∧∀ x∈xs,goodReq x):=gSo_ok szReq_ok (NN_l (Nat.le_refl _))
theorem szClu2_ok (c:TCluster) (h:okClu c):∃ y,m4 c 1048576 = some y∧(0≤y→y≤1048576∧GoodClu c):=by
 obtain ⟨h1,h2,h3,h4⟩:=h
 unfold m4
 obtain ⟨y,hy,hy2⟩:=gSl_ok c.Bad h1 1048576 (by omega) (by omega)
 injection hy with hy
 rw [show m13 c.Bad 1048576 = y from hy]
 by_cases c1:y < 0
 ·simp only [c1,decide_true,cond_true]; exact ⟨_,rfl,fun h=>by omega⟩
 simp only [c1,decide_false,cond_false]
 obtain ⟨e1,e2⟩:=hy2 (by omega)
 obtain ⟨z,hz,hz2⟩:=gSl_ok c.Replicas h2 y (by omega) (by omega)
 injection hz with hz
 rw [show m14 c.Replicas y = z from hz]
 by_cases c2:z < 0
 ·simp only [c2,decide_true,cond_true]; exact ⟨_,rfl,fun h=>by omega⟩
 simp only [c2,decide_false,cond_false]
 obtain ⟨e3,e4⟩:=hz2 (by omega)
 obtain ⟨u,hu,hu2⟩:=szMsgS_ok c.Ledger h3 z (by omega) (by omega)
 rw [hu,obs]
 by_cases c3:u < 0
 ·simp only [c3,decide_true,cond_true]; exact ⟨_,rfl,fun h=>by omega⟩
 simp only [c3,decide_false,cond_false]
 obtain ⟨e5,e6⟩:=hu2 (by omega)
 obtain ⟨v,hv,hv2⟩:=szReqS_ok c.Requests h4 u (by omega) (by omega)
 rw [hv,obs]
 by_cases c4:v < 0
 ·simp only [c4,decide_true,cond_true]; exact ⟨_,rfl,fun h=>by omega⟩
 simp only [c4,decide_false,cond_false]
 exact ⟨_,rfl,fun h=>⟨by have:=(hv2 h).1; omega,e2,e4,e6.1,e6.2,(hv2 h).2.1,(hv2 h).2.2⟩⟩
theorem szClu_ok (c:TCluster) (h:okClu c):∃ y,m4 c 1048576 = some y∧(0≤y→GoodClu c):=by
 obtain ⟨y,h1,h2⟩:=szClu2_ok c h
 exact ⟨y,h1,fun h=>(h2 h).2⟩
theorem toI_ok (xs:List Int) (h:xs.length≤1048576):m22 xs = some xs:=gT_ok (t:=fun x=>x) (z:=0) (by_:=8) (fun _=>rfl) (NN_l h) h (by omega)
theorem toCerts_ok (xs:List TCert) (h:xs.length≤1048576):m79 xs = some xs:=gT_ok (t:=m108) (z:=(⟨0,0,0⟩:TCert)) (by_:=24) (fun _=>rfl) (NN_l h) h (by omega)
theorem toReps_ok (xs:List TReplica) (h:xs.length≤1048576):m23 xs = some xs:=gT_ok (t:=m48) (z:=(⟨0,0,0,0⟩:TReplica)) (by_:=32) (fun _=>rfl) (NN_l h) h (by omega)
theorem toOps_ok (xs:List TOp) (h:xs.length≤1048576):m80 xs = some xs:=gT_ok (t:=m109) (z:=(⟨0,[],0,0,false,false⟩:TOp)) (by_:=48) (fun _=>rfl) (NN_l h) h (by omega)
theorem toMsg_ok (x:TMsg) (h:goodMsg x):m49 x = some x:=by
 unfold m49
 rw [toCerts_ok _ h.1,obs,toI_ok _ h.2]; rfl
theorem toMsgs_ok (xs:List TMsg) (h:xs.length≤1048576) (g:∀ x∈xs,goodMsg x):m24 xs = some xs:=gTo_ok (t:=m49) (z:=(⟨0,0,0,0,0,[],[]⟩:TMsg)) (by_:=88) (fun x hx=>toMsg_ok x (g x hx)) (NN_l h) h (by omega)
theorem toReq_ok (x:TRequest) (h:goodReq x):m50 x = some x:=by
 unfold m50
 rw [toOps_ok _ h]; rfl
theorem toReqs_ok (xs:List TRequest) (h:xs.length≤1048576) (g:∀ x∈xs,goodReq x):m25 xs = some xs:=gTo_ok (t:=m50) (z:=(⟨0,0,0,[]⟩:TRequest)) (by_:=48) (fun x hx=>toReq_ok x (g x hx)) (NN_l h) h (by omega)
theorem toClu_ok (c:TCluster) (h:GoodClu c):m6 c = some c:=by
 unfold m6
 rw [toI_ok _ h.bad,obs,toReps_ok _ h.rep,obs,toMsgs_ok _ h.led h.msg,obs,toReqs_ok _ h.req h.ops]; rfl
theorem big_l {n:Nat} (h:n≤1048576):n≤big:=by unfold big; omega
theorem eqI_ok (xs:List Int) (h:xs.length≤1048576):m28 xs xs = some true:=gE_self (ne:=fun a b=>a != b) (fun a=>by simp) (NN_l h) (big_l h)
theorem eqCerts_ok (xs:List TCert) (h:xs.length≤1048576):m90 xs xs = some true:=gE_self (ne:=fun a b=>!(m131 a b)) (fun a=>by simp [m131]) (NN_l h) (big_l h)
theorem eqReps_ok (xs:List TReplica) (h:xs.length≤1048576):m29 xs xs = some true:=gE_self (ne:=fun a b=>!(m57 a b)) (fun a=>by simp [m57]) (NN_l h) (big_l h)
theorem eqOps_ok (xs:List TOp) (h:xs.length≤1048576):m91 xs xs = some true:=gE_self (ne:=fun a b=>!(m132 a b)) (fun a=>by simp [m132]) (NN_l h) (big_l h)
theorem eqMsgs_ok (xs:List TMsg) (h:xs.length≤1048576) (g:∀ x∈xs,goodMsg x):m30 xs xs = some true:=gEo_self (eq:=m58) (fun a ha=>by
 unfold m58
 rw [eqCerts_ok _ (g a ha).1,eqI_ok _ (g a ha).2]
 simp) (NN_l h) (big_l h)
theorem eqReqs_ok (xs:List TRequest) (h:xs.length≤1048576) (g:∀ x∈xs,goodReq x):m31 xs xs = some true:=gEo_self (eq:=m59) (fun a ha=>by
 unfold m59
 rw [eqOps_ok _ (g a ha)]
 simp) (NN_l h) (big_l h)
theorem eqClu_ok (c:TCluster) (h:GoodClu c):m9 c c = some true:=by
 unfold m9
 rw [eqI_ok _ h.bad,eqReps_ok _ h.rep,eqMsgs_ok _ h.led h.msg,eqReqs_ok _ h.req h.ops]
 simp
open Go Go.Rf
set_option linter.unusedVariables false
set_option linter.unusedSimpArgs false
def inR (n lo hi:Int):Bool:=decide (lo≤n∧n≤hi)
theorem in1 (n lo hi:Int):m101 n lo hi = inR n lo hi:=by
 unfold m101 inR
 by_cases h:n ≥ lo
 ·simp [h]
 ·simp [h]
theorem in2 (n lo hi:Int):m148 n lo hi = inR n lo hi:=in1 n lo hi
theorem slotted_in (k:Int):m170 k = inR k 1 3:=in1 _ _ _
theorem view_in (k:Int):m147 k = inR k 0 20:=in1 _ _ _
theorem slot_in (k:Int):m171 k = inR k 1 30:=in1 _ _ _
theorem value_in (k:Int):m172 k = inR k 0 12:=in1 _ _ _
def manyI (f:Int):Int:=wi .i64 ((wi .i64 (3 * f)) + 1)
theorem many_in (f:Int):m124 f = manyI f:=rfl
theorem repl_in (f k:Int):m145 f k = inR k 1 (manyI f):=in1 _ _ _
theorem id_in (f k:Int):m98 f k = inR k 1 (manyI f):=in1 _ _ _
theorem tr_bare1 (a b c d e f g h:Bool):(bif !a then
    some (LO.norm true)
   else
    bif !b then
     bif c then
      some (LO.norm true)
     else
      bif d then
       some (LO.norm true)
      else
       bif e then
        bif f then
         some (LO.norm true)
        else
         bif g then
          some (LO.norm h)
         else
          some (LO.norm false)
       else
        bif g then
         some (LO.norm h)
        else
         some (LO.norm false)
    else
     bif e then
      bif f then
       some (LO.norm true)
      else
       bif g then
        some (LO.norm h)
       else
        some (LO.norm false)
     else
      bif g then
       some (LO.norm h)
      else
       some (LO.norm false)) = some (LO.norm (!((a && (b || (!c && !d))) && ((!e || !f) && (!g || !h))))):=by
 cases a <;> cases b <;> cases c <;> cases d <;> cases e <;> cases f <;> cases g <;> cases h <;> rfl
theorem tr_bare2 (a b c d e f g h:Bool):(bif a then
   bif b then
    bif e then
     bif g then
      some (LO.norm true)
     else
      some (LO.norm h)
    else
     bif f then
      bif g then
       some (LO.norm true)
      else
       some (LO.norm h)
     else
      some (LO.norm false)
   else
    bif c then
     bif d then
      bif e then
       bif g then
        some (LO.norm true)
       else
        some (LO.norm h)
      else
       bif f then
        bif g then
         some (LO.norm true)
        else
         some (LO.norm h)
       else
        some (LO.norm false)
     else
      some (LO.norm false)
    else
     some (LO.norm false)
  else
   some (LO.norm false)) = some (LO.norm ((a && (b || (c && d))) && ((e || f) && (g || h)))):=by
 cases a <;> cases b <;> cases c <;> cases d <;> cases e <;> cases f <;> cases g <;> cases h <;> rfl
theorem tr_rng (a b c d e:Bool):(bif !a then
      some (LO.norm true)
     else
      bif !b then
       some (LO.norm true)
      else
       bif c then
        bif !d then
         some (LO.norm true)
        else
         some (LO.norm (!e))
       else
        some (LO.norm false)) = some (LO.norm (!a || (!b || (c && (!d || !e))))):=by
 cases a <;> cases b <;> cases c <;> cases d <;> cases e <;> rfl
theorem tr_cert (a b c:Bool):(bif !a then
     some (LO.norm true)
    else
     bif !b then
      some (LO.norm true)
     else
      some (LO.norm (!c))) = some (LO.norm (!a || (!b || !c))):=by
 cases a <;> cases b <;> cases c <;> rfl
def bareB (m:TMsg):Bool:=(inR m.Kind 1 5 && (inR m.Kind 1 3 || ((m.Slot == 0) && (m.Value == 0)))) && (((m.Kind == 4) || ((m.Certs.length:Int) == 0)) && ((m.Kind == 5) || ((m.Refs.length:Int) == 0)))
def rangeB (f:Int) (m:TMsg):Bool:=!inR m.View 0 20 || (!inR m.From 1 (manyI f) || (inR m.Kind 1 3 && (!inR m.Slot 1 30 || !inR m.Value 0 12)))
def certBad (v:Int) (c:TCert):Bool:=!inR c.Slot 1 30 || (!inR c.View 0 (wi .i64 (v - 1)) || !inR c.Value 0 12)
def dropS (xs:List Int) (i:Nat):Bool:=decide (0 < i) && decide (A xs i≤A xs (i - 1))
def riseB (xs:List Int):Bool:=(fstN (dropS xs) xs.length).isNone
def refBad (r:Int):Bool:=!inR r 0 239
noncomputable def codeM (f:Int) (m:TMsg):Int:=bif bareB m then bif rangeB f m then 3 else bif decide ((m.Certs.length:Int) > 30) then 2 else bif decide ((m.Refs.length:Int) > manyI f) then 2 else bif riseB (m.Certs.map (·.Slot)) then bif riseB m.Refs then bif m.Certs.any (certBad m.View) then 3 else bif m.Refs.any refBad then 3 else 0 else 1 else 1 else 1
theorem A_map {α:Type} {g:α→Int} {cs:List α} {i:Nat} (h:i < cs.length):A (cs.map g) i = g cs[i]:=by simp [A,h]
theorem wi_pred {i:Nat} (h0:0 < i) (h:i≤big):wi .i64 ((i:Int) - 1) = ((i - 1:Nat):Int):=by
 unfold big at h
 rw [wi64 (by omega) (by omega)]; omega
theorem fst_shift {p:Nat→Bool} (n:Nat) (h0:p 0 = false):(fstN (fun i=>p (i + 1)) (n - 1)).isNone = (fstN p n).isNone:=by
 rw [Bool.eq_iff_iff,Option.isNone_iff_eq_none,Option.isNone_iff_eq_none,fst_none_iff,fst_none_iff]
 constructor
 ·intro h j hj
  cases j with
  | zero=>exact h0
  | succ j=>exact h j (by omega)
 ·intro h j hj; exact h (j + 1) (by omega)
theorem orF_none {β:Type} {x:Option Nat} {out:Nat→β} {fin:β} (h:x.isNone = true):orF x out fin = fin:=by
 cases x
 ·rfl
 ·cases h
theorem orF_some {β:Type} {x:Option Nat} {out:Nat→β} {fin:β} (h:x.isNone = false):∃ i,orF x out fin = out i:=by
 cases x
 ·cases h
 ·exact ⟨_,rfl⟩
theorem riseC1 (m:TMsg) (hg:goodMsg m) (s:Int):∃ j,loopO (ms144_0 m) NN (s,0) = some (bif riseB (m.Certs.map (·.Slot)) then .exit 1 (s,j) else .ret (1,j)):=by
 rw [loop_first (f:=ms144_0 m) (s0:=(s,0)) (fun i=>(s,(i:Int))) m.Certs.length (dropS (m.Certs.map (·.Slot))) (fun i=>.ret (1,(i:Int))) (.exit 1 (s,(m.Certs.length:Int))) (fun i hi _ hp=>?_) (fun i hi _ hp=>?_) (fun _=>?_) (NN_l hg.1) rfl]
 ·unfold riseB
  rw [List.length_map]
  cases h:(fstN (dropS (m.Certs.map (·.Slot))) m.Certs.length).isNone
  ·obtain ⟨i,hi⟩:=orF_some (out:=fun i=>LO.ret ((1:Int),(i:Int))) (fin:=.exit 1 (s,(m.Certs.length:Int))) h
   exact ⟨_,by rw [hi]; rfl⟩
  ·exact ⟨_,by rw [orF_none h]; rfl⟩
 ·have hc':(i:Int) < (m.Certs.length:Int):=by omega
  have hb:i≤big:=Nat.le_trans (Nat.le_of_lt hi) (big_l hg.1)
  unfold ms144_0
  simp only [hc',decide_true,cond_true,getN hi,obs]
  by_cases h0:0 < i
  ·have h0':(i:Int) > 0:=by omega
   unfold dropS at hp
   rw [A_map hi,A_map (show i - 1 < m.Certs.length by omega),decide_eq_true h0,Bool.true_and] at hp
   simp only [h0',decide_true,cond_true,wi_pred h0 hb,getN (show i - 1 < m.Certs.length by omega),obs,hp,cond_false,contO,wi1 hb]
  ·have h0':¬ (i:Int) > 0:=by omega
   simp only [h0',decide_false,cond_false,obs,contO,wi1 hb]
 ·have hc':(i:Int) < (m.Certs.length:Int):=by omega
  have hb:i≤big:=Nat.le_trans (Nat.le_of_lt hi) (big_l hg.1)
  unfold ms144_0
  unfold dropS at hp
  rw [Bool.and_eq_true,A_map hi,A_map (show i - 1 < m.Certs.length by omega)] at hp
  have h0:0 < i:=of_decide_eq_true hp.1
  have h0':(i:Int) > 0:=by omega
  simp only [hc',decide_true,cond_true,getN hi,obs,h0',wi_pred h0 hb,getN (show i - 1 < m.Certs.length by omega),hp.2,contO]
  exact ⟨trivial,rfl⟩
 ·unfold ms144_0
  simp only [Int.lt_irrefl,decide_false,cond_false]
  exact ⟨trivial,rfl⟩
theorem riseR1 (m:TMsg) (hg:goodMsg m) (s:Int):∃ j,loopO (ms144_1 m) NN (s,0) = some (bif riseB m.Refs then .exit 3 (s,j) else .ret (1,j)):=by
 rw [loop_first (f:=ms144_1 m) (s0:=(s,0)) (fun i=>(s,(i:Int))) m.Refs.length (dropS m.Refs) (fun i=>.ret (1,(i:Int))) (.exit 3 (s,(m.Refs.length:Int))) (fun i hi _ hp=>?_) (fun i hi _ hp=>?_) (fun _=>?_) (NN_l hg.2) rfl]
 ·unfold riseB
  cases h:(fstN (dropS m.Refs) m.Refs.length).isNone
  ·obtain ⟨i,hi⟩:=orF_some (out:=fun i=>LO.ret ((1:Int),(i:Int))) (fin:=.exit 3 (s,(m.Refs.length:Int))) h
   exact ⟨_,by rw [hi]; rfl⟩
  ·exact ⟨_,by rw [orF_none h]; rfl⟩
 ·have hc':(i:Int) < (m.Refs.length:Int):=by omega
  have hb:i≤big:=Nat.le_trans (Nat.le_of_lt hi) (big_l hg.2)
  unfold ms144_1
  simp only [hc',decide_true,cond_true,getN hi,obs]
  by_cases h0:0 < i
  ·have h0':(i:Int) > 0:=by omega
   unfold dropS at hp
   rw [A_get hi,A_get (show i - 1 < m.Refs.length by omega),decide_eq_true h0,Bool.true_and] at hp
   simp only [h0',decide_true,cond_true,wi_pred h0 hb,getN (show i - 1 < m.Refs.length by omega),obs,hp,cond_false,contO,wi1 hb]
  ·have h0':¬ (i:Int) > 0:=by omega
   simp only [h0',decide_false,cond_false,obs,contO,wi1 hb]
 ·have hc':(i:Int) < (m.Refs.length:Int):=by omega
  have hb:i≤big:=Nat.le_trans (Nat.le_of_lt hi) (big_l hg.2)
  unfold ms144_1
  unfold dropS at hp
  rw [Bool.and_eq_true,A_get hi,A_get (show i - 1 < m.Refs.length by omega)] at hp
  have h0:0 < i:=of_decide_eq_true hp.1
  have h0':(i:Int) > 0:=by omega
  simp only [hc',decide_true,cond_true,getN hi,obs,h0',wi_pred h0 hb,getN (show i - 1 < m.Refs.length by omega),hp.2,contO]
  exact ⟨trivial,rfl⟩
 ·unfold ms144_1
  simp only [Int.lt_irrefl,decide_false,cond_false]
  exact ⟨trivial,rfl⟩
theorem wi_suc {i:Nat} (h:i≤1048576):wi .i64 ((i:Int) + 1 + 1) = ((i + 1:Nat):Int) + 1:=by rw [wi64 (by omega) (by omega)]; omega
theorem wi_psuc {i:Nat} (h:i≤1048576):wi .i64 ((i:Int) + 1 - 1) = (i:Int):=by rw [wi64 (by omega) (by omega)]; omega
theorem riseC2 (m:TMsg) (hg:goodMsg m) (s:Int):∃ j,loopO (ms167_0 m) NN (s,1) = some (bif riseB (m.Certs.map (·.Slot)) then .exit 0 (s,j) else .ret (1,j)):=by
 have hg1:=hg.1
 rw [loop_first (f:=ms167_0 m) (s0:=(s,1)) (fun i=>(s,(i:Int) + 1)) (m.Certs.length - 1) (fun i=>dropS (m.Certs.map (·.Slot)) (i + 1)) (fun i=>.ret (1,(i:Int) + 1)) (.exit 0 (s,((m.Certs.length - 1:Nat):Int) + 1)) (fun i hi _ hp=>?_) (fun i hi _ hp=>?_) (fun _=>?_) (NN_l (by omega)) rfl]
 ·unfold riseB
  rw [List.length_map,← fst_shift m.Certs.length (p:=dropS (m.Certs.map (·.Slot))) (by simp [dropS])]
  cases h:(fstN (fun i=>dropS (m.Certs.map (·.Slot)) (i + 1)) (m.Certs.length - 1)).isNone
  ·obtain ⟨i,hi⟩:=orF_some (out:=fun i=>LO.ret ((1:Int),(i:Int) + 1)) (fin:=.exit 0 (s,((m.Certs.length - 1:Nat):Int) + 1)) h
   exact ⟨_,by rw [hi]; rfl⟩
  ·exact ⟨_,by rw [orF_none h]; rfl⟩
 ·have hc':(i:Int) + 1 < (m.Certs.length:Int):=by omega
  have h1:i + 1 < m.Certs.length:=by omega
  have g1:getI m.Certs ((i:Int) + 1) = some m.Certs[i + 1]:=getN (i:=i + 1) h1
  unfold ms167_0
  unfold dropS at hp
  rw [A_map h1,A_map (show i + 1 - 1 < m.Certs.length by omega)] at hp
  simp only [Nat.add_sub_cancel,Nat.zero_lt_succ,decide_true,Bool.true_and] at hp
  simp only [hc',decide_true,cond_true,g1,wi_psuc (show i≤1048576 by omega),getN (show i < m.Certs.length by omega),obs,hp,cond_false,wi_suc (show i≤1048576 by omega)]
 ·have hc':(i:Int) + 1 < (m.Certs.length:Int):=by omega
  have h1:i + 1 < m.Certs.length:=by omega
  have g1:getI m.Certs ((i:Int) + 1) = some m.Certs[i + 1]:=getN (i:=i + 1) h1
  unfold ms167_0
  unfold dropS at hp
  rw [A_map h1,A_map (show i + 1 - 1 < m.Certs.length by omega)] at hp
  simp only [Nat.add_sub_cancel,Nat.zero_lt_succ,decide_true,Bool.true_and] at hp
  simp only [hc',decide_true,cond_true,g1,wi_psuc (show i≤1048576 by omega),getN (show i < m.Certs.length by omega),obs,hp]
  exact ⟨trivial,rfl⟩
 ·have hc':¬ (((m.Certs.length - 1:Nat):Int) + 1 < (m.Certs.length:Int)):=by omega
  unfold ms167_0
  simp only [hc',decide_false,cond_false]
  exact ⟨trivial,rfl⟩
theorem riseR2 (m:TMsg) (hg:goodMsg m) (s:Int):∃ j,loopO (ms167_1 m) NN (s,1) = some (bif riseB m.Refs then .exit 2 (s,j) else .ret (1,j)):=by
 have hg1:=hg.2
 rw [loop_first (f:=ms167_1 m) (s0:=(s,1)) (fun i=>(s,(i:Int) + 1)) (m.Refs.length - 1) (fun i=>dropS m.Refs (i + 1)) (fun i=>.ret (1,(i:Int) + 1)) (.exit 2 (s,((m.Refs.length - 1:Nat):Int) + 1)) (fun i hi _ hp=>?_) (fun i hi _ hp=>?_) (fun _=>?_) (NN_l (by omega)) rfl]
 ·unfold riseB
  rw [← fst_shift m.Refs.length (p:=dropS m.Refs) (by simp [dropS])]
  cases h:(fstN (fun i=>dropS m.Refs (i + 1)) (m.Refs.length - 1)).isNone
  ·obtain ⟨i,hi⟩:=orF_some (out:=fun i=>LO.ret ((1:Int),(i:Int) + 1)) (fin:=.exit 2 (s,((m.Refs.length - 1:Nat):Int) + 1)) h
   exact ⟨_,by rw [hi]; rfl⟩
  ·exact ⟨_,by rw [orF_none h]; rfl⟩
 ·have hc':(i:Int) + 1 < (m.Refs.length:Int):=by omega
  have h1:i + 1 < m.Refs.length:=by omega
  have g1:getI m.Refs ((i:Int) + 1) = some m.Refs[i + 1]:=getN (i:=i + 1) h1
  unfold ms167_1
  unfold dropS at hp
  rw [A_get h1,A_get (show i + 1 - 1 < m.Refs.length by omega)] at hp
  simp only [Nat.add_sub_cancel,Nat.zero_lt_succ,decide_true,Bool.true_and] at hp
  simp only [hc',decide_true,cond_true,g1,wi_psuc (show i≤1048576 by omega),getN (show i < m.Refs.length by omega),obs,hp,cond_false,wi_suc (show i≤1048576 by omega)]
 ·have hc':(i:Int) + 1 < (m.Refs.length:Int):=by omega
  have h1:i + 1 < m.Refs.length:=by omega
  have g1:getI m.Refs ((i:Int) + 1) = some m.Refs[i + 1]:=getN (i:=i + 1) h1
  unfold ms167_1
  unfold dropS at hp
  rw [A_get h1,A_get (show i + 1 - 1 < m.Refs.length by omega)] at hp
  simp only [Nat.add_sub_cancel,Nat.zero_lt_succ,decide_true,Bool.true_and] at hp
  simp only [hc',decide_true,cond_true,g1,wi_psuc (show i≤1048576 by omega),getN (show i < m.Refs.length by omega),obs,hp]
  exact ⟨trivial,rfl⟩
 ·have hc':¬ (((m.Refs.length - 1:Nat):Int) + 1 < (m.Refs.length:Int)):=by omega
  unfold ms167_1
  simp only [hc',decide_false,cond_false]
  exact ⟨trivial,rfl⟩
theorem fst_any' {α:Type} (q:α→Bool) (xs:List α):(fstN (pAt q xs) xs.length).isNone = !xs.any q:=by
 rw [← fst_any]; cases fstN (pAt q xs) xs.length <;> rfl
theorem certL (m:TMsg) (hg:goodMsg m) (s:Int):∃ j,loopO (ms167_2 m) NN (s,0) = some (bif m.Certs.any (certBad m.View) then .ret (3,j) else .exit 4 (s,j)):=by
 rw [loop_first (f:=ms167_2 m) (s0:=(s,0)) (fun i=>(s,(i:Int))) m.Certs.length (pAt (certBad m.View) m.Certs) (fun i=>.ret (3,(i:Int))) (.exit 4 (s,(m.Certs.length:Int))) (fun i hi _ hp=>?_) (fun i hi _ hp=>?_) (fun _=>?_) (NN_l hg.1) rfl]
 ·have e:=fst_any' (certBad m.View) m.Certs
  cases h:m.Certs.any (certBad m.View)
  ·rw [h] at e; exact ⟨_,by rw [orF_none e]; rfl⟩
  ·rw [h] at e
   obtain ⟨i,hi⟩:=orF_some (out:=fun i=>LO.ret ((3:Int),(i:Int))) (fin:=.exit 4 (s,(m.Certs.length:Int))) e
   exact ⟨_,by rw [hi]; rfl⟩
 ·have hc':(i:Int) < (m.Certs.length:Int):=by omega
  have hb:i≤big:=Nat.le_trans (Nat.le_of_lt hi) (big_l hg.1)
  rw [pAt_get hi] at hp
  unfold ms167_2
  simp only [hc',decide_true,cond_true,getN hi,obs,in1,tr_cert]
  unfold certBad at hp
  simp only [hp,cond_false,contO,obs,wi1 hb]
 ·have hc':(i:Int) < (m.Certs.length:Int):=by omega
  rw [pAt_get hi] at hp
  unfold ms167_2
  simp only [hc',decide_true,cond_true,getN hi,obs,in1,tr_cert]
  unfold certBad at hp
  simp only [hp,cond_true,contO,obs]
  exact ⟨trivial,rfl⟩
 ·unfold ms167_2
  simp only [Int.lt_irrefl,decide_false,cond_false]
  exact ⟨trivial,rfl⟩
theorem refL (m:TMsg) (hg:goodMsg m) (s:Int):∃ j,loopO (ms167_3 m) NN (s,0) = some (bif m.Refs.any refBad then .ret (3,j) else .exit 6 (s,j)):=by
 rw [loop_first (f:=ms167_3 m) (s0:=(s,0)) (fun i=>(s,(i:Int))) m.Refs.length (pAt refBad m.Refs) (fun i=>.ret (3,(i:Int))) (.exit 6 (s,(m.Refs.length:Int))) (fun i hi _ hp=>?_) (fun i hi _ hp=>?_) (fun _=>?_) (NN_l hg.2) rfl]
 ·have e:=fst_any' refBad m.Refs
  cases h:m.Refs.any refBad
  ·rw [h] at e; exact ⟨_,by rw [orF_none e]; rfl⟩
  ·rw [h] at e
   obtain ⟨i,hi⟩:=orF_some (out:=fun i=>LO.ret ((3:Int),(i:Int))) (fin:=.exit 6 (s,(m.Refs.length:Int))) e
   exact ⟨_,by rw [hi]; rfl⟩
 ·have hc':(i:Int) < (m.Refs.length:Int):=by omega
  have hb:i≤big:=Nat.le_trans (Nat.le_of_lt hi) (big_l hg.2)
  rw [pAt_get hi] at hp
  unfold ms167_3
  unfold refBad at hp
  simp only [hc',decide_true,cond_true,getN hi,obs,in1,hp,cond_false,wi1 hb]
 ·have hc':(i:Int) < (m.Refs.length:Int):=by omega
  rw [pAt_get hi] at hp
  unfold ms167_3
  unfold refBad at hp
  simp only [hc',decide_true,cond_true,getN hi,obs,in1,hp]
  exact ⟨trivial,rfl⟩
 ·unfold ms167_3
  simp only [Int.lt_irrefl,decide_false,cond_false]
  exact ⟨trivial,rfl⟩
theorem lists_ok (m:TMsg) (hg:goodMsg m):m167 m = some (bif riseB (m.Certs.map (·.Slot)) then bif riseB m.Refs then bif m.Certs.any (certBad m.View) then 3 else bif m.Refs.any refBad then 3 else 0 else 1 else 1):=by
 unfold m167
 obtain ⟨j1,e1⟩:=riseC2 m hg 0
 rw [e1]
 cases riseB (m.Certs.map (·.Slot))
 ·rfl
 simp only [cond_true,obs,contO,if_true]
 obtain ⟨j2,e2⟩:=riseR2 m hg 0
 rw [e2]
 cases riseB m.Refs
 ·rfl
 simp only [cond_true,obs,contO,if_true]
 obtain ⟨j3,e3⟩:=certL m hg 0
 rw [e3]
 cases m.Certs.any (certBad m.View)
 rotate_left
 ·rfl
 simp only [cond_false,obs,contO,if_true]
 obtain ⟨j4,e4⟩:=refL m hg 0
 rw [e4]
 cases m.Refs.any refBad <;> rfl
theorem bare_ok (m:TMsg):m166 m = some (bareB m):=by
 unfold m166
 rw [tr_bare2]
 simp only [in1,obs,contO]
 rfl
theorem msg_spec (f:Int) (m:TMsg) (hg:goodMsg m):m133 f m = some (codeM f m):=by
 unfold m133 codeM
 rw [bare_ok,obs,tr_rng]
 cases hb:bareB m
 ·rfl
 have hk:decide (m.Kind≤3) = inR m.Kind 1 3:=by
  unfold bareB at hb
  rw [Bool.and_eq_true,Bool.and_eq_true] at hb
  have:=hb.1.1
  unfold inR at this ⊢
  have h1:=of_decide_eq_true this
  exact decide_eq_decide.2 ⟨fun h=>⟨h1.1,h⟩,fun h=>h.2⟩
 simp only [in1,id_in,hk,Bool.not_true,cond_false,cond_true,obs,contO]
 rw [show (!inR m.View 0 20 || (!inR m.From 1 (manyI f) || (inR m.Kind 1 3 && (!inR m.Slot 1 30 || !inR m.Value 0 12)))) = rangeB f m from rfl]
 cases hr:rangeB f m
 rotate_left
 ·rfl
 simp only [cond_false,obs,contO]
 cases h1:decide ((m.Certs.length:Int) > 30)
 rotate_left
 ·rfl
 simp only [cond_false]
 cases h2:decide ((m.Refs.length:Int) > manyI f)
 rotate_left
 ·have h2':decide ((m.Refs.length:Int) > wi .i64 ((wi .i64 (3 * f)) + 1)) = true:=h2
  rw [h2']; rfl
 have h2':decide ((m.Refs.length:Int) > wi .i64 ((wi .i64 (3 * f)) + 1)) = false:=h2
 simp only [h2',cond_false,obs,contO,lists_ok m hg]
theorem certF (m:TMsg) (c:TCert):m173 c m = some (certBad m.View c):=by
 unfold m173
 rw [tr_cert]
 simp only [slot_in,value_in,in2,obs,contO]
 rfl
theorem msg_impl (f:Int) (m:TMsg) (hg:goodMsg m):m144 f m = some (codeM f m):=by
 unfold m144 codeM
 rw [tr_bare1,tr_rng]
 have hbare:(!((m148 m.Kind 1 5 && (m170 m.Kind || (!(m.Slot != 0) && !(m.Value != 0)))) && ((!(m.Kind != 4) || !decide ((m.Certs.length:Int) > 0)) && (!(m.Kind != 5) || !decide ((m.Refs.length:Int) > 0))))) = !bareB m:=by
  have e1:∀ n:Nat,(!decide ((n:Int) > 0)) = ((n:Int) == 0):=fun n=>by
   cases n with
   | zero=>rfl
   | succ n=>
    have:((n + 1:Nat):Int) > 0:=by omega
    simp only [this,decide_true,Bool.not_true]
    symm
    simp; omega
  simp only [in2,slotted_in,bne,Bool.not_not,e1]
  rfl
 rw [hbare]
 simp only [obs,contO]
 cases hb:bareB m
 ·rfl
 simp only [Bool.not_true,cond_false,cond_true,obs,contO,view_in,repl_in,slotted_in,slot_in,value_in]
 rw [show (!inR m.View 0 20 || (!inR m.From 1 (manyI f) || (inR m.Kind 1 3 && (!inR m.Slot 1 30 || !inR m.Value 0 12)))) = rangeB f m from rfl]
 cases hr:rangeB f m
 rotate_left
 ·rfl
 simp only [cond_false,obs,contO]
 cases h1:decide ((m.Certs.length:Int) > 30)
 rotate_left
 ·rfl
 simp only [cond_false]
 cases h2:decide ((m.Refs.length:Int) > manyI f)
 rotate_left
 ·have h2':decide ((m.Refs.length:Int) > m124 f) = true:=h2
  rw [h2']; rfl
 have h2':decide ((m.Refs.length:Int) > m124 f) = false:=h2
 simp only [h2',cond_false,obs,contO]
 obtain ⟨j1,e1⟩:=riseC1 m hg 0
 rw [e1]
 cases riseB (m.Certs.map (·.Slot))
 ·rfl
 simp only [cond_true,obs,contO,if_true]
 obtain ⟨j2,e2⟩:=riseR1 m hg 0
 rw [e2]
 cases riseB m.Refs
 ·rfl
 simp only [cond_true,obs,contO,if_true]
 rw [show m160 m.Certs (fun x0_=>m173 x0_ m) = some (m.Certs.any (certBad m.View)) from gCF_ok (NN_l hg.1) (big_l hg.1) (fun x _=>certF m x)]
 cases m.Certs.any (certBad m.View)
 rotate_left
 ·rfl
 simp only [cond_false,obs]
 rw [show m163 m.Refs (fun x0_=>some (m174 x0_)) = some (m.Refs.any refBad) from gCF_ok (NN_l hg.2) (big_l hg.2) (fun x _=>by unfold m174; rw [in2]; rfl)]
 cases m.Refs.any refBad <;> rfl
open Go Go.Rf
set_option linter.unusedVariables false
set_option linter.unusedSimpArgs false
def neC (x1 x2:TCert):Bool:=!(((x1.Slot == x2.Slot) && ((x1.View == x2.View) && ((x1.Value == x2.Value) && true))))
theorem neC_ok (a b:TCert):neC a b = !decide (a = b):=by
 obtain ⟨a1,a2,a3⟩:=a
 obtain ⟨b1,b2,b3⟩:=b
 unfold neC
 congr 1
 rw [Bool.eq_iff_iff]
 simp
theorem neI_ok (a b:Int):(a != b) = !decide (a = b):=by
 rw [Bool.eq_iff_iff]; simp
theorem eqCs_ok (xs ys:List TCert) (h:xs.length≤1048576):m130 xs ys = some (decide (xs = ys)):=gE_ok (ne:=neC) neC_ok (NN_l h) (big_l h)
theorem eqIs_ok (xs ys:List Int) (h:xs.length≤1048576):m112 xs ys = some (decide (xs = ys)):=gE_ok (ne:=fun a b=>a != b) neI_ok (NN_l h) (big_l h)
theorem tr_same1 (a b c d e p q:Bool):(bif a then
   bif b then
    bif c then
     bif d then
      bif e then
       (some p).bind fun y1=>
       bif y1 then
        (some q).bind fun y2=>
        some (LO.norm y2)
       else
        some (LO.norm false)
      else
       some (LO.norm false)
     else
      some (LO.norm false)
    else
     some (LO.norm false)
   else
    some (LO.norm false)
  else
   some (LO.norm false)) = some (LO.norm (a && (b && (c && (d && (e && (p && q))))))):=by
 cases a <;> cases b <;> cases c <;> cases d <;> cases e <;> cases p <;> cases q <;> rfl
theorem tr_same2 (a b c d e f g:Bool):(bif a then
    some (LO.norm true)
   else
    bif b then
     some (LO.norm true)
    else
     bif c then
      some (LO.norm true)
     else
      bif d then
       some (LO.norm true)
      else
       bif e then
        some (LO.norm true)
       else
        bif f then
         some (LO.norm true)
        else
         some (LO.norm g)) = some (LO.norm (a || (b || (c || (d || (e || (f || g))))))):=by
 cases a <;> cases b <;> cases c <;> cases d <;> cases e <;> cases f <;> cases g <;> rfl
theorem msg_eq (a b:TMsg):decide (a = b) = ((a.Kind == b.Kind) && ((a.View == b.View) && ((a.From == b.From) && ((a.Slot == b.Slot) && ((a.Value == b.Value) && (decide (a.Certs = b.Certs) && decide (a.Refs = b.Refs))))))):=by
 obtain ⟨a1,a2,a3,a4,a5,a6,a7⟩:=a
 obtain ⟨b1,b2,b3,b4,b5,b6,b7⟩:=b
 rw [Bool.eq_iff_iff]
 simp
theorem same_impl (a b:TMsg) (hg:goodMsg a):m89 a b = some (decide (a = b)):=by
 unfold m89
 rw [eqCs_ok _ _ hg.1,eqIs_ok _ _ hg.2,tr_same1,msg_eq]
 rfl
theorem same_spec (a b:TMsg) (hg:goodMsg a):m47 a b = some (decide (a = b)):=by
 unfold m47
 rw [tr_same2]
 simp only [obs,contO]
 cases hx:(a.Kind != b.Kind || (a.View != b.View || (a.From != b.From || (a.Slot != b.Slot || (a.Value != b.Value || ((a.Certs.length:Int) != (b.Certs.length:Int) || (a.Refs.length:Int) != (b.Refs.length:Int)))))))
 rotate_left
 ·simp only [cond_true,obs,contO]
  congr 1
  symm
  rw [decide_eq_false_iff_not]
  rintro rfl
  simp at hx
 simp only [cond_false,obs,contO]
 simp only [Bool.or_eq_false_iff,bne_eq_false_iff_eq] at hx
 obtain ⟨h1,h2,h3,h4,h5,h6,h7⟩:=hx
 have hl1:a.Certs.length = b.Certs.length:=by omega
 have hl2:a.Refs.length = b.Refs.length:=by omega
 rcases gE0_loop (ex:=0) (ne:=neC) (N:=NN) neC_ok (NN_l hg.1) (big_l hg.1) hl1 with ⟨e1,j,k1⟩ | ⟨e1,j,k1⟩
 rotate_left
 ·rw [show loopO (ms47_0 a b) NN (false,0) = some (.ret (false,j)) from k1]
  simp only [obs,contO]
  congr 1
  symm
  rw [decide_eq_false_iff_not]
  rintro rfl
  exact e1 rfl
 rw [show loopO (ms47_0 a b) NN (false,0) = some (.exit 0 (false,j)) from k1]
 simp only [obs,contO,if_true]
 rcases gE0_loop (ex:=2) (ne:=fun a b:Int=>a != b) (N:=NN) neI_ok (NN_l hg.2) (big_l hg.2) hl2 with ⟨e2,j2,k2⟩ | ⟨e2,j2,k2⟩
 rotate_left
 ·rw [show loopO (ms47_1 a b) NN (false,0) = some (.ret (false,j2)) from k2]
  simp only [obs,contO]
  congr 1
  symm
  rw [decide_eq_false_iff_not]
  rintro rfl
  exact e2 rfl
 rw [show loopO (ms47_1 a b) NN (false,0) = some (.exit 2 (false,j2)) from k2]
 simp only [obs,contO,if_true]
 congr 1
 symm
 rw [decide_eq_true_eq]
 obtain ⟨a1,a2,a3,a4,a5,a6,a7⟩:=a
 obtain ⟨b1,b2,b3,b4,b5,b6,b7⟩:=b
 simp only at h1 h2 h3 h4 h5 e1 e2
 subst h1; subst h2; subst h3; subst h4; subst h5; subst e1; subst e2
 rfl
def atM (xs:List TMsg) (m:TMsg):Int:=ixI (fstN (pAt (fun x=>decide (x = m)) xs) xs.length)
theorem at_impl (xs:List TMsg) (m:TMsg) (h:xs.length≤1048576) (g:∀ x∈xs,goodMsg x):m56 xs m = some (atM xs m):=by
 unfold m56
 rw [show m87 xs (fun x0_=>m88 x0_ m) = some (atM xs m) from gIF_ok (NN_l h) (big_l h) (fun x hx=>by unfold m88; rw [same_impl x m (g x hx)]; rfl)]
 rfl
theorem at_spec (xs:List TMsg) (m:TMsg) (h:xs.length≤1048576) (g:∀ x∈xs,goodMsg x):m21 xs m = some (atM xs m):=gIF_ok (f:=fun x=>m47 x m) (NN_l h) (big_l h) (fun x hx=>same_spec x m (g x hx))
def refsBad (k:Int) (m:TMsg):Bool:=m.Refs.any fun r=>decide (r ≥ k)
theorem refs_impl (m:TMsg) (k:Int) (hg:goodMsg m):m127 m k = some (!refsBad k m):=by
 unfold m127
 rw [show m163 m.Refs (fun x0_=>some (m164 x0_ k)) = some (refsBad k m) from gCF_ok (NN_l hg.2) (big_l hg.2) (fun x _=>rfl)]
 rfl
theorem refs_spec (m:TMsg) (k:Int) (hg:goodMsg m):m134 m k = some (!refsBad k m):=gA_ok (q:=fun r=>decide (r ≥ k)) (NN_l hg.2) (big_l hg.2)
noncomputable def ledBad (f:Int) (xs:List TMsg) (i:Nat):Bool:=(xs[i]?).any fun x=>(codeM f x != 0) || (refsBad i x || decide (x∈xs.take i))
noncomputable def ledVal (f:Int) (xs:List TMsg) (i:Nat):Int:=match xs[i]? with
 | some x=>bif codeM f x != 0 then codeM f x else bif refsBad i x then 4 else 6
 | none=>0
noncomputable def codeL (f:Int) (xs:List TMsg):Int:=bif !inR f 1 2 then 3 else bif decide ((xs.length:Int) > 240) then 2 else orF (fstN (ledBad f xs) xs.length) (ledVal f xs) 0
theorem ledBad_get {f:Int} {xs:List TMsg} {i:Nat} (h:i < xs.length):ledBad f xs i = ((codeM f xs[i] != 0) || (refsBad i xs[i] || decide (xs[i]∈xs.take i))):=by
 unfold ledBad; rw [List.getElem?_eq_getElem h]; rfl
theorem ledVal_get {f:Int} {xs:List TMsg} {i:Nat} (h:i < xs.length):ledVal f xs i = (bif codeM f xs[i] != 0 then codeM f xs[i] else bif refsBad i xs[i] then 4 else 6):=by
 unfold ledVal; rw [List.getElem?_eq_getElem h]
theorem sub_take {α:Type} {xs:List α} {i:Nat} (h:i≤xs.length):subI xs 0 (i:Int) = some (xs.take i):=by
 unfold subI
 rw [if_pos ⟨by omega,by omega,by omega⟩]
 simp
theorem atM_take {xs:List TMsg} {i:Nat} (h:i < xs.length):decide (atM (xs.take i) xs[i] ≥ 0) = decide (xs[i]∈xs.take i):=by
 unfold atM
 rw [ixI_ge,fst_any,Bool.eq_iff_iff]
 simp
theorem atM_first {xs:List TMsg} {i:Nat} (h:i < xs.length):(atM xs xs[i] != (i:Int)) = decide (xs[i]∈xs.take i):=by
 unfold atM
 by_cases hm:xs[i]∈xs.take i
 ·rw [decide_eq_true hm]
  obtain ⟨j,hj,e⟩:=List.mem_iff_getElem.1 hm
  rw [List.length_take] at hj
  rw [List.getElem_take] at e
  rcases fst_cases (pAt (fun x=>decide (x = xs[i])) xs) xs.length with h' | ⟨k,h1,h2,h3⟩
  ·have:=h' j (by omega)
   rw [pAt_get (by omega)] at this
   simp [e] at this
  ·rw [fstN_some h1 h2 h3]
   have hk:k≤j:=by
    rcases Nat.lt_or_ge j k with hlt | hge
    ·have:=h2 j hlt
     rw [pAt_get (by omega)] at this
     simp [e] at this
    ·exact hge
   simp only [ixI,bne_iff_ne,ne_eq]
   omega
 ·rw [decide_eq_false hm]
  rw [fstN_some h (fun j hj=>by
   rw [pAt_get (by omega),decide_eq_false_iff_not]
   intro e
   exact hm (List.mem_iff_getElem.2 ⟨j,by rw [List.length_take]; omega,by rw [List.getElem_take]; exact e⟩)) (by rw [pAt_get h]; simp)]
  simp [ixI]
theorem led_impl (f:Int) (xs:List TMsg) (h:xs.length≤1048576) (g:∀ x∈xs,goodMsg x):m110 f xs = some (codeL f xs):=by
 unfold m110 codeL
 rw [show m143 f = inR f 1 2 from in1 _ _ _]
 cases inR f 1 2
 ·rfl
 simp only [Bool.not_true,cond_false]
 cases decide ((xs.length:Int) > 240)
 rotate_left
 ·rfl
 simp only [cond_false]
 rw [loop_first (f:=ms110_0 f xs) (s0:=(0,0)) (fun i=>(0,(i:Int))) xs.length (ledBad f xs) (fun i=>.ret (ledVal f xs i,(i:Int))) (.exit 1 (0,(xs.length:Int))) (fun i hi _ hp=>?_) (fun i hi _ hp=>?_) (fun _=>?_) (NN_l h) rfl]
 ·cases fstN (ledBad f xs) xs.length <;> rfl
 ·have hc':(i:Int) < (xs.length:Int):=by omega
  have gi:=g _ (List.getElem_mem hi)
  rw [ledBad_get hi,Bool.or_eq_false_iff,Bool.or_eq_false_iff] at hp
  obtain ⟨p1,p2,p3⟩:=hp
  unfold ms110_0
  simp only [hc',decide_true,cond_true,getN hi,obs,msg_impl f _ gi,p1,cond_false,refs_impl _ _ gi,p2,Bool.not_false,Bool.not_true,sub_take (Nat.le_of_lt hi),at_impl (xs.take i) xs[i] (by rw [List.length_take]; omega) (fun x hx=>g x (List.mem_of_mem_take hx)),atM_take hi,p3,wi1 (show i≤1099511627776 by omega)]
 ·have hc':(i:Int) < (xs.length:Int):=by omega
  have gi:=g _ (List.getElem_mem hi)
  rw [ledBad_get hi] at hp
  rw [ledVal_get hi]
  unfold ms110_0
  simp only [hc',decide_true,cond_true,getN hi,obs,msg_impl f _ gi,refs_impl _ _ gi,sub_take (Nat.le_of_lt hi),at_impl (xs.take i) xs[i] (by rw [List.length_take]; omega) (fun x hx=>g x (List.mem_of_mem_take hx)),atM_take hi]
  cases e1:codeM f xs[i] != 0
  ·cases e2:refsBad i xs[i]
   ·rw [e1,e2,Bool.false_or,Bool.false_or] at hp
    rw [hp]
    exact ⟨rfl,rfl⟩
   ·exact ⟨rfl,rfl⟩
  ·exact ⟨rfl,rfl⟩
 ·unfold ms110_0
  simp only [Int.lt_irrefl,decide_false,cond_false]
  exact ⟨trivial,rfl⟩
theorem led_spec (f:Int) (xs:List TMsg) (h:xs.length≤1048576) (g:∀ x∈xs,goodMsg x):m68 f xs = some (codeL f xs):=by
 unfold m68 m97 codeL
 rw [show m96 f = inR f 1 2 from in1 _ _ _]
 cases inR f 1 2
 ·rfl
 simp only [Bool.not_true,cond_false]
 cases decide ((xs.length:Int) > 240)
 rotate_left
 ·rfl
 simp only [cond_false]
 rw [loop_first (f:=ms97_0 f xs) (s0:=(0,0)) (fun i=>(0,(i:Int))) xs.length (ledBad f xs) (fun i=>.ret (ledVal f xs i,(i:Int))) (.exit 0 (0,(xs.length:Int))) (fun i hi _ hp=>?_) (fun i hi _ hp=>?_) (fun _=>?_) (NN_l h) rfl]
 ·cases fstN (ledBad f xs) xs.length <;> rfl
 ·have hc':(i:Int) < (xs.length:Int):=by omega
  have gi:=g _ (List.getElem_mem hi)
  rw [ledBad_get hi,Bool.or_eq_false_iff,Bool.or_eq_false_iff] at hp
  obtain ⟨p1,p2,p3⟩:=hp
  unfold ms97_0
  simp only [hc',decide_true,cond_true,getN hi,obs,msg_spec f _ gi,p1,cond_false,refs_spec _ _ gi,p2,Bool.not_false,Bool.not_true,at_spec xs xs[i] h g,atM_first hi,p3,wi1 (show i≤1099511627776 by omega)]
 ·have hc':(i:Int) < (xs.length:Int):=by omega
  have gi:=g _ (List.getElem_mem hi)
  rw [ledBad_get hi] at hp
  rw [ledVal_get hi]
  unfold ms97_0
  simp only [hc',decide_true,cond_true,getN hi,obs,msg_spec f _ gi,refs_spec _ _ gi,at_spec xs xs[i] h g,atM_first hi]
  cases e1:codeM f xs[i] != 0
  ·cases e2:refsBad i xs[i]
   ·rw [e1,e2,Bool.false_or,Bool.false_or] at hp
    rw [hp]
    exact ⟨rfl,rfl⟩
   ·exact ⟨rfl,rfl⟩
  ·exact ⟨rfl,rfl⟩
 ·unfold ms97_0
  simp only [Int.lt_irrefl,decide_false,cond_false]
  exact ⟨trivial,rfl⟩
structure MsgOk (f:Int) (m:TMsg):Prop where
 kind:1≤m.Kind∧m.Kind≤5
 bare:4≤m.Kind→m.Slot = 0∧m.Value = 0
 certs0:m.Kind≠4→m.Certs = []
 refs0:m.Kind≠5→m.Refs = []
 view:0≤m.View∧m.View≤20
 frm:1≤m.From∧m.From≤manyI f
 slot:m.Kind≤3→1≤m.Slot∧m.Slot≤30
 value:m.Kind≤3→0≤m.Value∧m.Value≤12
 certsl:m.Certs.length≤30
 refsl:(m.Refs.length:Int)≤manyI f
 cert:∀ c∈m.Certs,(1≤c.Slot∧c.Slot≤30)∧(0≤c.View∧c.View≤m.View - 1)∧(0≤c.Value∧c.Value≤12)
 ref:∀ r∈m.Refs,0≤r∧r≤239
theorem inR_t {n lo hi:Int}:inR n lo hi = true ↔ lo≤n∧n≤hi:=by unfold inR; simp
theorem codeM_ok {f:Int} {m:TMsg} (h:codeM f m = 0):MsgOk f m:=by
 unfold codeM at h
 cases hb:bareB m
 ·rw [hb] at h; cases h
 cases hr:rangeB f m
 rotate_left
 ·rw [hb,hr] at h; cases h
 cases h1:decide ((m.Certs.length:Int) > 30)
 rotate_left
 ·rw [hb,hr,h1] at h; cases h
 cases h2:decide ((m.Refs.length:Int) > manyI f)
 rotate_left
 ·rw [hb,hr,h1,h2] at h; cases h
 rw [hb,hr,h1,h2] at h
 simp only [cond_true,cond_false] at h
 cases h3:riseB (m.Certs.map (·.Slot))
 ·rw [h3] at h; cases h
 cases h4:riseB m.Refs
 ·rw [h3,h4] at h; cases h
 cases h5:m.Certs.any (certBad m.View)
 rotate_left
 ·rw [h3,h4,h5] at h; cases h
 cases h6:m.Refs.any refBad
 rotate_left
 ·rw [h3,h4,h5,h6] at h; cases h
 unfold bareB at hb
 unfold rangeB at hr
 simp only [Bool.and_eq_true,Bool.or_eq_true,inR_t,beq_iff_eq] at hb
 simp only [Bool.or_eq_false_iff,Bool.not_eq_false',Bool.and_eq_false_imp,inR_t] at hr
 obtain ⟨⟨b1,b2⟩,b3,b4⟩:=hb
 obtain ⟨r1,r2,r3⟩:=hr
 rw [decide_eq_false_iff_not] at h1 h2
 rw [List.any_eq_false] at h5 h6
 refine ⟨b1,fun hk=>?_,fun hk=>?_,fun hk=>?_,r1,r2,fun hk=>(r3 ⟨b1.1,hk⟩).1,fun hk=>(r3 ⟨b1.1,hk⟩).2,by omega,by omega,fun c hc=>?_,fun r hr=>?_⟩
 ·rcases b2 with b2 | b2
  ·omega
  ·exact b2
 ·rcases b3 with b3 | b3
  ·exact absurd b3 hk
  ·exact List.eq_nil_of_length_eq_zero (by omega)
 ·rcases b4 with b4 | b4
  ·exact absurd b4 hk
  ·exact List.eq_nil_of_length_eq_zero (by omega)
 ·have:=h5 c hc
  unfold certBad at this
  simp only [Bool.not_eq_true,Bool.or_eq_false_iff,Bool.not_eq_false',inR_t] at this
  obtain ⟨c1,c2,c3⟩:=this
  rw [wi64 (by omega) (by omega)] at c2
  exact ⟨c1,c2,c3⟩
 ·have:=h6 r hr
  unfold refBad at this
  simp only [Bool.not_eq_true,Bool.not_eq_false',inR_t] at this
  exact this
structure LedOk (f:Int) (xs:List TMsg):Prop where
 f12:1≤f∧f≤2
 len:xs.length≤240
 msg:∀ x∈xs,MsgOk f x
 refs:∀ (i:Nat) (h:i < xs.length),∀ r∈xs[i].Refs,r < i
 nd:xs.Nodup
theorem codeL_ok {f:Int} {xs:List TMsg} (h:codeL f xs = 0):LedOk f xs:=by
 unfold codeL at h
 cases h1:inR f 1 2
 ·rw [h1] at h; cases h
 cases h2:decide ((xs.length:Int) > 240)
 rotate_left
 ·rw [h1,h2] at h; cases h
 rw [h1,h2] at h
 simp only [Bool.not_true,cond_false] at h
 have hall:∀ j,j < xs.length→ledBad f xs j = false:=by
  rcases fst_cases (ledBad f xs) xs.length with h' | ⟨i,k1,k2,k3⟩
  ·exact h'
  ·rw [fstN_some k1 k2 k3] at h
   simp only [orF] at h
   rw [ledVal_get k1] at h
   cases e1:codeM f xs[i] != 0
   ·rw [e1] at h
    cases e2:refsBad i xs[i] <;> rw [e2] at h <;> cases h
   ·rw [e1] at h
    simp only [cond_true] at h
    rw [h] at e1
    cases e1
 rw [inR_t] at h1
 rw [decide_eq_false_iff_not] at h2
 have hi:∀ (i:Nat) (h:i < xs.length),codeM f xs[i] = 0∧refsBad i xs[i] = false∧xs[i] ∉ xs.take i:=fun i hl=>by
  have:=hall i hl
  rw [ledBad_get hl] at this
  simpa using this
 refine ⟨h1,by omega,fun x hx=>?_,fun i hl r hr=>?_,?_⟩
 ·obtain ⟨i,hl,rfl⟩:=List.mem_iff_getElem.1 hx
  exact codeM_ok (hi i hl).1
 ·have:=(hi i hl).2.1
  unfold refsBad at this
  rw [List.any_eq_false] at this
  have:=this r hr
  simp at this; omega
 ·rw [List.nodup_iff_pairwise_ne,List.pairwise_iff_getElem]
  intro i j hi1 hj1 hij e
  exact (hi j hj1).2.2 (List.mem_iff_getElem.2 ⟨i,by rw [List.length_take]; omega,by rw [List.getElem_take]; exact e⟩)
open Go Go.Rf
set_option linter.unusedVariables false
set_option linter.unusedSimpArgs false
def upto (n:Nat):List Int:=(List.range n).map fun (j:Nat)=>((j:Int) + 1)
theorem upto_succ (n:Nat):upto (n + 1) = upto n++[(n:Int) + 1]:=by simp [upto,List.range_succ]
theorem upto_mem (n:Nat) (k:Int):k∈upto n ↔ 1≤k∧k≤n:=by
 simp only [upto,List.mem_map,List.mem_range]
 constructor
 ·rintro ⟨j,h,rfl⟩; omega
 ·intro h; exact ⟨(k - 1).toNat,by omega,by omega⟩
theorem upto_lt (n:Nat):(upto n).Pairwise (· < ·):=by
 unfold upto
 rw [List.pairwise_map]
 exact List.pairwise_lt_range.imp fun h=>by omega
theorem strict_eq:∀ (xs ys:List Int),xs.Pairwise (· < ·)→ys.Pairwise (· < ·)→(∀ k,k∈xs ↔ k∈ys)→xs = ys
 | [],[],_,_,_=>rfl
 | [],y::ys,_,_,h=>by have:=(h y).2 (by simp); cases this
 | x::xs,[],_,_,h=>by have:=(h x).1 (by simp); cases this
 | x::xs,y::ys,hx,hy,h=>by
  rw [List.pairwise_cons] at hx hy
  have e:x = y:=by
   rcases List.mem_cons.1 ((h x).1 (by simp)) with e | e
   ·exact e
   ·rcases List.mem_cons.1 ((h y).2 (by simp)) with e' | e'
    ·exact e'.symm
    ·have:=hy.1 x e; have:=hx.1 y e'; omega
  subst e
  rw [strict_eq xs ys hx.2 hy.2 fun k=>?_]
  have:=h k
  simp only [List.mem_cons] at this
  constructor
  ·intro hk
   rcases this.1 (.inr hk) with e | e
   ·subst e; have:=hx.1 k hk; omega
   ·exact e
  ·intro hk
   rcases this.2 (.inr hk) with e | e
   ·subst e; have:=hy.1 k hk; omega
   ·exact e
theorem appI {L:List Int} {k:Int} (h:L.length≤1000):appO 8 L [k] = some (L++[k]):=by
 unfold appO
 rw [if_pos (by simp; omega)]
theorem many_val {f:Int} (h:1≤f∧f≤2):manyI f = 3 * f + 1:=by
 unfold manyI
 rw [wi64 (x:=3 * f) (by omega) (by omega),wi64 (by omega) (by omega)]
theorem LedOk.good {f:Int} {xs:List TMsg} (h:LedOk f xs):∀ x∈xs,goodMsg x:=fun x hx=>by
 have m:=h.msg x hx
 have:=m.refsl
 have:=many_val h.f12
 have:=h.f12
 exact ⟨Nat.le_trans m.certsl (by omega),by omega⟩
theorem LedOk.len' {f:Int} {xs:List TMsg} (h:LedOk f xs):xs.length≤1048576:=Nat.le_trans h.len (by omega)
def saysB (k v s a:Int) (x:TMsg):Bool:=(x.Kind == k) && ((x.View == v) && ((x.Slot == s) && (x.Value == a)))
def saidM (xs:List TMsg) (k v s a id:Int):Bool:=xs.any fun x=>saysB k v s a x && (x.From == id)
def votesL (f:Int) (xs:List TMsg) (k v s a:Int):List Int:=(upto (3 * f + 1).toNat).filter (saidM xs k v s a)
theorem slotted_bare {f:Int} {x:TMsg} (h:MsgOk f x) (hk:x.Kind≤3):x.Certs = []∧x.Refs = []:=⟨h.certs0 (by omega),h.refs0 (by omega)⟩
theorem said_mem {f:Int} {xs:List TMsg} (H:LedOk f xs) {k v s a id:Int} (hk:k≤3):decide (atM xs (⟨k,v,id,s,a,[],[]⟩:TMsg) ≥ 0) = saidM xs k v s a id:=by
 unfold atM saidM
 rw [ixI_ge,fst_any,Bool.eq_iff_iff]
 simp only [List.any_eq_true,decide_eq_true_eq]
 constructor
 ·rintro ⟨x,hx,rfl⟩; exact ⟨_,hx,by simp [saysB]⟩
 ·rintro ⟨x,hx,hs⟩
  refine ⟨x,hx,?_⟩
  unfold saysB at hs
  simp only [Bool.and_eq_true,beq_iff_eq] at hs
  obtain ⟨⟨h1,h2,h3,h4⟩,h5⟩:=hs
  obtain ⟨e1,e2⟩:=slotted_bare (H.msg x hx) (by omega)
  obtain ⟨x1,x2,x3,x4,x5,x6,x7⟩:=x
  simp only at h1 h2 h3 h4 h5 e1 e2
  subst h1; subst h2; subst h3; subst h4; subst h5; subst e1; subst e2
  rfl
theorem upto_filter_len {f:Int} (hf:1≤f∧f≤2) {p:Int→Bool} {i:Nat} (hi:i≤7):((upto i).filter p).length≤1000:=Nat.le_trans (List.length_filter_le _ _) (by simp [upto]; omega)
theorem votes_spec {f:Int} {xs:List TMsg} (H:LedOk f xs) {k:Int} (hk:k≤3) (c:TCert):m142 f xs k c = some (votesL f xs k c.View c.Slot c.Value):=by
 have hf:=H.f12
 have hm:=many_val hf
 unfold m142
 rw [loop_all (f:=ms142_0 f xs k c) (s0:=(1,[])) (fun i=>((i:Int) + 1,(upto i).filter (saidM xs k c.View c.Slot c.Value))) (3 * f + 1).toNat (.exit 0 (((3 * f + 1).toNat:Int) + 1,votesL f xs k c.View c.Slot c.Value)) (fun i hi=>?_) ?_ rfl (NN_l (by omega)) rfl]
 ·rfl
 ·unfold ms142_0
  have hc:¬ (((3 * f + 1).toNat:Int) + 1≤manyI f):=by omega
  have hc':decide ((((3 * f + 1).toNat:Int) + 1)≤wi .i64 ((wi .i64 (3 * f)) + 1)) = false:=decide_eq_false hc
  dsimp only
  rw [hc',cond_false]
  rfl
 ·unfold ms142_0
  have hc:(i:Int) + 1≤manyI f:=by omega
  have hc':decide ((i:Int) + 1≤wi .i64 ((wi .i64 (3 * f)) + 1)) = true:=decide_eq_true hc
  dsimp only
  rw [hc',cond_true,at_spec xs _ H.len' H.good,obs,said_mem H hk,upto_succ,List.filter_append]
  have e:wi .i64 ((i:Int) + 1 + 1) = ((i + 1:Nat):Int) + 1:=by rw [wi64 (by omega) (by omega)]; omega
  cases hs:saidM xs k c.View c.Slot c.Value ((i:Int) + 1)
  ·simp only [cond_false,obs,contO,e]
   simp [hs]
  ·simp only [cond_true,appI (upto_filter_len hf (i:=i) (by omega)),obs,contO,e]
   simp [hs]
theorem tr_says (a b c d:Bool):(bif a then
     bif b then
      bif c then
       some (LO.norm d)
      else
       some (LO.norm false)
     else
      some (LO.norm false)
    else
     some (LO.norm false)) = some (LO.norm (a && (b && (c && d)))):=by
 cases a <;> cases b <;> cases c <;> rfl
theorem says_froms {f:Int} {xs:List TMsg} (H:LedOk f xs) {k:Int} (hk:k≤3) (v s a:Int) (n:Nat):(((xs.take n).filter (saysB k v s a)).map (·.From)).length≤8:=by
 have hf:=H.f12
 have hm:=many_val hf
 refine nodup_fewI ?_ ?_
 ·rw [List.Nodup,List.pairwise_map]
  have h1:((xs.take n).filter (saysB k v s a)).Nodup:=(H.nd.sublist (List.take_sublist _ _)).filter _
  refine List.Pairwise.imp_of_mem (fun {x y} hx hy hxy e=>hxy ?_) h1
  rw [List.mem_filter] at hx hy
  have mx:=H.msg x (List.mem_of_mem_take hx.1)
  have my:=H.msg y (List.mem_of_mem_take hy.1)
  have h2:=hx.2
  have h3:=hy.2
  unfold saysB at h2 h3
  simp only [Bool.and_eq_true,beq_iff_eq] at h2 h3
  obtain ⟨a1,a2⟩:=slotted_bare mx (by omega)
  obtain ⟨b1,b2⟩:=slotted_bare my (by omega)
  obtain ⟨x1,x2,x3,x4,x5,x6,x7⟩:=x
  obtain ⟨y1,y2,y3,y4,y5,y6,y7⟩:=y
  simp only at h2 h3 a1 a2 b1 b2 e
  obtain ⟨p1,p2,p3,p4⟩:=h2
  obtain ⟨q1,q2,q3,q4⟩:=h3
  subst p1; subst p2; subst p3; subst p4; subst q1; subst q2; subst q3; subst q4; subst a1; subst a2; subst b1; subst b2; subst e
  rfl
 ·intro z hz
  obtain ⟨x,hx,rfl⟩:=List.mem_map.1 hz
  have:=(H.msg x (List.mem_of_mem_take (List.mem_filter.1 hx).1)).frm
  omega
theorem votes_impl {f:Int} {xs:List TMsg} (H:LedOk f xs) {k:Int} (hk:k≤3) (v s a:Int):m186 xs k v s a = some (votesL f xs k v s a):=by
 have hf:=H.f12
 have hm:=many_val hf
 have hlen:=says_froms H hk v s a
 unfold m186
 rw [loop_all (f:=ms186_0 xs k v s a) (s0:=(0,[])) (fun i=>((i:Int),((xs.take i).filter (saysB k v s a)).map (·.From))) xs.length (.exit 0 ((xs.length:Int),((xs.take xs.length).filter (saysB k v s a)).map (·.From))) (fun i hi=>?_) ?_ rfl (NN_l H.len') rfl]
 ·have hl:=hlen xs.length
  obtain ⟨ys,k1,k2,k3⟩:=SO_ok (xs:=((xs.take xs.length).filter (saysB k v s a)).map (·.From)) (by omega)
  simp only [obs,contO,if_true,k1]
  rw [CM_ok (by rw [k2.length_eq]; omega),obs]
  congr 1
  refine strict_eq _ _ (cmpA_nodup ys k3) ((upto_lt _).filter _) fun id=>?_
  rw [cmpA_mem,k2.mem_iff,List.take_length]
  unfold votesL saidM
  simp only [List.mem_map,List.mem_filter,upto_mem,List.any_eq_true,Bool.and_eq_true,beq_iff_eq]
  constructor
  ·rintro ⟨x,⟨hx,hs⟩,rfl⟩
   have:=(H.msg x hx).frm
   exact ⟨by omega,x,hx,hs,rfl⟩
  ·rintro ⟨_,x,hx,hs,rfl⟩
   exact ⟨x,⟨hx,hs⟩,rfl⟩
 ·unfold ms186_0
  simp only [Int.lt_irrefl,decide_false,cond_false]
 ·have hc':(i:Int) < (xs.length:Int):=by omega
  have hil:i≤1099511627776:=by have:=H.len; omega
  unfold ms186_0
  simp only [hc',decide_true,cond_true,getN hi,obs,tr_says,contO]
  rw [take_snoc' hi,List.filter_append,List.map_append]
  have hl:=hlen i
  have e:(xs[i].Kind == k && (xs[i].View == v && (xs[i].Slot == s && (xs[i].Value == a)))) = saysB k v s a xs[i]:=rfl
  rw [e]
  cases hs:saysB k v s a xs[i]
  ·simp only [cond_false,obs,contO,wi1 hil]
   simp [hs]
  ·simp only [cond_true,appI (L:=((xs.take i).filter (saysB k v s a)).map (·.From)) (by omega),obs,contO,wi1 hil]
   simp [hs]
def needI (f:Int):Int:=wi .i64 ((wi .i64 (2 * f)) + 1)
def enoughB (f:Int) (xs:List TMsg) (k v s a:Int):Bool:=decide (((votesL f xs k v s a).length:Int) ≥ needI f)
theorem enough_impl {f:Int} {xs:List TMsg} (H:LedOk f xs) {k:Int} (hk:k≤3) (v s a:Int):m175 f xs k v s a = some (enoughB f xs k v s a):=by
 unfold m175
 rw [votes_impl H hk]; rfl
theorem enough_spec {f:Int} {xs:List TMsg} (H:LedOk f xs) {k:Int} (hk:k≤3) (c:TCert):m107 f xs k c = some (enoughB f xs k c.View c.Slot c.Value):=by
 unfold m107
 rw [votes_spec H hk]; rfl
def certE (f:Int) (xs:List TMsg) (c:TCert):Bool:=enoughB f xs 2 c.View c.Slot c.Value
theorem cert_impl {f:Int} {xs:List TMsg} (H:LedOk f xs) (c:TCert) (h1:1≤c.Slot∧c.Slot≤30) (h2:0≤c.View∧c.View≤20) (h3:0≤c.Value∧c.Value≤12):m162 f xs c = some (certE f xs c):=by
 unfold m162
 rw [slot_in,view_in,value_in,inR_t.2 h1,inR_t.2 h2,inR_t.2 h3,enough_impl H (by omega)]
 rfl
open Go Go.Rf
set_option linter.unusedVariables false
set_option linter.unusedSimpArgs false
theorem getI_mem {α:Type} {xs:List α} {i:Int} {x:α} (h:getI xs i = some x):x∈xs:=by
 unfold getI at h
 split at h
 ·exact List.mem_of_getElem? h
 ·cases h
theorem getI_in {α:Type} {xs:List α} (hl:xs.length≤1048576) (i:Int):inR i 0 (wi .i64 ((xs.length:Int) - 1)) = (getI xs i).isSome:=by
 rw [wi64 (by omega) (by omega)]
 unfold getI
 by_cases h:0≤i
 ·rw [if_pos h]
  by_cases h2:i.toNat < xs.length
  ·rw [List.getElem?_eq_getElem h2]
   exact inR_t.2 ⟨h,by omega⟩
  ·rw [List.getElem?_eq_none (by omega)]
   refine Bool.eq_false_iff.2 fun h3=>?_
   have:=inR_t.1 h3; omega
 ·rw [if_neg h]
  refine Bool.eq_false_iff.2 fun h3=>?_
  have:=inR_t.1 h3; omega
theorem of_ok {xs:List TMsg} (hl:xs.length≤1048576) (i k:Int):m159 xs i k = some (match getI xs i with | some m=>(m,(m.Kind == k) && decide (m.View > 0)) | none=>((⟨0,0,0,0,0,[],[]⟩:TMsg),false)):=by
 unfold m159
 rw [in2,getI_in hl]
 cases hg:getI xs i with
 | none=>rfl
 | some m=>
  simp only [Option.isSome_some,Bool.not_true,cond_false,obs]
  cases m.Kind == k <;> rfl
theorem is_ok {xs:List TMsg} (hl:xs.length≤1048576) (i k:Int):m106 xs i k = some (match getI xs i with | some m=>m.Kind == k | none=>false):=by
 unfold m106
 rw [in1,getI_in hl]
 cases hg:getI xs i with
 | none=>rfl
 | some m=>rfl
def changeM (f:Int) (xs:List TMsg) (m:TMsg):Bool:=(m.Kind == 4) && (decide (m.View > 0) && !m.Certs.any fun c=>!certE f xs c)
def changeB (f:Int) (xs:List TMsg) (i:Int):Bool:=match getI xs i with
 | some m=>changeM f xs m
 | none=>false
theorem change_impl {f:Int} {xs:List TMsg} (H:LedOk f xs) (i:Int):m126 f xs i = some (changeB f xs i):=by
 unfold m126 changeB
 rw [of_ok H.len',obs]
 cases hg:getI xs i with
 | none=>rfl
 | some m=>
  have mo:=H.msg m (getI_mem hg)
  have mv:=mo.view
  dsimp only
  unfold changeM
  rw [show m160 m.Certs (fun x0_=>m161 x0_ f xs) = some (m.Certs.any fun c=>!certE f xs c) from gCF_ok (NN_l (Nat.le_trans mo.certsl (by omega))) (big_l (Nat.le_trans mo.certsl (by omega))) (fun c hc=>by
   unfold m161
   obtain ⟨c1,c2,c3⟩:=mo.cert c hc
   rw [cert_impl H c c1 ⟨c2.1,by omega⟩ c3]; rfl)]
  cases m.Kind == 4
  ·rfl
  ·cases decide (m.View > 0) <;> rfl
theorem change_spec {f:Int} {xs:List TMsg} (H:LedOk f xs) (i:Int):m74 f xs i = some (changeB f xs i):=by
 unfold m74 changeB
 rw [is_ok H.len',obs]
 cases hg:getI xs i with
 | none=>rfl
 | some m=>
  have mo:=H.msg m (getI_mem hg)
  have hcl:m.Certs.length≤1048576:=Nat.le_trans mo.certsl (by omega)
  dsimp only
  unfold changeM
  cases m.Kind == 4
  ·rfl
  simp only [Bool.not_true,cond_false,obs]
  by_cases hv:m.View < 1
  ·have hv':¬ m.View > 0:=by omega
   simp only [hv,hv',decide_true,decide_false,cond_true,obs,contO,Bool.true_and,Bool.false_and]
  have hv':m.View > 0:=by omega
  simp only [hv,hv',decide_true,decide_false,cond_false,obs,contO,Bool.true_and]
  rw [loop_first (f:=ms74_0 f xs i) (s0:=(false,0)) (fun j=>(false,(j:Int))) m.Certs.length (pAt (fun c=>!certE f xs c) m.Certs) (fun j=>.ret (false,(j:Int))) (.exit 0 (false,(m.Certs.length:Int))) (fun j hj _ hp=>?_) (fun j hj _ hp=>?_) (fun _=>?_) (NN_l hcl) rfl]
  ·rw [← fst_any]
   cases fstN (pAt (fun c=>!certE f xs c) m.Certs) m.Certs.length <;> rfl
  ·rw [pAt_get hj] at hp
   have hc':(j:Int) < (m.Certs.length:Int):=by omega
   unfold ms74_0
   simp only [hg,hc',decide_true,cond_true,getN hj,obs,enough_spec H (show (2:Int)≤3 by omega)]
   unfold certE at hp
   simp only [hp,cond_false,wi1 (show j≤1099511627776 by omega)]
  ·rw [pAt_get hj] at hp
   have hc':(j:Int) < (m.Certs.length:Int):=by omega
   unfold ms74_0
   simp only [hg,hc',decide_true,cond_true,getN hj,obs,enough_spec H (show (2:Int)≤3 by omega)]
   unfold certE at hp
   simp only [hp]
   exact ⟨rfl,rfl⟩
  ·unfold ms74_0
   simp only [hg,obs,Int.lt_irrefl,decide_false,cond_false]
   exact ⟨trivial,rfl⟩
def primI (f v:Int):Int:=wi .i64 (1 + v.tmod (manyI f))
theorem prim_impl {f:Int} (hf:1≤f∧f≤2) (v:Int):m84 f v = some (primI f v):=by
 have hm:=many_val hf
 unfold m84
 rw [many_in]
 unfold remO
 rw [if_neg (by omega)]; rfl
theorem prim_spec {f:Int} (hf:1≤f∧f≤2) (v:Int):m42 f v = some (primI f v):=(rfl:m42 f v = m84 f v).trans (prim_impl hf v)
def viewAt (xs:List TMsg) (r:Int):Int:=((getI xs r).map (·.View)).getD 0
def fromAt (xs:List TMsg) (r:Int):Int:=((getI xs r).map (·.From)).getD 0
def newBad (f:Int) (xs:List TMsg) (m:TMsg) (i:Nat):Bool:=(m.Refs[i]?).any fun r=>!changeB f xs r || (viewAt xs r != m.View || decide (fromAt xs r∈(m.Refs.take i).map (fromAt xs)))
theorem newBad_get {f:Int} {xs:List TMsg} {m:TMsg} {i:Nat} (h:i < m.Refs.length):newBad f xs m i = (!changeB f xs m.Refs[i] || (viewAt xs m.Refs[i] != m.View || decide (fromAt xs m.Refs[i]∈(m.Refs.take i).map (fromAt xs)))):=by
 unfold newBad; rw [List.getElem?_eq_getElem h]; rfl
def newM (f:Int) (xs:List TMsg) (m:TMsg):Bool:=((m.Kind == 5) && decide (m.View > 0)) && ((m.From == primI f m.View) && (!decide ((m.Refs.length:Int) < needI f) && (fstN (newBad f xs m) m.Refs.length).isNone))
def newB (f:Int) (xs:List TMsg) (i:Int):Bool:=match getI xs i with
 | some m=>newM f xs m
 | none=>false
theorem changeB_get {f:Int} {xs:List TMsg} {r:Int} (h:changeB f xs r = true):∃ x,getI xs r = some x∧viewAt xs r = x.View∧fromAt xs r = x.From:=by
 unfold changeB at h
 cases hg:getI xs r with
 | none=>rw [hg] at h; cases h
 | some x=>exact ⟨x,rfl,by simp [viewAt,hg],by simp [fromAt,hg]⟩
theorem tr_new (a b c:Bool):(bif a then some (LO.norm true) else bif b then some (LO.norm true) else some (LO.norm c)) = some (LO.norm (a || (b || c))):=by
 cases a <;> cases b <;> rfl
theorem new_impl {f:Int} {xs:List TMsg} (H:LedOk f xs) (i:Int):m149 f xs i = some (newB f xs i):=by
 unfold m149 newB
 have hf:=H.f12
 have hm:=many_val hf
 rw [of_ok H.len',obs]
 cases hg:getI xs i with
 | none=>rfl
 | some m=>
  have mo:=H.msg m (getI_mem hg)
  have hrl:m.Refs.length≤7:=by have:=mo.refsl; omega
  dsimp only
  unfold newM
  cases e1:(m.Kind == 5 && decide (m.View > 0))
  ·rfl
  simp only [Bool.not_true,cond_false,prim_impl hf,obs,Bool.true_and]
  cases e2:m.From == primI f m.View
  ·have:(m.From != primI f m.View) = true:=by unfold bne; rw [e2]; rfl
   rw [this]; rfl
  have:(m.From != primI f m.View) = false:=by unfold bne; rw [e2]; rfl
  rw [this]
  simp only [cond_false,obs,contO,Bool.true_and]
  rw [show decide ((m.Refs.length:Int) < wi .i64 ((wi .i64 (2 * f)) + 1)) = decide ((m.Refs.length:Int) < needI f) from rfl]
  cases decide ((m.Refs.length:Int) < needI f)
  rotate_left
  ·rfl
  simp only [cond_false,obs,contO,Bool.not_false,Bool.true_and]
  rw [loop_first (f:=ms149_0 f xs (m,true)) (s0:=(false,0,[])) (fun j=>(false,(j:Int),(m.Refs.take j).map (fromAt xs))) m.Refs.length (newBad f xs m) (fun j=>.ret (false,(j:Int),(m.Refs.take j).map (fromAt xs))) (.exit 0 (false,(m.Refs.length:Int),(m.Refs.take m.Refs.length).map (fromAt xs))) (fun j hj _ hp=>?_) (fun j hj _ hp=>?_) (fun _=>?_) (NN_l (by omega)) rfl]
  ·cases fstN (newBad f xs m) m.Refs.length <;> rfl
  ·have hc':(j:Int) < (m.Refs.length:Int):=by omega
   rw [newBad_get hj,Bool.or_eq_false_iff,Bool.or_eq_false_iff] at hp
   obtain ⟨p1,p2,p3⟩:=hp
   rw [Bool.not_eq_false'] at p1
   obtain ⟨x,g1,g2,g3⟩:=changeB_get p1
   rw [g2] at p2
   rw [g3] at p3
   have hfl:((m.Refs.take j).map (fromAt xs)).length≤1000:=by simp; omega
   unfold ms149_0
   simp only [hc',decide_true,cond_true,getN hj,obs,change_impl H,p1,Bool.not_true,cond_false,g1,p2]
   rw [show m125 ((m.Refs.take j).map (fromAt xs)) x.From = some (decide (x.From∈(m.Refs.take j).map (fromAt xs))) from gCo_ok (NN_l (by omega)) (big_l (by omega)),p3]
   simp only [obs,contO,cond_false,g1,appI hfl,wi1 (show j≤1099511627776 by omega)]
   rw [take_snoc' hj,List.map_append]
   simp [g3]
  ·have hc':(j:Int) < (m.Refs.length:Int):=by omega
   rw [newBad_get hj] at hp
   have hfl:((m.Refs.take j).map (fromAt xs)).length≤1000:=by simp; omega
   unfold ms149_0
   simp only [hc',decide_true,cond_true,getN hj,obs,change_impl H]
   cases p1:changeB f xs m.Refs[j]
   ·exact ⟨rfl,rfl⟩
   obtain ⟨x,g1,g2,g3⟩:=changeB_get p1
   rw [p1,g2,g3] at hp
   simp only [Bool.not_true,cond_false,g1,obs]
   cases p2:x.View != m.View
   rotate_left
   ·exact ⟨rfl,rfl⟩
   rw [p2] at hp
   rw [show m125 ((m.Refs.take j).map (fromAt xs)) x.From = some (decide (x.From∈(m.Refs.take j).map (fromAt xs))) from gCo_ok (NN_l (by omega)) (big_l (by omega))]
   simp only [Bool.not_true,Bool.false_or] at hp
   rw [hp]
   exact ⟨rfl,rfl⟩
  ·unfold ms149_0
   simp only [Int.lt_irrefl,decide_false,cond_false]
   exact ⟨trivial,rfl⟩
theorem from_spec {xs:List TMsg} {rs:List Int} (hl:rs.length≤1048576) (hr:∀ r∈rs,∃ x,getI xs r = some x) (v:Int):m75 xs rs v = some (decide (v∈rs.map (fromAt xs))):=by
 unfold m75
 rw [loop_first (f:=ms75_0 xs rs v) (s0:=(false,0)) (fun j=>(false,(j:Int))) rs.length (pAt (fun r=>fromAt xs r == v) rs) (fun j=>.ret (true,(j:Int))) (.exit 0 (false,(rs.length:Int))) (fun j hj _ hp=>?_) (fun j hj _ hp=>?_) (fun _=>?_) (NN_l hl) rfl]
 ·have e:decide (v∈rs.map (fromAt xs)) = rs.any fun r=>fromAt xs r == v:=by
   rw [Bool.eq_iff_iff]
   simp
  rw [e,← fst_any]
  cases fstN (pAt (fun r=>fromAt xs r == v) rs) rs.length <;> rfl
 ·rw [pAt_get hj] at hp
  have hc':(j:Int) < (rs.length:Int):=by omega
  obtain ⟨x,g⟩:=hr _ (List.getElem_mem hj)
  have g3:fromAt xs rs[j] = x.From:=by simp [fromAt,g]
  rw [g3] at hp
  unfold ms75_0
  simp only [hc',decide_true,cond_true,getN hj,obs,g,hp,cond_false,wi1 (show j≤1099511627776 by omega)]
 ·rw [pAt_get hj] at hp
  have hc':(j:Int) < (rs.length:Int):=by omega
  obtain ⟨x,g⟩:=hr _ (List.getElem_mem hj)
  have g3:fromAt xs rs[j] = x.From:=by simp [fromAt,g]
  rw [g3] at hp
  unfold ms75_0
  simp only [hc',decide_true,cond_true,getN hj,obs,g,hp]
  exact ⟨trivial,rfl⟩
 ·unfold ms75_0
  simp only [Int.lt_irrefl,decide_false,cond_false]
  exact ⟨trivial,rfl⟩
theorem LedOk.ref_in {f:Int} {xs:List TMsg} (H:LedOk f xs) {m:TMsg} (hm:m∈xs):∀ r∈m.Refs,∃ x,getI xs r = some x:=fun r hr=>by
 have h1:=(H.msg m hm).ref r hr
 obtain ⟨i,hi,rfl⟩:=List.mem_iff_getElem.1 hm
 have h2:=H.refs i hi r hr
 refine ⟨xs[r.toNat]'(by omega),?_⟩
 unfold getI
 rw [if_pos h1.1,List.getElem?_eq_getElem]
theorem new_spec {f:Int} {xs:List TMsg} (H:LedOk f xs) (i:Int):m140 f xs i = some (newB f xs i):=by
 unfold m140 newB
 have hf:=H.f12
 have hm:=many_val hf
 rw [is_ok H.len',obs]
 cases hg:getI xs i with
 | none=>rfl
 | some m=>
  have mo:=H.msg m (getI_mem hg)
  have hrl:m.Refs.length≤7:=by have:=mo.refsl; omega
  have hri:=H.ref_in (getI_mem hg)
  dsimp only
  unfold newM
  cases e1:(m.Kind == 5)
  ·rfl
  simp only [Bool.not_true,cond_false,prim_spec hf,obs,Bool.true_and]
  by_cases hv:m.View < 1
  ·have hv':¬ m.View > 0:=by omega
   simp only [hv,hv',decide_true,decide_false,cond_true,obs,contO,Bool.true_and,Bool.false_and]
  have hv':m.View > 0:=by omega
  simp only [hv,hv',decide_true,decide_false,cond_false,obs,contO,Bool.true_and]
  cases e2:m.From == primI f m.View
  ·have:(m.From != primI f m.View) = true:=by unfold bne; rw [e2]; rfl
   rw [this]; rfl
  have:(m.From != primI f m.View) = false:=by unfold bne; rw [e2]; rfl
  rw [this]
  simp only [cond_false,obs,contO,Bool.true_and]
  rw [show decide ((m.Refs.length:Int) < m44 f) = decide ((m.Refs.length:Int) < needI f) from rfl]
  cases decide ((m.Refs.length:Int) < needI f)
  rotate_left
  ·rfl
  simp only [cond_false,obs,contO,Bool.not_false,Bool.true_and]
  rw [loop_first (f:=ms140_0 f xs m) (s0:=(false,0)) (fun j=>(false,(j:Int))) m.Refs.length (newBad f xs m) (fun j=>.ret (false,(j:Int))) (.exit 0 (false,(m.Refs.length:Int))) (fun j hj _ hp=>?_) (fun j hj _ hp=>?_) (fun _=>?_) (NN_l (by omega)) rfl]
  ·cases fstN (newBad f xs m) m.Refs.length <;> rfl
  ·have hc':(j:Int) < (m.Refs.length:Int):=by omega
   rw [newBad_get hj,Bool.or_eq_false_iff,Bool.or_eq_false_iff] at hp
   obtain ⟨p1,p2,p3⟩:=hp
   rw [Bool.not_eq_false'] at p1
   obtain ⟨x,g1,g2,g3⟩:=changeB_get p1
   rw [g2] at p2
   rw [g3] at p3
   unfold ms140_0
   simp only [hc',decide_true,cond_true,getN hj,obs,change_spec H,p1,Bool.not_true,cond_false,g1,p2,sub_take (Nat.le_of_lt hj)]
   rw [from_spec (by rw [List.length_take]; omega) (fun r hr=>hri r (List.mem_of_mem_take hr)),p3]
   simp only [obs,contO,cond_false,wi1 (show j≤1099511627776 by omega)]
  ·have hc':(j:Int) < (m.Refs.length:Int):=by omega
   rw [newBad_get hj] at hp
   unfold ms140_0
   simp only [hc',decide_true,cond_true,getN hj,obs,change_spec H]
   cases p1:changeB f xs m.Refs[j]
   ·exact ⟨rfl,rfl⟩
   obtain ⟨x,g1,g2,g3⟩:=changeB_get p1
   rw [p1,g2,g3] at hp
   simp only [Bool.not_true,cond_false,g1,obs]
   cases p2:x.View != m.View
   rotate_left
   ·exact ⟨rfl,rfl⟩
   rw [p2] at hp
   simp only [cond_false,sub_take (Nat.le_of_lt hj),obs]
   rw [from_spec (by rw [List.length_take]; omega) (fun r hr=>hri r (List.mem_of_mem_take hr))]
   simp only [Bool.not_true,Bool.false_or] at hp
   rw [hp]
   exact ⟨rfl,rfl⟩
  ·unfold ms140_0
   simp only [Int.lt_irrefl,decide_false,cond_false]
   exact ⟨trivial,rfl⟩
open Go Go.Rf
set_option linter.unusedVariables false
set_option linter.unusedSimpArgs false
def from0 (n:Nat):List Int:=(List.range n).map fun (j:Nat)=>(j:Int)
theorem from0_succ (n:Nat):from0 (n + 1) = from0 n++[(n:Int)]:=by simp [from0,List.range_succ]
theorem from0_mem (n:Nat) (k:Int):k∈from0 n ↔ 0≤k∧k < n:=by
 simp only [from0,List.mem_map,List.mem_range]
 constructor
 ·rintro ⟨j,h,rfl⟩; omega
 ·intro h; exact ⟨k.toNat,by omega,by omega⟩
theorem from0_lt (n:Nat):(from0 n).Pairwise (· < ·):=by
 unfold from0
 rw [List.pairwise_map]
 exact List.pairwise_lt_range.imp fun h=>by omega
def condD (f:Int) (xs:List TMsg) (s v:Int) (x:TMsg):Bool:=((x.Kind == 3) && ((x.Slot == s) && (x.Value == v))) && enoughB f xs 3 x.View s v
def decV (f:Int) (xs:List TMsg) (s v:Int):Bool:=xs.any (condD f xs s v)
def valuesL (f:Int) (xs:List TMsg) (s:Int):List Int:=(from0 13).filter (decV f xs s)
theorem tr_and3 (a b c:Bool):(bif a then
     bif b then
      some (LO.norm c)
     else
      some (LO.norm false)
    else
     some (LO.norm false)) = some (LO.norm (a && (b && c))):=by
 cases a <;> cases b <;> rfl
theorem any_snoc {α:Type} {xs:List α} {q:α→Bool} {i:Nat} (h:i < xs.length):(xs.take (i + 1)).any q = ((xs.take i).any q || q xs[i]):=by
 rw [take_snoc' h,List.any_append]; simp
theorem dec_inner {f:Int} {xs:List TMsg} (H:LedOk f xs) (s v:Int) (L:List Int):∃ j,loopO (ms141_0 f xs s (v,L)) NN (false,0) = some (.exit 2 (decV f xs s v,j)):=by
 obtain ⟨o,h1,j,rfl⟩:=loop_idx (f:=ms141_0 f xs s (v,L)) (fun i t=>t = ((xs.take i).any (condD f xs s v),(i:Int))) xs.length (fun o=>∃ j,o = .exit 2 (decV f xs s v,j)) (fun i t hi ht=>by
  subst ht
  unfold ms141_0
  dsimp only
  by_cases hc:i < xs.length
  ·have hc':(i:Int) < (xs.length:Int):=by omega
   simp only [hc',decide_true,cond_true,obs,contO]
   cases hf:(xs.take i).any (condD f xs s v)
   ·simp only [Bool.not_false,cond_true,obs,contO,getN hc,tr_and3]
    have e:=any_snoc (q:=condD f xs s v) hc
    rw [hf,Bool.false_or] at e
    rw [enough_spec H (show (3:Int)≤3 by omega)]
    refine .inl ⟨hc,((xs.take (i + 1)).any (condD f xs s v),((i + 1:Nat):Int)),?_,rfl⟩
    rw [e]
    unfold condD
    cases (xs[i].Kind == 3 && (xs[i].Slot == s && (xs[i].Value == v)))
    ·simp only [cond_false,obs,contO,wi1 (show i≤1099511627776 by have:=H.len; omega),Bool.false_and]
    ·simp only [cond_true,obs,contO,wi1 (show i≤1099511627776 by have:=H.len; omega),Bool.true_and]
   ·simp only [Bool.not_true,cond_false,obs,contO]
    refine .inr (.inl ⟨_,_,rfl,(i:Int),?_⟩)
    have:decV f xs s v = true:=by
     unfold decV
     rw [List.any_eq_true] at hf ⊢
     obtain ⟨x,hx,hq⟩:=hf
     exact ⟨x,List.mem_of_mem_take hx,hq⟩
    rw [this]
  ·have hc':¬ (i:Int) < (xs.length:Int):=by omega
   have:i = xs.length:=by omega
   subst this
   simp only [hc',decide_false,cond_false,obs,contO,List.take_length]
   exact .inr (.inl ⟨_,_,rfl,_,rfl⟩)) NN 0 (false,0) (Nat.zero_le _) (NN_l H.len') rfl
 exact ⟨j,h1⟩
theorem filt_len (p:Int→Bool) {i:Nat} (hi:i≤13):((from0 i).filter p).length≤1000:=Nat.le_trans (List.length_filter_le _ _) (by simp [from0]; omega)
theorem dec_spec {f:Int} {xs:List TMsg} (H:LedOk f xs) (s:Int):m141 f xs s = some (valuesL f xs s):=by
 unfold m141
 rw [loop_all (f:=ms141_1 f xs s) (s0:=(0,[])) (fun i=>((i:Int),(from0 i).filter (decV f xs s))) 13 (.exit 0 (13,valuesL f xs s)) (fun i hi=>?_) ?_ rfl (NN_l (by omega)) rfl]
 ·rfl
 ·unfold ms141_1
  rfl
 ·unfold ms141_1
  have hc:(i:Int)≤12:=by omega
  have e:wi .i64 ((i:Int) + 1) = ((i + 1:Nat):Int):=wi1 (by omega)
  obtain ⟨j,hj⟩:=dec_inner H s (i:Int) ((from0 i).filter (decV f xs s))
  simp only [hc,decide_true,cond_true,hj,obs,contO,if_true]
  rw [from0_succ,List.filter_append]
  cases hd:decV f xs s (i:Int)
  ·simp only [cond_false,obs,contO,e]
   simp [hd]
  ·simp only [cond_true,appI (filt_len (decV f xs s) (i:=i) (by omega)),obs,contO,e]
   simp [hd]
def stepD (p:TMsg→Bool) (L:List Int) (x:TMsg):List Int:=if (p x && !decide (x.Value∈L)) = true then L++[x.Value] else L
theorem stepD_eq (p:TMsg→Bool) (L:List Int) (x:TMsg):stepD p L x = bif (p x && !decide (x.Value∈L)) then L++[x.Value] else L:=by
 unfold stepD; rw [bool_if]
theorem fold_mem (p:TMsg→Bool):∀ (l:List TMsg) (L:List Int) (v:Int),v∈l.foldl (stepD p) L ↔ v∈L∨∃ x∈l,p x = true∧x.Value = v
 | [],L,v=>by simp
 | x::l,L,v=>by
  rw [List.foldl_cons,fold_mem p l]
  unfold stepD
  by_cases h:(p x && !decide (x.Value∈L)) = true
  ·rw [if_pos h,List.mem_append,List.mem_singleton]
   rw [Bool.and_eq_true] at h
   constructor
   ·rintro ((h1 | rfl) | ⟨y,hy,h2⟩)
    ·exact .inl h1
    ·exact .inr ⟨x,by simp,h.1,rfl⟩
    ·exact .inr ⟨y,by simp [hy],h2⟩
   ·rintro (h1 | ⟨y,hy,h2,h3⟩)
    ·exact .inl (.inl h1)
    ·rcases List.mem_cons.1 hy with rfl | hy
     ·exact .inl (.inr h3.symm)
     ·exact .inr ⟨y,hy,h2,h3⟩
  ·rw [if_neg h]
   constructor
   ·rintro (h1 | ⟨y,hy,h2⟩)
    ·exact .inl h1
    ·exact .inr ⟨y,by simp [hy],h2⟩
   ·rintro (h1 | ⟨y,hy,h2,h3⟩)
    ·exact .inl h1
    ·rcases List.mem_cons.1 hy with rfl | hy
     ·left
      rw [h2] at h
      simp at h
      rw [← h3]; exact h
     ·exact .inr ⟨y,hy,h2,h3⟩
theorem fold_nd (p:TMsg→Bool):∀ (l:List TMsg) (L:List Int),L.Nodup→(l.foldl (stepD p) L).Nodup
 | [],L,h=>h
 | x::l,L,h=>by
  rw [List.foldl_cons]
  refine fold_nd p l _ ?_
  unfold stepD
  by_cases hc:(p x && !decide (x.Value∈L)) = true
  ·rw [if_pos hc]
   rw [Bool.and_eq_true] at hc
   have h2:=hc.2
   simp at h2
   rw [List.nodup_append]
   refine ⟨h,by simp,fun a ha b hb e=>?_⟩
   rw [List.mem_singleton] at hb
   subst hb; subst e
   exact h2 ha
  ·rw [if_neg hc]; exact h
def condP (f:Int) (xs:List TMsg) (s:Int) (x:TMsg):Bool:=(x.Kind == 3) && ((x.Slot == s) && enoughB f xs 3 x.View s x.Value)
theorem fold_len {f:Int} {xs:List TMsg} (H:LedOk f xs) (s:Int) (n:Nat):((xs.take n).foldl (stepD (condP f xs s)) []).length≤13:=by
 refine nodup_fewI (fold_nd _ _ _ List.nodup_nil) fun v hv=>?_
 rw [fold_mem] at hv
 rcases hv with hv | ⟨x,hx,hp,rfl⟩
 ·cases hv
 ·unfold condP at hp
  rw [Bool.and_eq_true,beq_iff_eq] at hp
  have:=(H.msg x (List.mem_of_mem_take hx)).value (by omega)
  omega
theorem tr_dec (a b c d:Bool):(bif a then
     bif b then
      (some c).bind fun y1=>
      bif !y1 then
       (some d).bind fun y2=>
       some (LO.norm y2)
      else
       some (LO.norm false)
     else
      some (LO.norm false)
    else
     some (LO.norm false)) = some (LO.norm ((a && (b && d)) && !c)):=by
 cases a <;> cases b <;> cases c <;> cases d <;> rfl
theorem dec_impl {f:Int} {xs:List TMsg} (H:LedOk f xs) (s:Int):m146 f xs s = some (valuesL f xs s):=by
 have hlen:=fold_len H s
 unfold m146
 rw [loop_all (f:=ms146_0 f xs s) (s0:=(0,[])) (fun i=>((i:Int),(xs.take i).foldl (stepD (condP f xs s)) [])) xs.length (.exit 0 ((xs.length:Int),(xs.take xs.length).foldl (stepD (condP f xs s)) [])) (fun i hi=>?_) ?_ rfl (NN_l H.len') rfl]
 ·have hl:=hlen xs.length
  obtain ⟨ys,k1,k2,k3⟩:=SO_ok (xs:=(xs.take xs.length).foldl (stepD (condP f xs s)) []) (by omega)
  simp only [obs,contO,if_true,k1]
  congr 1
  have hnd:ys.Nodup:=k2.nodup_iff.2 (fold_nd _ _ _ List.nodup_nil)
  refine strict_eq _ _ ?_ ((from0_lt _).filter _) fun v=>?_
  ·rw [List.Nodup] at hnd
   exact (List.pairwise_and_iff.2 ⟨k3,hnd⟩).imp fun h=>by omega
  ·rw [k2.mem_iff,List.take_length,fold_mem]
   unfold valuesL
   rw [List.mem_filter,from0_mem]
   unfold decV
   rw [List.any_eq_true]
   constructor
   ·rintro (h | ⟨x,hx,hp,rfl⟩)
    ·cases h
    ·unfold condP at hp
     simp only [Bool.and_eq_true,beq_iff_eq] at hp
     have:=(H.msg x hx).value (by omega)
     refine ⟨by omega,x,hx,?_⟩
     unfold condD
     simp only [Bool.and_eq_true,beq_iff_eq]
     exact ⟨⟨hp.1,hp.2.1,trivial⟩,hp.2.2⟩
   ·rintro ⟨_,x,hx,hp⟩
    unfold condD at hp
    simp only [Bool.and_eq_true,beq_iff_eq] at hp
    obtain ⟨⟨h1,h2,h3⟩,h4⟩:=hp
    refine .inr ⟨x,hx,?_,h3⟩
    unfold condP
    simp only [Bool.and_eq_true,beq_iff_eq]
    subst h3
    exact ⟨h1,h2,h4⟩
 ·unfold ms146_0
  simp only [Int.lt_irrefl,decide_false,cond_false]
 ·have hc':(i:Int) < (xs.length:Int):=by omega
  have hil:i≤1099511627776:=by have:=H.len; omega
  have hl:=hlen i
  unfold ms146_0
  simp only [hc',decide_true,cond_true,getN hi,obs]
  rw [show m125 ((xs.take i).foldl (stepD (condP f xs s)) []) xs[i].Value = some (decide (xs[i].Value∈(xs.take i).foldl (stepD (condP f xs s)) [])) from gCo_ok (NN_l (by omega)) (big_l (by omega)),enough_impl H (show (3:Int)≤3 by omega),tr_dec]
  rw [take_snoc' hi,List.foldl_append,List.foldl_cons,List.foldl_nil]
  have e:((xs[i].Kind == 3 && (xs[i].Slot == s && enoughB f xs 3 xs[i].View s xs[i].Value)) && !decide (xs[i].Value∈(xs.take i).foldl (stepD (condP f xs s)) [])) = (condP f xs s xs[i] && !decide (xs[i].Value∈(xs.take i).foldl (stepD (condP f xs s)) [])):=rfl
  rw [e]
  rw [stepD_eq]
  cases hs:(condP f xs s xs[i] && !decide (xs[i].Value∈(xs.take i).foldl (stepD (condP f xs s)) []))
  ·simp only [obs,contO,cond_false,wi1 hil]
  ·simp only [obs,contO,cond_true,appI (show ((xs.take i).foldl (stepD (condP f xs s)) []).length≤1000 by omega),wi1 hil]
def hdsL (f:Int) (xs:List TMsg) (i:Nat):List Int:=(upto i).map fun s=>(valuesL f xs s).headD 0
def noneAt (f:Int) (xs:List TMsg) (i:Nat):Bool:=(valuesL f xs ((i:Int) + 1)).isEmpty
def logL (f:Int) (xs:List TMsg):List Int:=orF (fstN (noneAt f xs) 30) (hdsL f xs) (hdsL f xs 30)
theorem hds_len (f:Int) (xs:List TMsg) (i:Nat):(hdsL f xs i).length = i:=by simp [hdsL,upto]
theorem hds_succ (f:Int) (xs:List TMsg) (i:Nat):hdsL f xs (i + 1) = hdsL f xs i++[(valuesL f xs ((i:Int) + 1)).headD 0]:=by
 unfold hdsL; rw [upto_succ,List.map_append]; rfl
theorem none_len {l:List Int}:((l.length:Int) == 0) = l.isEmpty:=by
 cases l with
 | nil=>rfl
 | cons x r=>
  rw [Bool.eq_iff_iff]
  simp; omega
theorem head_get {l:List Int} (h:l.isEmpty = false):getI l 0 = some (l.headD 0):=by
 cases l with
 | nil=>cases h
 | cons x r=>rfl
theorem wi_next {i:Nat} (h:i≤1048576):wi .i64 ((i:Int) + 1 + 1) = ((i + 1:Nat):Int) + 1:=by rw [wi64 (by omega) (by omega)]; omega
theorem log_impl {f:Int} {xs:List TMsg} (H:LedOk f xs):m114 f xs = some (logL f xs):=by
 unfold m114 logL
 rw [loop_first (f:=ms114_0 f xs) (s0:=(1,[])) (fun i=>((i:Int) + 1,hdsL f xs i)) 30 (noneAt f xs) (fun i=>.exit 0 ((i:Int) + 1,hdsL f xs i)) (.exit 0 (31,hdsL f xs 30)) (fun i hi _ hp=>?_) (fun i hi _ hp=>?_) (fun _=>?_) (NN_l (by omega)) rfl]
 ·cases fstN (noneAt f xs) 30 <;> rfl
 ·have hc:(i:Int) + 1≤30:=by omega
  unfold ms114_0
  unfold noneAt at hp
  have hl:=hds_len f xs i
  simp only [hc,decide_true,cond_true,dec_impl H,obs,none_len,hp,cond_false,head_get hp,appI (show (hdsL f xs i).length≤1000 by omega),wi_next (show i≤1048576 by omega),hds_succ]
 ·have hc:(i:Int) + 1≤30:=by omega
  unfold ms114_0
  unfold noneAt at hp
  simp only [hc,decide_true,cond_true,dec_impl H,obs,none_len,hp]
  exact ⟨trivial,rfl⟩
 ·exact ⟨rfl,rfl⟩
theorem log_spec {f:Int} {xs:List TMsg} (H:LedOk f xs):m105 f xs = some (logL f xs):=by
 unfold m105 logL
 rw [loop_first (f:=ms105_0 f xs) (s0:=(false,1,[])) (fun i=>(false,(i:Int) + 1,hdsL f xs i)) 30 (noneAt f xs) (fun i=>.ret (true,(i:Int) + 1,hdsL f xs i)) (.exit 0 (false,31,hdsL f xs 30)) (fun i hi _ hp=>?_) (fun i hi _ hp=>?_) (fun _=>?_) (NN_l (by omega)) rfl]
 ·cases fstN (noneAt f xs) 30 <;> rfl
 ·have hc:(i:Int) + 1≤30:=by omega
  unfold ms105_0
  unfold noneAt at hp
  have hl:=hds_len f xs i
  simp only [hc,decide_true,cond_true,dec_spec H,obs,none_len,hp,cond_false,head_get hp,appI (show (hdsL f xs i).length≤1000 by omega),wi_next (show i≤1048576 by omega),hds_succ]
 ·have hc:(i:Int) + 1≤30:=by omega
  unfold ms105_0
  unfold noneAt at hp
  simp only [hc,decide_true,cond_true,cond_false,dec_spec H,obs,none_len,hp]
  exact ⟨trivial,rfl⟩
 ·exact ⟨rfl,rfl⟩
open Go Go.Rf
set_option linter.unusedVariables false
set_option linter.unusedSimpArgs false
def startBad (f:Int) (xs:List TMsg) (r:TReplica):Bool:=(r.Start != (-1)) && ((r.View == 0) || (!newB f xs r.Start || (viewAt xs r.Start != r.View)))
def repBad (f:Int) (r:TReplica):Bool:=!inR r.Id 1 (manyI f) || (!inR r.View 0 20 || !inR r.Done 0 30)
def repCode (f:Int) (xs:List TMsg) (r:TReplica):Int:=bif repBad f r then 3 else bif startBad f xs r then 1 else bif decide (r.Done > ((logL f xs).length:Int)) then 8 else 0
theorem newB_get {f:Int} {xs:List TMsg} {r:Int} (h:newB f xs r = true):∃ x,getI xs r = some x∧viewAt xs r = x.View:=by
 unfold newB at h
 cases hg:getI xs r with
 | none=>rw [hg] at h; cases h
 | some x=>exact ⟨x,rfl,by simp [viewAt,hg]⟩
theorem rep_impl {f:Int} {xs:List TMsg} (H:LedOk f xs) (r:TReplica):m115 f xs r ((logL f xs).length:Int) = some (repCode f xs r):=by
 unfold m115 repCode
 rw [repl_in,view_in,in2,tr_cert]
 simp only [obs,contO]
 rw [show (!inR r.Id 1 (manyI f) || (!inR r.View 0 20 || !inR r.Done 0 30)) = repBad f r from rfl]
 cases repBad f r
 rotate_left
 ·rfl
 simp only [cond_false,new_impl H,obs]
 unfold startBad
 cases r.Start != (-1)
 ·simp only [cond_false,obs,contO,Bool.false_and]
  cases decide (r.Done > ((logL f xs).length:Int)) <;> rfl
 simp only [cond_true,Bool.true_and]
 cases r.View == 0
 rotate_left
 ·rfl
 simp only [cond_false,Bool.false_or]
 cases hn:newB f xs r.Start
 ·rfl
 obtain ⟨x,g1,g2⟩:=newB_get hn
 simp only [Bool.not_true,cond_false,Bool.false_or,g1,obs,g2,contO]
 cases x.View != r.View
 rotate_left
 ·rfl
 cases decide (r.Done > ((logL f xs).length:Int)) <;> rfl
theorem start_spec {f:Int} {xs:List TMsg} (H:LedOk f xs) (v i:Int) (hv:(v == 0) = false):m104 f xs v i = some (newB f xs i && (viewAt xs i == v)):=by
 unfold m104
 rw [hv,cond_false,new_spec H,obs]
 cases hn:newB f xs i
 ·rfl
 obtain ⟨x,g1,g2⟩:=newB_get hn
 rw [g1,g2]; rfl
theorem rep_spec {f:Int} {xs:List TMsg} (H:LedOk f xs) (r:TReplica):m73 f xs r = some (repCode f xs r):=by
 unfold m73 repCode
 rw [id_in,in1,in1,tr_cert]
 simp only [obs,contO]
 rw [show (!inR r.Id 1 (manyI f) || (!inR r.View 0 20 || !inR r.Done 0 30)) = repBad f r from rfl]
 cases hb:repBad f r
 rotate_left
 ·rfl
 have hd:0≤r.Done:=by
  unfold repBad at hb
  simp only [Bool.or_eq_false_iff,Bool.not_eq_false',inR_t] at hb
  exact hb.2.2.1
 have tail:((bif decide (r.Done > 0) then
     (m105 f xs).bind fun y2=>
     bif decide (r.Done > (y2.length:Int)) then
      some (LO.ret 8)
     else
      some (LO.norm (0:Int))
    else
     some (LO.norm 0)).bind (contO (fun s10=>
    some (0:Int)) (fun i5 s10=>
    none) (fun s10=>
    some s10))) = some (bif decide (r.Done > ((logL f xs).length:Int)) then 8 else 0):=by
  rw [log_spec H]
  by_cases h0:r.Done > 0
  ·simp only [h0,decide_true,cond_true,obs]
   cases decide (r.Done > ((logL f xs).length:Int)) <;> rfl
  ·have h1:¬ r.Done > ((logL f xs).length:Int):=by omega
   simp only [h0,h1,decide_false,cond_false,obs,contO]
 simp only [cond_false,obs,contO]
 unfold startBad
 cases r.Start != (-1)
 ·simp only [cond_false,obs,contO,Bool.false_and]
  exact tail
 simp only [cond_true,Bool.true_and]
 cases hv:r.View == 0
 rotate_left
 ·rfl
 simp only [cond_false,Bool.false_or,start_spec H _ _ hv,obs,contO]
 have e:(!(newB f xs r.Start && (viewAt xs r.Start == r.View))) = (!newB f xs r.Start || (viewAt xs r.Start != r.View)):=by
  unfold bne; rw [Bool.not_and]
 rw [e]
 cases (!newB f xs r.Start || (viewAt xs r.Start != r.View))
 rotate_left
 ·rfl
 simp only [cond_false,obs,contO]
 exact tail
def badAt (f:Int) (bs:List Int) (i:Nat):Bool:=!inR (A bs i) 1 (manyI f) || dropS bs i
def badCode (f:Int) (bs:List Int):Int:=orF (fstN (badAt f bs) bs.length) (fun i=>bif !inR (A bs i) 1 (manyI f) then 3 else 1) 0
theorem badAt_get {f:Int} {bs:List Int} {i:Nat} (h:i < bs.length):badAt f bs i = (!inR bs[i] 1 (manyI f) || (decide (0 < i) && decide (bs[i]≤bs[i - 1]))):=by
 unfold badAt dropS
 rw [A_get h,A_get (show i - 1 < bs.length by omega)]
theorem bad_impl (f:Int) (bs:List Int) (h:bs.length≤1048576):m111 f bs = some (badCode f bs):=by
 unfold m111 badCode
 rw [loop_first (f:=ms111_0 f bs) (s0:=(0,0)) (fun i=>(0,(i:Int))) bs.length (badAt f bs) (fun i=>.ret (bif !inR (A bs i) 1 (manyI f) then 3 else 1,(i:Int))) (.exit 0 (0,(bs.length:Int))) (fun i hi _ hp=>?_) (fun i hi _ hp=>?_) (fun _=>?_) (NN_l h) rfl]
 ·cases fstN (badAt f bs) bs.length <;> rfl
 ·have hc':(i:Int) < (bs.length:Int):=by omega
  have hb:i≤big:=Nat.le_trans (Nat.le_of_lt hi) (big_l h)
  rw [badAt_get hi,Bool.or_eq_false_iff] at hp
  unfold ms111_0
  simp only [hc',decide_true,cond_true,getN hi,obs,repl_in,hp.1,cond_false]
  by_cases h0:0 < i
  ·have h0':(i:Int) > 0:=by omega
   have hp2:=hp.2
   rw [decide_eq_true h0,Bool.true_and] at hp2
   simp only [h0',decide_true,cond_true,wi_pred h0 hb,getN (show i - 1 < bs.length by omega),obs,hp2,cond_false,contO,wi1 hb]
  ·have h0':¬ (i:Int) > 0:=by omega
   simp only [h0',decide_false,cond_false,obs,contO,wi1 hb]
 ·have hc':(i:Int) < (bs.length:Int):=by omega
  have hb:i≤big:=Nat.le_trans (Nat.le_of_lt hi) (big_l h)
  rw [badAt_get hi] at hp
  unfold ms111_0
  simp only [hc',decide_true,cond_true,getN hi,obs,repl_in,A_get hi]
  cases hr:!inR bs[i] 1 (manyI f)
  ·rw [hr,Bool.false_or,Bool.and_eq_true] at hp
   have h0:0 < i:=of_decide_eq_true hp.1
   have h0':(i:Int) > 0:=by omega
   simp only [cond_false,h0',decide_true,cond_true,wi_pred h0 hb,getN (show i - 1 < bs.length by omega),obs,hp.2,contO]
   exact ⟨trivial,rfl⟩
  ·exact ⟨rfl,rfl⟩
 ·unfold ms111_0
  simp only [Int.lt_irrefl,decide_false,cond_false]
  exact ⟨trivial,rfl⟩
theorem bad_step (f:Int) (bs:List Int):ms69_0 f bs = ms111_0 f bs:=by
 funext s
 unfold ms69_0 ms111_0
 cases hg:getI bs s.2 with
 | none=>rfl
 | some x=>
  simp only [obs,id_in,repl_in]
theorem bad_spec (f:Int) (bs:List Int) (h:bs.length≤1048576):m69 f bs = some (bif decide ((bs.length:Int) > f) then 2 else badCode f bs):=by
 unfold m69
 cases decide ((bs.length:Int) > f)
 rotate_left
 ·rfl
 simp only [cond_false]
 rw [bad_step]
 exact bad_impl f bs h
def okId (bs:List Int) (id:Int):Bool:=!decide (id∈bs)
def othersL (f:Int) (bs:List Int):List Int:=(upto (3 * f + 1).toNat).filter (okId bs)
theorem others_impl {f:Int} (hf:1≤f∧f≤2) (bs:List Int) (h:bs.length≤1048576):m113 f bs = some (othersL f bs):=by
 have hm:=many_val hf
 unfold m113
 rw [loop_all (f:=ms113_0 f bs) (s0:=(1,[])) (fun i=>((i:Int) + 1,(upto i).filter (okId bs))) (3 * f + 1).toNat (.exit 0 (((3 * f + 1).toNat:Int) + 1,othersL f bs)) (fun i hi=>?_) ?_ rfl (NN_l (by omega)) rfl]
 ·rfl
 ·unfold ms113_0
  have hc:¬ (((3 * f + 1).toNat:Int) + 1≤manyI f):=by omega
  have hc':decide ((((3 * f + 1).toNat:Int) + 1)≤m124 f) = false:=decide_eq_false hc
  dsimp only
  rw [hc',cond_false]
  rfl
 ·unfold ms113_0
  have hc:(i:Int) + 1≤manyI f:=by omega
  have hc':decide ((i:Int) + 1≤m124 f) = true:=decide_eq_true hc
  dsimp only
  rw [hc',cond_true,show m125 bs ((i:Int) + 1) = some (decide ((i:Int) + 1∈bs)) from gCo_ok (NN_l h) (big_l h),obs,upto_succ,List.filter_append]
  have e:wi .i64 ((i:Int) + 1 + 1) = ((i + 1:Nat):Int) + 1:=wi_next (by omega)
  cases hs:okId bs ((i:Int) + 1)
  ·have hs':(!decide ((i:Int) + 1∈bs)) = false:=hs
   simp only [hs',cond_false,obs,contO,e]
   simp [hs]
  ·have hs':(!decide ((i:Int) + 1∈bs)) = true:=hs
   simp only [hs',cond_true,appI (upto_filter_len hf (p:=okId bs) (i:=i) (by omega)),obs,contO,e]
   simp [hs]
theorem is_spec (bs:List Int) (v:Int) (h:bs.length≤1048576):m99 bs v = some (!okId bs v):=by
 unfold m99
 rw [loop_first (f:=ms99_0 bs v) (s0:=(false,0)) (fun i=>(false,(i:Int))) bs.length (pAt (fun x=>x == v) bs) (fun i=>.ret (true,(i:Int))) (.exit 0 (false,(bs.length:Int))) (fun i hi _ hp=>?_) (fun i hi _ hp=>?_) (fun _=>?_) (NN_l h) rfl]
 ·have e:(!okId bs v) = bs.any fun x=>x == v:=by
   unfold okId
   rw [Bool.not_not,Bool.eq_iff_iff]
   simp
  rw [e,← fst_any]
  cases fstN (pAt (fun x=>x == v) bs) bs.length <;> rfl
 ·rw [pAt_get hi] at hp
  have hc':(i:Int) < (bs.length:Int):=by omega
  unfold ms99_0
  simp only [hc',decide_true,cond_true,getN hi,obs,hp,cond_false,wi1 (show i≤1099511627776 by omega)]
 ·rw [pAt_get hi] at hp
  have hc':(i:Int) < (bs.length:Int):=by omega
  unfold ms99_0
  simp only [hc',decide_true,cond_true,getN hi,obs,hp]
  exact ⟨trivial,rfl⟩
 ·unfold ms99_0
  simp only [Int.lt_irrefl,decide_false,cond_false]
  exact ⟨trivial,rfl⟩
def cntO (bs:List Int) (i:Nat):Nat:=((upto i).filter (okId bs)).length
theorem cntO_succ (bs:List Int) (i:Nat):cntO bs (i + 1) = cntO bs i + if okId bs ((i:Int) + 1) = true then 1 else 0:=by
 unfold cntO
 rw [upto_succ,List.filter_append,List.length_append]
 by_cases h:okId bs ((i:Int) + 1) = true
 ·rw [if_pos h]; simp [h]
 ·rw [if_neg h]; simp [h]
theorem cntO_le (bs:List Int) (i:Nat):cntO bs i≤i:=by
 unfold cntO
 exact Nat.le_trans (List.length_filter_le _ _) (by simp [upto])
def offAt (bs ids:List Int) (i:Nat):Bool:=okId bs ((i:Int) + 1) && !decide (ids[cntO bs i]? = some ((i:Int) + 1))
theorem ids_take (bs ids:List Int):∀ n,(∀ j,j < n→offAt bs ids j = false)→(upto n).filter (okId bs) = ids.take (cntO bs n)
 | 0,_=>rfl
 | n + 1,h=>by
  have ih:=ids_take bs ids n fun j hj=>h j (by omega)
  rw [cntO_succ,upto_succ,List.filter_append,ih]
  have h2:=h n (by omega)
  unfold offAt at h2
  by_cases ho:okId bs ((n:Int) + 1) = true
  ·rw [ho,Bool.true_and] at h2
   simp at h2
   rw [if_pos ho,List.take_add_one,h2]
   simp [ho]
  ·rw [if_neg ho]; simp [ho]
theorem ids_others (bs ids:List Int) (n:Nat):ids = (upto n).filter (okId bs) ↔ (∀ j,j < n→offAt bs ids j = false)∧cntO bs n = ids.length:=by
 constructor
 ·intro e
  refine ⟨fun j hj=>?_,by rw [e]; rfl⟩
  unfold offAt
  cases ho:okId bs ((j:Int) + 1)
  ·rfl
  rw [Bool.true_and,e]
  have e2:upto n = upto j++(((j:Int) + 1)::(upto n).drop (j + 1)):=by
   have e3:(upto n).take j = upto j:=by
    unfold upto
    rw [← List.map_take,List.take_range]
    congr 2; omega
   have hl:j < (upto n).length:=by simp [upto]; omega
   have e4:(upto n)[j] = (j:Int) + 1:=by simp [upto]
   have:=List.take_append_drop j (upto n)
   rw [List.drop_eq_getElem_cons hl,e3,e4] at this
   exact this.symm
  rw [e2,List.filter_append,List.filter_cons,if_pos ho]
  have:cntO bs j = ((upto j).filter (okId bs)).length:=rfl
  rw [List.getElem?_append_right (by omega),this,Nat.sub_self]
  simp
 ·rintro ⟨h1,h2⟩
  rw [ids_take bs ids n h1,h2,List.take_length]
theorem repl_loop (c:TCluster) (hf:1≤c.F∧c.F≤2) (hb:c.Bad.length≤1048576) (hr:c.Replicas.length≤1048576) :
  (c.Replicas.map (·.Id) = othersL c.F c.Bad∧∃ j,loopO (ms70_0 c) NN (0,0,1) = some (.exit 0 (0,(c.Replicas.length:Int),j))) ∨
  (c.Replicas.map (·.Id)≠othersL c.F c.Bad∧((∃ a j,loopO (ms70_0 c) NN (0,0,1) = some (.exit 0 (0,a,j))∧a≠(c.Replicas.length:Int))∨∃ s,loopO (ms70_0 c) NN (0,0,1) = some (.ret s)∧s.1 = 1)):=by
 have hm:=many_val hf
 have key:=loop_first (f:=ms70_0 c) (N:=NN) (s0:=(0,0,1)) (fun i=>(0,(cntO c.Bad i:Int),(i:Int) + 1)) (3 * c.F + 1).toNat (offAt c.Bad (c.Replicas.map (·.Id))) (fun i=>.ret (1,(cntO c.Bad i:Int),(i:Int) + 1)) (.exit 0 (0,(cntO c.Bad (3 * c.F + 1).toNat:Int),((3 * c.F + 1).toNat:Int) + 1)) (fun i hi _ hp=>by
   have hc:(i:Int) + 1≤manyI c.F:=by omega
   have hc':decide ((i:Int) + 1≤wi .i64 ((wi .i64 (3 * c.F)) + 1)) = true:=decide_eq_true hc
   have e:wi .i64 ((i:Int) + 1 + 1) = ((i + 1:Nat):Int) + 1:=wi_next (by omega)
   have hcl:=cntO_le c.Bad i
   unfold ms70_0
   dsimp only
   rw [hc',cond_true,is_spec _ _ hb,obs,cntO_succ]
   unfold offAt at hp
   cases ho:okId c.Bad ((i:Int) + 1)
   ·simp [contO,e]
   ·rw [ho,Bool.true_and] at hp
    simp only [Bool.not_eq_false',decide_eq_true_eq] at hp
    have hlt:cntO c.Bad i < c.Replicas.length:=by
     have:=(List.getElem?_eq_some_iff.1 hp).1
     simpa using this
    rw [List.getElem?_map,List.getElem?_eq_getElem hlt,Option.map_some,Option.some.injEq] at hp
    have h1:¬ ((cntO c.Bad i:Int) ≥ (c.Replicas.length:Int)):=by omega
    have h2:(c.Replicas[cntO c.Bad i].Id != (i:Int) + 1) = false:=by rw [hp]; simp
    simp only [Bool.not_true,cond_false,h1,decide_false,getN hlt,obs,h2,contO,wi1 (show cntO c.Bad i≤1099511627776 by omega),e,if_true]) (fun i hi _ hp=>by
   have hc:(i:Int) + 1≤manyI c.F:=by omega
   have hc':decide ((i:Int) + 1≤wi .i64 ((wi .i64 (3 * c.F)) + 1)) = true:=decide_eq_true hc
   unfold ms70_0
   dsimp only
   rw [hc',cond_true,is_spec _ _ hb,obs]
   unfold offAt at hp
   rw [Bool.and_eq_true] at hp
   rw [hp.1]
   have hp2:=hp.2
   simp only [Bool.not_eq_true',decide_eq_false_iff_not] at hp2
   by_cases h1:((cntO c.Bad i:Int) ≥ (c.Replicas.length:Int))
   ·simp only [Bool.not_true,cond_false,h1,decide_true,cond_true,obs,contO]
    exact ⟨trivial,rfl⟩
   ·have hlt:cntO c.Bad i < c.Replicas.length:=by omega
    rw [List.getElem?_map,List.getElem?_eq_getElem hlt,Option.map_some,Option.some.injEq] at hp2
    have h2:(c.Replicas[cntO c.Bad i].Id != (i:Int) + 1) = true:=by simpa using hp2
    simp only [Bool.not_true,cond_false,h1,decide_false,getN hlt,obs,h2,cond_true,contO]
    exact ⟨trivial,rfl⟩) (fun _=>by
   have hc:¬ (((3 * c.F + 1).toNat:Int) + 1≤manyI c.F):=by omega
   have hc':decide ((((3 * c.F + 1).toNat:Int) + 1)≤wi .i64 ((wi .i64 (3 * c.F)) + 1)) = false:=decide_eq_false hc
   unfold ms70_0
   dsimp only
   rw [hc',cond_false]
   exact ⟨rfl,rfl⟩) (NN_l (by omega)) rfl
 have hiff:=ids_others c.Bad (c.Replicas.map (·.Id)) (3 * c.F + 1).toNat
 rw [List.length_map] at hiff
 rw [key]
 rcases fst_cases (offAt c.Bad (c.Replicas.map (·.Id))) (3 * c.F + 1).toNat with h | ⟨i,h1,h2,h3⟩
 ·rw [fstN_none h]
  by_cases hl:cntO c.Bad (3 * c.F + 1).toNat = c.Replicas.length
  ·exact .inl ⟨hiff.2 ⟨h,hl⟩,_,by simp only [orF,hl]; rfl⟩
  ·exact .inr ⟨fun e=>hl (hiff.1 e).2,.inl ⟨_,_,rfl,by omega⟩⟩
 ·rw [fstN_some h1 h2 h3]
  refine .inr ⟨fun e=>?_,.inr ⟨_,rfl,rfl⟩⟩
  rw [(hiff.1 e).1 i h1] at h3
  cases h3
open Go Go.Rf
set_option linter.unusedVariables false
set_option linter.unusedSimpArgs false
theorem appS {L:List Str} {k:Str} (h:L.length≤1048577):appO 16 L [k] = some (L++[k]):=by
 unfold appO
 rw [if_pos (by simp; omega)]
theorem u8_47 (b:UInt8):((b.toNat:Int) == 47) = (b == 47):=by
 rw [Bool.eq_iff_iff,beq_iff_eq,beq_iff_eq]
 constructor
 ·intro h
  apply UInt8.toNat_inj.1
  have:(47:UInt8).toNat = 47:=rfl
  omega
 ·rintro rfl; rfl
theorem sub_nat {xs:Str} {i j:Nat} (h1:i≤j) (h2:j≤xs.length):subI xs (i:Int) (j:Int) = some ((xs.drop i).take (j - i)):=by
 unfold subI
 rw [if_pos ⟨by omega,by omega,by omega⟩,Int.toNat_natCast,show ((j:Int) - (i:Int)).toNat = j - i by omega]
theorem cut_ok (a:Str) (h:a.length≤1000):m168 a 47 = some (spl 47 a):=by
 unfold m168
 obtain ⟨o,h1,s,rfl,h2⟩:=loop_idx (f:=ms168_0 a 47) (fun i s=>(i≤a.length∧∃ (fr:Nat) (out:List Str),s = ((fr:Int),(i:Int),out)∧fr≤i∧out.length≤i∧out++hd1 ((a.drop fr).take (i - fr)) (spl 47 (a.drop i)) = spl 47 a)∨(i = a.length + 1∧∃ fr:Int,s = (fr,(i:Int),spl 47 a))) (a.length + 1) (fun o=>∃ s,o = .exit 0 s∧s.2.2 = spl 47 a) (fun i s hi hs=>by
  rcases hs with ⟨hil,fr,out,rfl,h1,h2,h3⟩ | ⟨rfl,fr,rfl⟩
  ·unfold ms168_0
   dsimp only
   have hc:(i:Int)≤(a.length:Int):=by omega
   simp only [hc,decide_true,cond_true]
   by_cases he:i = a.length
   ·subst he
    have e1:((a.length:Int) == (a.length:Int)) = true:=by simp
    simp only [e1,cond_true,sub_nat h1 (Nat.le_refl _),obs,appS (show out.length≤1048577 by omega),contO,wi1 (show a.length≤1099511627776 by omega)]
    refine .inl ⟨by omega,(((a.length + 1:Nat):Int),((a.length + 1:Nat):Int),out++[(a.drop fr).take (a.length - fr)]),rfl,.inr ⟨trivial,((a.length + 1:Nat):Int),?_⟩⟩
    rw [← h3,List.drop_length]
    simp [spl,hd1]
   ·have hlt:i < a.length:=by omega
    have e1:((i:Int) == (a.length:Int)) = false:=by
     rw [Bool.eq_false_iff]; simp; omega
    rw [List.drop_eq_getElem_cons hlt] at h3
    simp only [e1,cond_false,getN hlt,obs,u8_47]
    cases hb:a[i] == 47
    ·simp only [cond_false,obs,contO,wi1 (show i≤1099511627776 by omega)]
     rw [hd1_spl hb] at h3
     refine .inl ⟨by omega,_,rfl,.inl ⟨by omega,fr,out,rfl,by omega,by omega,?_⟩⟩
     rw [← h3]
     congr 2
     rw [show i + 1 - fr = (i - fr) + 1 by omega,List.take_add_one,List.getElem?_drop,show fr + (i - fr) = i by omega,List.getElem?_eq_getElem hlt]
     rfl
    ·simp only [cond_true,sub_nat h1 (Nat.le_of_lt hlt),obs,appS (show out.length≤1048577 by omega),contO,wi1 (show i≤1099511627776 by omega)]
     rw [hd1_cut hb] at h3
     refine .inl ⟨by omega,_,rfl,.inl ⟨by omega,i + 1,out++[(a.drop fr).take (i - fr)],rfl,by omega,by simp; omega,?_⟩⟩
     rw [← h3]
     simp [hd1_nil _ (spl_ne 47 (a.drop (i + 1)))]
  ·unfold ms168_0
   have hc:¬ (((a.length + 1:Nat):Int)≤(a.length:Int)):=by omega
   simp only [hc,decide_false,cond_false]
   exact .inr (.inl ⟨_,_,rfl,_,rfl,rfl⟩)) NN 0 (0,0,[]) (Nat.zero_le _) (NN_l (by omega)) (.inl ⟨Nat.zero_le _,0,[],rfl,Nat.le_refl _,Nat.le_refl _,by simp [hd1_nil _ (spl_ne 47 a)]⟩)
 rw [h1]
 simp [contO,h2]
theorem count_le (a:Str):Lib.countByte a 47≤a.length:=List.count_le_length
theorem minI_ok (c n:Nat) (h:c≤n):minI ((c + 1:Nat):Int) ((n + 1:Nat):Int) = ((c + 1:Nat):Int):=by
 unfold minI
 rw [if_neg (by omega)]
theorem split_ok (a:Str) (h:a.length≤1000):m191 a [47] = some (spl 47 a):=by
 unfold m191 m208
 have hcl:=count_le a
 have e0:((-1:Int) == 0) = false:=rfl
 have e1:(([47]:Str) == ([]:Str)) = false:=rfl
 have e2:decide ((-1:Int) < 0) = true:=rfl
 have e3:m190 a [47] = some (Lib.countByte a 47:Int):=rfl
 have e4:wi .i64 ((Lib.countByte a 47:Int) + 1) = ((Lib.countByte a 47 + 1:Nat):Int):=wi1 (by omega)
 have e5:wi .i64 ((a.length:Int) + 1) = ((a.length + 1:Nat):Int):=wi1 (by omega)
 have e6:mkO 16 ((Lib.countByte a 47 + 1:Nat):Int) ([]:Str) = some (List.replicate (Lib.countByte a 47 + 1) []):=by
  unfold mkO
  rw [if_pos ⟨by omega,by rw [Int.toNat_natCast]; omega⟩,Int.toNat_natCast]
 simp only [e0,e1,e2,e3,e4,e5,minI_ok _ _ hcl,e6,cond_false,cond_true,obs,contO]
 obtain ⟨o,h1,s,rfl,h2⟩:=loop_idx (f:=ms208_0 a [47] 0 ((Lib.countByte a 47 + 1:Nat):Int)) (fun i s=>∃ (t:Str) (b:List Str),s = (t,(i:Int),b)∧b.length = Lib.countByte a 47 + 1∧b.take i++spl 47 t = spl 47 a∧Lib.countByte t 47 + i = Lib.countByte a 47∧t.length≤a.length) (Lib.countByte a 47) (fun o=>∃ s,o = .exit 0 s∧∃ (t:Str) (b:List Str),s = (t,(Lib.countByte a 47:Int),b)∧b.length = Lib.countByte a 47 + 1∧b.take (Lib.countByte a 47)++[t] = spl 47 a) (fun i s hi hs=>by
  obtain ⟨t,b,rfl,g1,g2,g3,g4⟩:=hs
  unfold ms208_0
  have e7:wi .i64 (((Lib.countByte a 47 + 1:Nat):Int) - 1) = (Lib.countByte a 47:Int):=by rw [wi64 (by omega) (by omega)]; omega
  dsimp only
  rw [e5,minI_ok _ _ hcl,e7]
  by_cases hc:i < Lib.countByte a 47
  ·have hc':(i:Int) < (Lib.countByte a 47:Int):=by omega
   rcases index_nat 47 t with hn | ⟨m,hm⟩
   ·have:=(index_none 47 t).1 hn; omega
   ·obtain ⟨q1,q2,q3⟩:=spl_at 47 t m hm
    have e8:m189 t [47] = some (m:Int):=by rw [← hm]; rfl
    have e9:¬ ((m:Int) < 0):=by omega
    have e10:wi .i64 ((m:Int) + 0) = (m:Int):=by rw [wi64 (by omega) (by omega)]; omega
    have e11:wi .i64 ((m:Int) + (([47]:Str).length:Int)) = ((m + 1:Nat):Int):=by
     rw [show (([47]:Str).length:Int) = 1 from rfl]; exact wi1 (by omega)
    have e12:subI t 0 (m:Int) = some (t.take m):=by
     have:=sub_nat (xs:=t) (i:=0) (j:=m) (Nat.zero_le _) (by omega)
     simpa using this
    have e13:subI t ((m + 1:Nat):Int) (t.length:Int) = some (t.drop (m + 1)):=by
     rw [sub_nat (by omega) (Nat.le_refl _),List.take_of_length_le (by simp)]
    simp only [hc',decide_true,cond_true,e8,obs,e9,decide_false,cond_false,e10,e11,e12,e13,getN (show i < b.length by omega),Int.toNat_natCast,wi1 (show i≤1099511627776 by omega)]
    refine .inl ⟨hc,_,rfl,_,_,rfl,by simp [g1],?_,by omega,by simp; omega⟩
    rw [← g2,q2]
    rw [List.take_add_one,List.take_set_of_le (Nat.le_refl _),List.getElem?_set,if_pos rfl,if_pos (by omega)]
    simp
  ·have hc':¬ (i:Int) < (Lib.countByte a 47:Int):=by omega
   simp only [hc',decide_false,cond_false]
   have hi2:i = Lib.countByte a 47:=by omega
   refine .inr (.inl ⟨_,_,rfl,_,rfl,t,b,by rw [hi2],g1,?_⟩)
   rw [← g2,spl_none 47 t (by omega),hi2]) NN 0 (a,0,List.replicate (Lib.countByte a 47 + 1) []) (Nat.zero_le _) (NN_l (by omega)) ⟨a,_,rfl,by simp,by simp,by omega,Nat.le_refl _⟩
 obtain ⟨t,b,rfl,g1,g2⟩:=h2
 rw [h1]
 have e14:wi .i64 ((Lib.countByte a 47:Int) + 1) = ((Lib.countByte a 47 + 1:Nat):Int):=e4
 simp only [obs,contO,if_true,getN (show Lib.countByte a 47 < b.length by omega),Int.toNat_natCast,e14]
 have e15:subI (b.set (Lib.countByte a 47) t) 0 ((Lib.countByte a 47 + 1:Nat):Int) = some (spl 47 a):=by
  rw [sub_take (xs:=b.set (Lib.countByte a 47) t) (i:=Lib.countByte a 47 + 1) (by simp [g1]),← g2]
  rw [List.take_add_one,List.take_set_of_le (Nat.le_refl _),List.getElem?_set,if_pos rfl,if_pos (by omega)]
  simp
 rw [e15]; rfl
theorem name_ok (s:Str) (h:s.length≤1048576):∃ b,m185 s = some b:=by
 unfold m185
 obtain ⟨o,h1,h2⟩:=loop_idx (f:=ms185_0 s) (fun i t=>t = (false,(i:Int))) s.length (fun o=>(∃ t,o = .exit 0 t)∨∃ t,o = .ret t) (fun i t hi ht=>by
  subst ht
  unfold ms185_0
  dsimp only
  by_cases hc:i < s.length
  ·have hc':(i:Int) < (s.length:Int):=by omega
   simp only [hc',decide_true,cond_true,getN hc,obs]
   have key:∀ b:Bool,((some (LO.norm b):Option (LO Bool)).bind (contO (fun s4=>
    bif s4 then
     some (LO.ret false)
    else
     some (LO.norm false)) (fun i1 s4=>
    if i1 = 1 then
     some (LO.norm false)
    else
     some (LO.exit i1 false)) (fun s4=>
    some (LO.ret false)))).bind (contO (fun s5=>
   some (LO.norm (s5,wi .i64 ((i:Int) + 1)))) (fun i2 s5=>
   some (LO.exit i2 (s5,(i:Int)))) (fun s5=>
   some (LO.ret (s5,(i:Int))))) = some (LO.norm (false,((i + 1:Nat):Int)))∨((some (LO.norm b):Option (LO Bool)).bind (contO (fun s4=>
    bif s4 then
     some (LO.ret false)
    else
     some (LO.norm false)) (fun i1 s4=>
    if i1 = 1 then
     some (LO.norm false)
    else
     some (LO.exit i1 false)) (fun s4=>
    some (LO.ret false)))).bind (contO (fun s5=>
   some (LO.norm (s5,wi .i64 ((i:Int) + 1)))) (fun i2 s5=>
   some (LO.exit i2 (s5,(i:Int)))) (fun s5=>
   some (LO.ret (s5,(i:Int))))) = some (LO.ret (false,(i:Int))):=fun b=>by
    cases b
    ·left; simp only [cond_false,obs,contO,wi1 (show i≤1099511627776 by omega)]
    ·right; rfl
   have tree:∀ a b c d:Bool,∃ e,(bif a then bif c then some (LO.norm true) else some (LO.norm d) else bif b then bif c then some (LO.norm true) else some (LO.norm d) else some (LO.norm false)) = (some (LO.norm e):Option (LO Bool)):=fun a b c d=>by
    cases a <;> cases b <;> cases c <;> exact ⟨_,rfl⟩
   obtain ⟨e,he⟩:=tree (decide ((s[i].toNat:Int) < 97)) (decide ((s[i].toNat:Int) > 122)) (decide ((s[i].toNat:Int) < 48)) (decide ((s[i].toNat:Int) > 57))
   rw [he]
   rcases key e with k | k
   ·exact .inl ⟨hc,_,k,rfl⟩
   ·exact .inr (.inr ⟨_,k,.inr ⟨_,rfl⟩⟩)
  ·have hc':¬ (i:Int) < (s.length:Int):=by omega
   simp only [hc',decide_false,cond_false]
   exact .inr (.inl ⟨_,_,rfl,.inl ⟨_,rfl⟩⟩)) NN 0 (false,0) (Nat.zero_le _) (NN_l h) rfl
 rw [h1]
 rcases h2 with ⟨t,rfl⟩ | ⟨t,rfl⟩
 ·exact ⟨_,rfl⟩
 ·exact ⟨_,rfl⟩
noncomputable def nameB (s:Str):Bool:=(m185 s).getD false
theorem name1 (s:Str) (h:s.length≤1048576):m185 s = some (nameB s):=by
 obtain ⟨b,hb⟩:=name_ok s h
 unfold nameB; rw [hb]; rfl
theorem name2 (s:Str) (h:s.length≤1048576):m192 s = some (nameB s):=(rfl:m192 s = m185 s).trans (name1 s h)
theorem spl_small (c:UInt8):∀ (a:Str),∀ x∈spl c a,x.length≤a.length
 | [],x,hx=>by
  simp [spl] at hx; subst hx; simp
 | b::r,x,hx=>by
  have ih:=spl_small c r
  unfold spl at hx
  by_cases e:(b == c) = true
  ·rw [if_pos e] at hx
   rcases List.mem_cons.1 hx with rfl | hx
   ·simp
   ·have:=ih x hx; simp; omega
  ·rw [if_neg e] at hx
   obtain ⟨h,t,e2⟩:=spl_cons c r
   rw [e2] at hx ih
   rcases List.mem_cons.1 hx with rfl | hx
   ·have:=ih h (by simp); simp; omega
   ·have:=ih x (by simp [hx]); simp; omega
noncomputable def badName (x:Str):Bool:=!nameB x
noncomputable def pathCode (a:Str):Int:=bif decide ((a.length:Int) > 24) then 2 else bif decide ((Lib.countByte a 47:Int) > 4) then 2 else bif a == ([47]:Str) then 0 else bif decide (((spl 47 a).length:Int) < 2) then 5 else bif !((spl 47 a).headD [] == ([]:Str)) then 5 else bif ((spl 47 a).drop 1).any badName then 5 else 0
theorem head_spl (a:Str):getI (spl 47 a) 0 = some ((spl 47 a).headD []):=by
 obtain ⟨h,t,e⟩:=spl_cons 47 a
 rw [e]; rfl
theorem path_impl (a:Str):m180 a = some (pathCode a):=by
 unfold m180 pathCode
 by_cases hl:(a.length:Int) > 24
 ·simp only [hl,decide_true,cond_true,obs,contO]
 simp only [hl,decide_false,cond_false]
 rw [show m190 a [47] = some (Lib.countByte a 47:Int) from rfl,obs]
 cases decide ((Lib.countByte a 47:Int) > 4)
 rotate_left
 ·rfl
 simp only [cond_false,obs,contO]
 cases a == ([47]:Str)
 rotate_left
 ·rfl
 simp only [cond_false,split_ok a (by omega),obs]
 cases hw:decide (((spl 47 a).length:Int) < 2)
 rotate_left
 ·rfl
 simp only [cond_false,head_spl,obs]
 cases !((spl 47 a).headD [] == ([]:Str))
 rotate_left
 ·rfl
 have hsl:=spl_len 47 a
 have hcl:=count_le a
 have e1:subI (spl 47 a) 1 ((spl 47 a).length:Int) = some ((spl 47 a).drop 1):=by
  unfold subI
  rw [if_pos ⟨by omega,by omega,by omega⟩]
  rw [List.take_of_length_le (by simp)]
  rfl
 simp only [cond_false,obs,contO,e1]
 have hdl:((spl 47 a).drop 1).length≤1048576:=by simp; omega
 rw [loop_first (f:=ms180_0 ((spl 47 a).drop 1)) (s0:=(0,0)) (fun i=>(0,(i:Int))) ((spl 47 a).drop 1).length (pAt badName ((spl 47 a).drop 1)) (fun i=>.ret (5,(i:Int))) (.exit 0 (0,(((spl 47 a).drop 1).length:Int))) (fun i hi _ hp=>?_) (fun i hi _ hp=>?_) (fun _=>?_) (NN_l hdl) rfl]
 ·rw [← fst_any]
  cases fstN (pAt badName ((spl 47 a).drop 1)) ((spl 47 a).drop 1).length <;> rfl
 ·rw [pAt_get hi] at hp
  have hc':(i:Int) < (((spl 47 a).drop 1).length:Int):=by omega
  have hx:=spl_small 47 a _ (List.mem_of_mem_drop (List.getElem_mem hi))
  unfold ms180_0
  unfold badName at hp
  simp only [hc',decide_true,cond_true,getN hi,obs,name2 _ (show ((spl 47 a).drop 1)[i].length≤1048576 by omega),hp,cond_false,wi1 (show i≤1099511627776 by omega)]
 ·rw [pAt_get hi] at hp
  have hc':(i:Int) < (((spl 47 a).drop 1).length:Int):=by omega
  have hx:=spl_small 47 a _ (List.mem_of_mem_drop (List.getElem_mem hi))
  unfold ms180_0
  unfold badName at hp
  simp only [hc',decide_true,cond_true,getN hi,obs,name2 _ (show ((spl 47 a).drop 1)[i].length≤1048576 by omega),hp]
  exact ⟨trivial,rfl⟩
 ·unfold ms180_0
  simp only [Int.lt_irrefl,decide_false,cond_false]
  exact ⟨trivial,rfl⟩
theorem names_spec (a:Str) (h:a.length≤24) (hs:(a == ([47]:Str)) = false):∃ l,m169 a = some (l,!(bif decide (((spl 47 a).length:Int) < 2) then true else bif !((spl 47 a).headD [] == ([]:Str)) then true else ((spl 47 a).drop 1).any badName)):=by
 unfold m169
 rw [hs,cond_false,cut_ok a (by omega),obs]
 cases hw:decide (((spl 47 a).length:Int) < 2)
 rotate_left
 ·exact ⟨_,rfl⟩
 simp only [cond_false,head_spl,obs]
 cases !((spl 47 a).headD [] == ([]:Str))
 rotate_left
 ·exact ⟨_,rfl⟩
 have hsl:=spl_len 47 a
 have hcl:=count_le a
 have e1:subI (spl 47 a) 1 ((spl 47 a).length:Int) = some ((spl 47 a).drop 1):=by
  unfold subI
  rw [if_pos ⟨by omega,by omega,by omega⟩]
  rw [List.take_of_length_le (by simp)]
  rfl
 simp only [cond_false,obs,contO]
 have hdl:((spl 47 a).drop 1).length≤1048576:=by simp; omega
 have hdl2:((spl 47 a).drop 1).length + 1 = (spl 47 a).length:=by simp; omega
 rw [loop_first (f:=ms169_0 (spl 47 a)) (s0:=([],false,1)) (fun i=>([],false,(i:Int) + 1)) ((spl 47 a).drop 1).length (pAt badName ((spl 47 a).drop 1)) (fun i=>.ret ([],false,(i:Int) + 1)) (.exit 0 ([],false,(((spl 47 a).drop 1).length:Int) + 1)) (fun i hi _ hp=>?_) (fun i hi _ hp=>?_) (fun _=>?_) (NN_l hdl) rfl]
 ·rw [← fst_any]
  cases fstN (pAt badName ((spl 47 a).drop 1)) ((spl 47 a).drop 1).length
  ·exact ⟨_,by simp only [orF,obs,contO,if_true,e1,Option.isSome_none]; rfl⟩
  ·exact ⟨_,rfl⟩
 ·rw [pAt_get hi] at hp
  have hc':(i:Int) + 1 < ((spl 47 a).length:Int):=by omega
  have hx:=spl_small 47 a _ (List.mem_of_mem_drop (List.getElem_mem hi))
  have g1:getI (spl 47 a) ((i:Int) + 1) = some ((spl 47 a).drop 1)[i]:=by
   rw [show ((i:Int) + 1) = ((i + 1:Nat):Int) by omega,getN (show i + 1 < (spl 47 a).length by omega)]
   simp [Nat.add_comm]
  unfold ms169_0
  unfold badName at hp
  simp only [hc',decide_true,cond_true,g1,obs,name1 _ (show ((spl 47 a).drop 1)[i].length≤1048576 by omega),hp,cond_false,wi_next (show i≤1048576 by omega)]
 ·rw [pAt_get hi] at hp
  have hc':(i:Int) + 1 < ((spl 47 a).length:Int):=by omega
  have hx:=spl_small 47 a _ (List.mem_of_mem_drop (List.getElem_mem hi))
  have g1:getI (spl 47 a) ((i:Int) + 1) = some ((spl 47 a).drop 1)[i]:=by
   rw [show ((i:Int) + 1) = ((i + 1:Nat):Int) by omega,getN (show i + 1 < (spl 47 a).length by omega)]
   simp [Nat.add_comm]
  unfold ms169_0
  unfold badName at hp
  simp only [hc',decide_true,cond_true,g1,obs,name1 _ (show ((spl 47 a).drop 1)[i].length≤1048576 by omega),hp]
  exact ⟨trivial,rfl⟩
 ·have hc':¬ ((((spl 47 a).drop 1).length:Int) + 1 < ((spl 47 a).length:Int)):=by omega
  unfold ms169_0
  simp only [hc',decide_false,cond_false]
  exact ⟨trivial,rfl⟩
theorem path_spec (a:Str):m138 a = some (pathCode a):=by
 unfold m138 pathCode
 by_cases hl:(a.length:Int) > 24
 ·simp only [hl,decide_true,cond_true,obs,contO]
 simp only [hl,decide_false,cond_false]
 cases hs:a == ([47]:Str)
 rotate_left
 ·have e:a = [47]:=by simpa using hs
  subst e
  rfl
 have hsl:=spl_len 47 a
 obtain ⟨l,hn⟩:=names_spec a (by omega) hs
 have e5:decide (((spl 47 a).length:Int) > 5) = decide ((Lib.countByte a 47:Int) > 4):=decide_eq_decide.2 (by omega)
 simp only [Bool.not_false,cond_true,cut_ok a (by omega),obs,e5,contO]
 cases decide ((Lib.countByte a 47:Int) > 4)
 rotate_left
 ·rfl
 simp only [cond_false,obs,contO,hn]
 cases decide (((spl 47 a).length:Int) < 2)
 rotate_left
 ·rfl
 cases !((spl 47 a).headD [] == ([]:Str))
 rotate_left
 ·rfl
 cases ((spl 47 a).drop 1).any badName <;> rfl
open Go Go.Rf
set_option linter.unusedVariables false
set_option linter.unusedSimpArgs false
theorem hn1_p:m178 ([112]:Str) ((m177 1).2) = some true:=rfl
theorem hn1_d:m178 ([100]:Str) ((m177 1).2) = some true:=rfl
theorem hn1_v:m178 ([118]:Str) ((m177 1).2) = some true:=rfl
theorem hn1_s:m178 ([115]:Str) ((m177 1).2) = some true:=rfl
theorem hn1_o:m178 ([111]:Str) ((m177 1).2) = some true:=rfl
theorem kp1:m135 1 = false:=rfl
theorem kd1:m136 1 = false:=rfl
theorem kv1:m137 1 = some false:=rfl
theorem ki1:m101 1 1 8 = true:=rfl
theorem kj1:m148 1 1 8 = true:=rfl
theorem k31:((1:Int) != 3) = true:=rfl
theorem hn2_p:m178 ([112]:Str) ((m177 2).2) = some true:=rfl
theorem hn2_d:m178 ([100]:Str) ((m177 2).2) = some true:=rfl
theorem hn2_v:m178 ([118]:Str) ((m177 2).2) = some true:=rfl
theorem hn2_s:m178 ([115]:Str) ((m177 2).2) = some true:=rfl
theorem hn2_o:m178 ([111]:Str) ((m177 2).2) = some true:=rfl
theorem kp2:m135 2 = false:=rfl
theorem kd2:m136 2 = false:=rfl
theorem kv2:m137 2 = some false:=rfl
theorem ki2:m101 2 1 8 = true:=rfl
theorem kj2:m148 2 1 8 = true:=rfl
theorem k32:((2:Int) != 3) = true:=rfl
theorem hn3_p:m178 ([112]:Str) ((m177 3).2) = some false:=rfl
theorem hn3_d:m178 ([100]:Str) ((m177 3).2) = some false:=rfl
theorem hn3_v:m178 ([118]:Str) ((m177 3).2) = some true:=rfl
theorem hn3_s:m178 ([115]:Str) ((m177 3).2) = some false:=rfl
theorem hn3_o:m178 ([111]:Str) ((m177 3).2) = some false:=rfl
theorem kp3:m135 3 = true:=rfl
theorem kd3:m136 3 = true:=rfl
theorem kv3:m137 3 = some false:=rfl
theorem ki3:m101 3 1 8 = true:=rfl
theorem kj3:m148 3 1 8 = true:=rfl
theorem k33:((3:Int) != 3) = false:=rfl
theorem hn4_p:m178 ([112]:Str) ((m177 4).2) = some false:=rfl
theorem hn4_d:m178 ([100]:Str) ((m177 4).2) = some true:=rfl
theorem hn4_v:m178 ([118]:Str) ((m177 4).2) = some false:=rfl
theorem hn4_s:m178 ([115]:Str) ((m177 4).2) = some true:=rfl
theorem hn4_o:m178 ([111]:Str) ((m177 4).2) = some true:=rfl
theorem kp4:m135 4 = true:=rfl
theorem kd4:m136 4 = false:=rfl
theorem kv4:m137 4 = some true:=rfl
theorem ki4:m101 4 1 8 = true:=rfl
theorem kj4:m148 4 1 8 = true:=rfl
theorem k34:((4:Int) != 3) = true:=rfl
theorem hn5_p:m178 ([112]:Str) ((m177 5).2) = some false:=rfl
theorem hn5_d:m178 ([100]:Str) ((m177 5).2) = some false:=rfl
theorem hn5_v:m178 ([118]:Str) ((m177 5).2) = some false:=rfl
theorem hn5_s:m178 ([115]:Str) ((m177 5).2) = some true:=rfl
theorem hn5_o:m178 ([111]:Str) ((m177 5).2) = some true:=rfl
theorem kp5:m135 5 = true:=rfl
theorem kd5:m136 5 = true:=rfl
theorem kv5:m137 5 = some true:=rfl
theorem ki5:m101 5 1 8 = true:=rfl
theorem kj5:m148 5 1 8 = true:=rfl
theorem k35:((5:Int) != 3) = true:=rfl
theorem hn6_p:m178 ([112]:Str) ((m177 6).2) = some false:=rfl
theorem hn6_d:m178 ([100]:Str) ((m177 6).2) = some true:=rfl
theorem hn6_v:m178 ([118]:Str) ((m177 6).2) = some true:=rfl
theorem hn6_s:m178 ([115]:Str) ((m177 6).2) = some true:=rfl
theorem hn6_o:m178 ([111]:Str) ((m177 6).2) = some true:=rfl
theorem kp6:m135 6 = true:=rfl
theorem kd6:m136 6 = false:=rfl
theorem kv6:m137 6 = some false:=rfl
theorem ki6:m101 6 1 8 = true:=rfl
theorem kj6:m148 6 1 8 = true:=rfl
theorem k36:((6:Int) != 3) = true:=rfl
theorem hn7_p:m178 ([112]:Str) ((m177 7).2) = some false:=rfl
theorem hn7_d:m178 ([100]:Str) ((m177 7).2) = some true:=rfl
theorem hn7_v:m178 ([118]:Str) ((m177 7).2) = some true:=rfl
theorem hn7_s:m178 ([115]:Str) ((m177 7).2) = some true:=rfl
theorem hn7_o:m178 ([111]:Str) ((m177 7).2) = some true:=rfl
theorem kp7:m135 7 = true:=rfl
theorem kd7:m136 7 = false:=rfl
theorem kv7:m137 7 = some false:=rfl
theorem ki7:m101 7 1 8 = true:=rfl
theorem kj7:m148 7 1 8 = true:=rfl
theorem k37:((7:Int) != 3) = true:=rfl
theorem hn8_p:m178 ([112]:Str) ((m177 8).2) = some false:=rfl
theorem hn8_d:m178 ([100]:Str) ((m177 8).2) = some true:=rfl
theorem hn8_v:m178 ([118]:Str) ((m177 8).2) = some false:=rfl
theorem hn8_s:m178 ([115]:Str) ((m177 8).2) = some true:=rfl
theorem hn8_o:m178 ([111]:Str) ((m177 8).2) = some true:=rfl
theorem kp8:m135 8 = true:=rfl
theorem kd8:m136 8 = false:=rfl
theorem kv8:m137 8 = some true:=rfl
theorem ki8:m101 8 1 8 = true:=rfl
theorem kj8:m148 8 1 8 = true:=rfl
theorem k38:((8:Int) != 3) = true:=rfl
theorem op_tailS (path:Str) (d v s4:Int):∃ y,((m138 path).bind fun y5=>
     bif y5 != 0 then
      some (LO.ret y5)
     else
      some (LO.norm s4)).bind (contO (fun s6=>
    (
     bif !(m139 d) then
      some (LO.ret 3)
     else
      bif !(m101 v (-1) 999) then
       some (LO.ret 3)
      else
       some (LO.norm s6)).bind (contO (fun s8=>
     some (0:Int)) (fun i4 s8=>
     none) (fun s8=>
     some s8))) (fun i3 s6=>
    none) (fun s6=>
    some s6)) = some y∧((m180 path).bind fun y33=>
  bif y33 != 0 then
   some y33
  else
   (
    bif !(m181 d) then
     some (LO.ret 3)
    else
     bif !(m148 v (-1) 999) then
      some (LO.ret 3)
     else
      some (LO.norm s4)).bind (contO (fun s6=>
    some (0:Int)) (fun i3 s6=>
    none) (fun s6=>
    some s6))) = some y:=by
 rw [path_spec,path_impl,in1,in2,show m139 d = inR d 0 9999 from in1 _ _ _,show m181 d = inR d 0 9999 from in1 _ _ _]
 simp only [obs]
 cases pathCode path != 0
 ·cases inR d 0 9999
  ·exact ⟨_,rfl,rfl⟩
  ·cases inR v (-1) 999 <;> exact ⟨_,rfl,rfl⟩
 ·exact ⟨_,rfl,rfl⟩
theorem op_eq (o:TOp):∃ y,m103 o = some y∧m152 o = some y∧(y = 0→1≤o.Kind):=by
 by_cases hk:1≤o.Kind∧o.Kind≤8
 rotate_left
 ·have h1:m101 o.Kind 1 8 = false:=by rw [in1]; exact Bool.eq_false_iff.2 fun h=>hk (inR_t.1 h)
  have h2:m148 o.Kind 1 8 = false:=by rw [in2]; exact Bool.eq_false_iff.2 fun h=>hk (inR_t.1 h)
  refine ⟨1,?_,?_,fun h=>by cases h⟩
  ·unfold m103; rw [h1]; rfl
  ·unfold m152; rw [h2]; rfl
 suffices h:∃ y,m103 o = some y∧m152 o = some y by
  obtain ⟨y,a,b⟩:=h
  exact ⟨y,a,b,fun _=>hk.1⟩
 obtain ⟨k,path,d,v,sq,ow⟩:=o
 unfold m103 m152
 dsimp only at hk ⊢
 have hk8:k = 1∨k = 2∨k = 3∨k = 4∨k = 5∨k = 6∨k = 7∨k = 8:=by omega
 have fin:∀ (d v:Int),(d != 0) = false→(v != 0) = false→m139 d = true∧m101 v (-1) 999 = true:=fun d v h1 h2=>by
  have e1:d = 0:=by simpa using h1
  have e2:v = 0:=by simpa using h2
  subst e1; subst e2; exact ⟨rfl,rfl⟩
 rcases hk8 with rfl | rfl | rfl | rfl | rfl | rfl | rfl | rfl
 ·simp only [hn1_p,hn1_d,hn1_v,hn1_s,hn1_o,kp1,kd1,kv1,ki1,kj1,k31,Bool.not_true,Bool.not_false,cond_true,cond_false,obs]
  cases path == ([]:Str)
  ·exact ⟨_,rfl,rfl⟩
  cases h2:d != 0
  rotate_left
  ·exact ⟨_,rfl,rfl⟩
  cases h3:v != 0
  rotate_left
  ·exact ⟨_,rfl,rfl⟩
  cases sq
  rotate_left
  ·exact ⟨_,rfl,rfl⟩
  cases ow
  rotate_left
  ·exact ⟨_,rfl,rfl⟩
  obtain ⟨f1,f2⟩:=fin d v h2 h3
  simp only [Bool.not_true,Bool.not_false,cond_true,cond_false,obs,contO,f1,f2]
  exact ⟨_,rfl,rfl⟩
 ·simp only [hn2_p,hn2_d,hn2_v,hn2_s,hn2_o,kp2,kd2,kv2,ki2,kj2,k32,Bool.not_true,Bool.not_false,cond_true,cond_false,obs]
  cases path == ([]:Str)
  ·exact ⟨_,rfl,rfl⟩
  cases h2:d != 0
  rotate_left
  ·exact ⟨_,rfl,rfl⟩
  cases h3:v != 0
  rotate_left
  ·exact ⟨_,rfl,rfl⟩
  cases sq
  rotate_left
  ·exact ⟨_,rfl,rfl⟩
  cases ow
  rotate_left
  ·exact ⟨_,rfl,rfl⟩
  obtain ⟨f1,f2⟩:=fin d v h2 h3
  simp only [Bool.not_true,Bool.not_false,cond_true,cond_false,obs,contO,f1,f2]
  exact ⟨_,rfl,rfl⟩
 ·simp only [hn3_p,hn3_d,hn3_v,hn3_s,hn3_o,kp3,kd3,kv3,ki3,kj3,k33,Bool.not_true,Bool.not_false,cond_true,cond_false,obs]
  cases v != 0
  rotate_left
  ·exact ⟨_,rfl,rfl⟩
  simp only [Bool.not_true,Bool.not_false,cond_true,cond_false,obs,contO]
  exact op_tailS path d v 0
 ·simp only [hn4_p,hn4_d,hn4_v,hn4_s,hn4_o,kp4,kd4,kv4,ki4,kj4,k34,Bool.not_true,Bool.not_false,cond_true,cond_false,obs]
  cases d != 0
  rotate_left
  ·exact ⟨_,rfl,rfl⟩
  cases sq
  rotate_left
  ·exact ⟨_,rfl,rfl⟩
  cases ow
  rotate_left
  ·exact ⟨_,rfl,rfl⟩
  simp only [Bool.not_true,Bool.not_false,cond_true,cond_false,obs,contO]
  exact op_tailS path d v 0
 ·simp only [hn5_p,hn5_d,hn5_v,hn5_s,hn5_o,kp5,kd5,kv5,ki5,kj5,k35,Bool.not_true,Bool.not_false,cond_true,cond_false,obs]
  cases sq
  rotate_left
  ·exact ⟨_,rfl,rfl⟩
  cases ow
  rotate_left
  ·exact ⟨_,rfl,rfl⟩
  simp only [Bool.not_true,Bool.not_false,cond_true,cond_false,obs,contO]
  exact op_tailS path d v 0
 ·simp only [hn6_p,hn6_d,hn6_v,hn6_s,hn6_o,kp6,kd6,kv6,ki6,kj6,k36,Bool.not_true,Bool.not_false,cond_true,cond_false,obs]
  cases d != 0
  rotate_left
  ·exact ⟨_,rfl,rfl⟩
  cases v != 0
  rotate_left
  ·exact ⟨_,rfl,rfl⟩
  cases sq
  rotate_left
  ·exact ⟨_,rfl,rfl⟩
  cases ow
  rotate_left
  ·exact ⟨_,rfl,rfl⟩
  simp only [Bool.not_true,Bool.not_false,cond_true,cond_false,obs,contO]
  exact op_tailS path d v 0
 ·simp only [hn7_p,hn7_d,hn7_v,hn7_s,hn7_o,kp7,kd7,kv7,ki7,kj7,k37,Bool.not_true,Bool.not_false,cond_true,cond_false,obs]
  cases d != 0
  rotate_left
  ·exact ⟨_,rfl,rfl⟩
  cases v != 0
  rotate_left
  ·exact ⟨_,rfl,rfl⟩
  cases sq
  rotate_left
  ·exact ⟨_,rfl,rfl⟩
  cases ow
  rotate_left
  ·exact ⟨_,rfl,rfl⟩
  simp only [Bool.not_true,Bool.not_false,cond_true,cond_false,obs,contO]
  exact op_tailS path d v 0
 ·simp only [hn8_p,hn8_d,hn8_v,hn8_s,hn8_o,kp8,kd8,kv8,ki8,kj8,k38,Bool.not_true,Bool.not_false,cond_true,cond_false,obs]
  cases d != 0
  rotate_left
  ·exact ⟨_,rfl,rfl⟩
  cases sq
  rotate_left
  ·exact ⟨_,rfl,rfl⟩
  cases ow
  rotate_left
  ·exact ⟨_,rfl,rfl⟩
  simp only [Bool.not_true,Bool.not_false,cond_true,cond_false,obs,contO]
  exact op_tailS path d v 0
noncomputable def opCode (o:TOp):Int:=(m103 o).getD 0
theorem op1 (o:TOp):m103 o = some (opCode o):=by
 obtain ⟨y,h,_⟩:=op_eq o
 unfold opCode; rw [h]; rfl
theorem op2 (o:TOp):m152 o = some (opCode o):=by
 obtain ⟨y,h,k,_⟩:=op_eq o
 unfold opCode; rw [h,k]; rfl
theorem op3 (o:TOp) (h:opCode o = 0):1≤o.Kind:=by
 obtain ⟨y,h1,k,h2⟩:=op_eq o
 unfold opCode at h; rw [h1] at h
 exact h2 h
noncomputable def opBad (o:TOp):Bool:=opCode o != 0
def onceB (o:TOp):Bool:=decide (o.Kind≤2)
theorem opsS (r:TRequest) (h:r.Ops.length≤3):(r.Ops.any opBad = false∧∃ j,loopO (ms71_0 r) NN (0,0) = some (.exit 0 (0,j))∧loopO (ms116_0 r) NN (0,0) = some (.exit 1 (0,j)))∨(r.Ops.any opBad = true∧∃ y j,loopO (ms71_0 r) NN (0,0) = some (.ret (y,j))∧loopO (ms116_0 r) NN (0,0) = some (.ret (y,j))):=by
 have k1:=loop_first (f:=ms71_0 r) (N:=NN) (s0:=(0,0)) (fun i=>(0,(i:Int))) r.Ops.length (pAt opBad r.Ops) (fun i=>.ret (((r.Ops[i]?).map opCode).getD 0,(i:Int))) (.exit 0 (0,(r.Ops.length:Int))) (fun i hi _ hp=>by
   rw [pAt_get hi] at hp
   unfold opBad at hp
   have hc':(i:Int) < (r.Ops.length:Int):=by omega
   unfold ms71_0
   simp only [hc',decide_true,cond_true,getN hi,obs,op1,hp,cond_false,wi1 (show i≤1099511627776 by omega)]) (fun i hi _ hp=>by
   rw [pAt_get hi] at hp
   unfold opBad at hp
   have hc':(i:Int) < (r.Ops.length:Int):=by omega
   unfold ms71_0
   rw [List.getElem?_eq_getElem hi]
   simp only [hc',decide_true,cond_true,getN hi,obs,op1,hp,Option.map_some,Option.getD_some]
   exact ⟨trivial,rfl⟩) (fun _=>by
   unfold ms71_0
   simp only [Int.lt_irrefl,decide_false,cond_false]
   exact ⟨trivial,rfl⟩) (NN_l (by omega)) rfl
 have k2:=loop_first (f:=ms116_0 r) (N:=NN) (s0:=(0,0)) (fun i=>(0,(i:Int))) r.Ops.length (pAt opBad r.Ops) (fun i=>.ret (((r.Ops[i]?).map opCode).getD 0,(i:Int))) (.exit 1 (0,(r.Ops.length:Int))) (fun i hi _ hp=>by
   rw [pAt_get hi] at hp
   unfold opBad at hp
   have hc':(i:Int) < (r.Ops.length:Int):=by omega
   unfold ms116_0
   simp only [hc',decide_true,cond_true,getN hi,obs,op2,hp,cond_false,wi1 (show i≤1099511627776 by omega)]) (fun i hi _ hp=>by
   rw [pAt_get hi] at hp
   unfold opBad at hp
   have hc':(i:Int) < (r.Ops.length:Int):=by omega
   unfold ms116_0
   rw [List.getElem?_eq_getElem hi]
   simp only [hc',decide_true,cond_true,getN hi,obs,op2,hp,Option.map_some,Option.getD_some]
   exact ⟨trivial,rfl⟩) (fun _=>by
   unfold ms116_0
   simp only [Int.lt_irrefl,decide_false,cond_false]
   exact ⟨trivial,rfl⟩) (NN_l (by omega)) rfl
 rw [k1,k2,← fst_any]
 cases fstN (pAt opBad r.Ops) r.Ops.length
 ·exact .inl ⟨rfl,_,rfl,rfl⟩
 ·exact .inr ⟨rfl,_,_,rfl,rfl⟩
theorem onceS (r:TRequest) (h:r.Ops.length≤3) (hl:(r.Ops.length:Int) > 1):∃ s,loopO (ms71_1 r) NN (0,0) = some (bif r.Ops.any onceB then .ret (1,s) else .exit 2 (0,s)):=by
 rw [loop_first (f:=ms71_1 r) (N:=NN) (s0:=(0,0)) (fun i=>(0,(i:Int))) r.Ops.length (pAt onceB r.Ops) (fun i=>.ret (1,(i:Int))) (.exit 2 (0,(r.Ops.length:Int))) (fun i hi _ hp=>by
   rw [pAt_get hi] at hp
   unfold onceB at hp
   have hc':(i:Int) < (r.Ops.length:Int):=by omega
   unfold ms71_1
   simp only [hc',hl,decide_true,cond_true,getN hi,obs,contO,hp,cond_false,wi1 (show i≤1099511627776 by omega)]) (fun i hi _ hp=>by
   rw [pAt_get hi] at hp
   unfold onceB at hp
   have hc':(i:Int) < (r.Ops.length:Int):=by omega
   unfold ms71_1
   simp only [hc',hl,decide_true,cond_true,getN hi,obs,contO,hp]
   exact ⟨trivial,rfl⟩) (fun _=>by
   unfold ms71_1
   simp only [Int.lt_irrefl,decide_false,cond_false,obs,contO]
   exact ⟨trivial,rfl⟩) (NN_l (by omega)) rfl,← fst_any]
 cases fstN (pAt onceB r.Ops) r.Ops.length <;> exact ⟨_,rfl⟩
theorem req_eq (r:TRequest):∃ y,m71 r = some y∧m116 r = some y:=by
 unfold m71 m116
 rw [tr_cert,tr_cert]
 simp only [obs,contO]
 rw [show m100 r.Client = inR r.Client 1 9 from in1 _ _ _,show m150 r.Client = inR r.Client 1 9 from in1 _ _ _,in1,in2,show m102 r.Time = inR r.Time 0 9000 from in1 _ _ _,show m151 r.Time = inR r.Time 0 9000 from in1 _ _ _,in2]
 cases (!inR r.Client 1 9 || (!inR r.Number 1 99 || !inR r.Time 0 9000))
 rotate_left
 ·exact ⟨_,rfl,rfl⟩
 simp only [cond_false,obs,contO]
 by_cases h1:(r.Ops.length:Int) < 1
 ·have e:inR (r.Ops.length:Int) 1 3 = false:=Bool.eq_false_iff.2 fun h=>by have:=inR_t.1 h; omega
  simp only [h1,e,decide_true,cond_true,Bool.not_false,obs,contO]
  exact ⟨_,rfl,rfl⟩
 by_cases h2:(r.Ops.length:Int) > 3
 ·have e:inR (r.Ops.length:Int) 1 3 = false:=Bool.eq_false_iff.2 fun h=>by have:=inR_t.1 h; omega
  simp only [h1,h2,e,decide_true,decide_false,cond_true,cond_false,Bool.not_false,obs,contO]
  exact ⟨_,rfl,rfl⟩
 have e:inR (r.Ops.length:Int) 1 3 = true:=inR_t.2 ⟨by omega,by omega⟩
 simp only [h1,h2,e,decide_false,cond_false,Bool.not_true,obs,contO]
 rcases opsS r (by omega) with ⟨g,j,k1,k2⟩ | ⟨g,y,j,k1,k2⟩
 rotate_left
 ·rw [k1,k2]; exact ⟨_,rfl,rfl⟩
 rw [k1,k2]
 simp only [obs,contO,if_true]
 by_cases hl:(r.Ops.length:Int) > 1
 rotate_left
 ·have hx:loopO (ms71_1 r) NN (0,0) = some (.exit 2 (0,0)):=by
   refine loop_stop (by have:=NN_l (n:=0) (by omega); omega) ?_ rfl
   unfold ms71_1
   have h0:(0:Int) < (r.Ops.length:Int):=by omega
   simp only [h0,hl,decide_true,decide_false,cond_true,cond_false,obs,contO]
  rw [hx]
  simp only [hl,decide_false,cond_false,obs,contO,if_true]
  exact ⟨_,rfl,rfl⟩
 obtain ⟨s,hs⟩:=onceS r (by omega) hl
 rw [hs]
 have e3:m153 r.Ops (fun x0_=>some (m154 x0_)) = some (r.Ops.any onceB):=gCF_ok (NN_l (by omega)) (big_l (by omega)) (fun o ho=>by
  congr 1
  have h0:opCode o = 0:=by
   rw [List.any_eq_false] at g
   have:=g o ho
   unfold opBad at this
   simpa using this
  have h1:=op3 o h0
  unfold m154 onceB
  by_cases e1:o.Kind = 1
  ·rw [e1]; rfl
  ·by_cases e2:o.Kind = 2
   ·rw [e2]; rfl
   ·have e4:(o.Kind == 1) = false:=by simpa using e1
    have e5:(o.Kind == 2) = false:=by simpa using e2
    rw [e4,e5]
    symm
    exact decide_eq_false (by omega))
 simp only [hl,decide_true,cond_true,e3,obs]
 cases r.Ops.any onceB <;> exact ⟨_,rfl,rfl⟩
noncomputable def reqCode (r:TRequest):Int:=(m71 r).getD 0
theorem req1 (r:TRequest):m71 r = some (reqCode r):=by
 obtain ⟨y,h,_⟩:=req_eq r
 unfold reqCode; rw [h]; rfl
theorem req2 (r:TRequest):m116 r = some (reqCode r):=by
 obtain ⟨y,h,k⟩:=req_eq r
 unfold reqCode; rw [h,k]; rfl
open Go Go.Rf
set_option linter.unusedVariables false
set_option linter.unusedSimpArgs false
def sameR (y x:TRequest):Bool:=(x.Client == y.Client) && (x.Number == y.Number)
theorem first_at {α:Type} {q:α→Bool} {xs:List α} {i:Nat} (h:i < xs.length) (hq:q xs[i] = true):(ixI (fstN (pAt q xs) xs.length) != (i:Int)) = (xs.take i).any q:=by
 cases hm:(xs.take i).any q
 ·rw [List.any_eq_false] at hm
  rw [fstN_some h (fun j hj=>by
   rw [pAt_get (by omega)]
   have:=hm xs[j] (List.mem_iff_getElem.2 ⟨j,by rw [List.length_take]; omega,by rw [List.getElem_take]⟩)
   simpa using this) (by rw [pAt_get h]; exact hq)]
  simp [ixI]
 ·rw [List.any_eq_true] at hm
  obtain ⟨x,hx,hqx⟩:=hm
  obtain ⟨j,hj,e⟩:=List.mem_iff_getElem.1 hx
  rw [List.length_take] at hj
  rw [List.getElem_take] at e
  rcases fst_cases (pAt q xs) xs.length with h' | ⟨k,h1,h2,h3⟩
  ·have:=h' j (by omega)
   rw [pAt_get (by omega),e,hqx] at this
   cases this
  ·rw [fstN_some h1 h2 h3]
   have hk:k≤j:=by
    rcases Nat.lt_or_ge j k with hlt | hge
    ·have:=h2 j hlt
     rw [pAt_get (by omega),e,hqx] at this
     cases this
    ·exact hge
   simp only [ixI,bne_iff_ne,ne_eq]
   omega
theorem asked_ok (xs:List TRequest) (y:TRequest) (h:xs.length≤1048576):m72 xs y.Client y.Number = some (ixI (fstN (pAt (sameR y) xs) xs.length)):=by
 unfold m72
 rw [loop_first (f:=ms72_0 xs y.Client y.Number) (s0:=(0,0)) (fun i=>(0,(i:Int))) xs.length (pAt (sameR y) xs) (fun i=>.ret ((i:Int),(i:Int))) (.exit 0 (0,(xs.length:Int))) (fun i hi _ hp=>?_) (fun i hi _ hp=>?_) (fun _=>?_) (NN_l h) rfl]
 ·cases fstN (pAt (sameR y) xs) xs.length <;> rfl
 ·rw [pAt_get hi] at hp
  unfold sameR at hp
  have hc':(i:Int) < (xs.length:Int):=by omega
  unfold ms72_0
  simp only [hc',decide_true,cond_true,getN hi,obs]
  cases h1:xs[i].Client == y.Client
  ·simp only [cond_false,obs,contO,wi1 (show i≤1099511627776 by omega)]
  ·rw [h1,Bool.true_and] at hp
   simp only [cond_true,hp,cond_false,obs,contO,wi1 (show i≤1099511627776 by omega)]
 ·rw [pAt_get hi] at hp
  unfold sameR at hp
  rw [Bool.and_eq_true] at hp
  have hc':(i:Int) < (xs.length:Int):=by omega
  unfold ms72_0
  simp only [hc',decide_true,cond_true,getN hi,obs,hp.1,hp.2,contO]
  exact ⟨trivial,rfl⟩
 ·unfold ms72_0
  simp only [Int.lt_irrefl,decide_false,cond_false]
  exact ⟨trivial,rfl⟩
theorem reqAt_ok (xs:List TRequest) (y:TRequest) (h:xs.length≤1048576):m117 xs y = some (ixI (fstN (pAt (sameR y) xs) xs.length)):=by
 unfold m117
 rw [show m155 xs (fun x0_=>some (m156 x0_ y)) = some (ixI (fstN (pAt (sameR y) xs) xs.length)) from gIF_ok (NN_l h) (big_l h) (fun x _=>by
  congr 1
  unfold m156 sameR
  cases x.Client == y.Client <;> rfl)]
 rfl
noncomputable def reqBadAt (xs:List TRequest) (i:Nat):Bool:=(xs[i]?).any fun x=>(reqCode x != 0) || (xs.take i).any (sameR x)
noncomputable def reqVal (xs:List TRequest) (i:Nat):Int:=match xs[i]? with
 | some x=>bif reqCode x != 0 then reqCode x else 6
 | none=>0
theorem reqBadAt_get {xs:List TRequest} {i:Nat} (h:i < xs.length):reqBadAt xs i = ((reqCode xs[i] != 0) || (xs.take i).any (sameR xs[i])):=by
 unfold reqBadAt; rw [List.getElem?_eq_getElem h]; rfl
theorem reqVal_get {xs:List TRequest} {i:Nat} (h:i < xs.length):reqVal xs i = (bif reqCode xs[i] != 0 then reqCode xs[i] else 6):=by
 unfold reqVal; rw [List.getElem?_eq_getElem h]
noncomputable def reqsCode (xs:List TRequest):Int:=orF (fstN (reqBadAt xs) xs.length) (reqVal xs) 0
theorem sameR_self (x:TRequest):sameR x x = true:=by simp [sameR]
theorem reqs_spec (c:TCluster) (h:c.Requests.length≤12):(loopO (ms39_0 c) NN (0,0)).bind (contO (fun _=>none) (fun i1 s2=>
      if i1 = 0 then
       some 0
      else
       none) (fun s2=>
      some s2.1)) = some (reqsCode c.Requests):=by
 rw [loop_first (f:=ms39_0 c) (s0:=(0,0)) (fun i=>(0,(i:Int))) c.Requests.length (reqBadAt c.Requests) (fun i=>.ret (reqVal c.Requests i,(i:Int))) (.exit 0 (0,(c.Requests.length:Int))) (fun i hi _ hp=>?_) (fun i hi _ hp=>?_) (fun _=>?_) (NN_l (by omega)) rfl]
 ·unfold reqsCode
  cases fstN (reqBadAt c.Requests) c.Requests.length <;> rfl
 ·rw [reqBadAt_get hi,Bool.or_eq_false_iff] at hp
  have hc':(i:Int) < (c.Requests.length:Int):=by omega
  unfold ms39_0
  simp only [hc',decide_true,cond_true,getN hi,obs,req1,hp.1,cond_false,asked_ok c.Requests c.Requests[i] (by omega),first_at hi (sameR_self _),hp.2,wi1 (show i≤1099511627776 by omega)]
 ·rw [reqBadAt_get hi] at hp
  rw [reqVal_get hi]
  have hc':(i:Int) < (c.Requests.length:Int):=by omega
  unfold ms39_0
  simp only [hc',decide_true,cond_true,getN hi,obs,req1,asked_ok c.Requests c.Requests[i] (by omega),first_at hi (sameR_self _)]
  cases h1:reqCode c.Requests[i] != 0
  ·rw [h1,Bool.false_or] at hp
   rw [hp]; exact ⟨rfl,rfl⟩
  ·exact ⟨rfl,rfl⟩
 ·unfold ms39_0
  simp only [Int.lt_irrefl,decide_false,cond_false]
  exact ⟨trivial,rfl⟩
theorem reqs_impl (c:TCluster) (h:c.Requests.length≤12):(loopO (ms81_2 c) NN (0,0)).bind (contO (fun _=>none) (fun i4 s8=>
          if i4 = 4 then
           some 0
          else
           none) (fun s8=>
          some s8.1)) = some (reqsCode c.Requests):=by
 rw [loop_first (f:=ms81_2 c) (s0:=(0,0)) (fun i=>(0,(i:Int))) c.Requests.length (reqBadAt c.Requests) (fun i=>.ret (reqVal c.Requests i,(i:Int))) (.exit 4 (0,(c.Requests.length:Int))) (fun i hi _ hp=>?_) (fun i hi _ hp=>?_) (fun _=>?_) (NN_l (by omega)) rfl]
 ·unfold reqsCode
  cases fstN (reqBadAt c.Requests) c.Requests.length <;> rfl
 ·rw [reqBadAt_get hi,Bool.or_eq_false_iff] at hp
  have hc':(i:Int) < (c.Requests.length:Int):=by omega
  unfold ms81_2
  simp only [hc',decide_true,cond_true,getN hi,obs,req2,hp.1,cond_false,sub_take (Nat.le_of_lt hi),reqAt_ok (c.Requests.take i) c.Requests[i] (by rw [List.length_take]; omega),ixI_ge,fst_any,hp.2,wi1 (show i≤1099511627776 by omega)]
 ·rw [reqBadAt_get hi] at hp
  rw [reqVal_get hi]
  have hc':(i:Int) < (c.Requests.length:Int):=by omega
  unfold ms81_2
  simp only [hc',decide_true,cond_true,getN hi,obs,req2,sub_take (Nat.le_of_lt hi),reqAt_ok (c.Requests.take i) c.Requests[i] (by rw [List.length_take]; omega),ixI_ge,fst_any]
  cases h1:reqCode c.Requests[i] != 0
  ·rw [h1,Bool.false_or] at hp
   rw [hp]; exact ⟨rfl,rfl⟩
  ·exact ⟨rfl,rfl⟩
 ·unfold ms81_2
  simp only [Int.lt_irrefl,decide_false,cond_false]
  exact ⟨trivial,rfl⟩
noncomputable def repsBad (c:TCluster) (r:TReplica):Bool:=repCode c.F c.Ledger r != 0
noncomputable def repsVal (c:TCluster) (i:Nat):Int:=((c.Replicas[i]?).map (repCode c.F c.Ledger)).getD 0
noncomputable def repsFst (c:TCluster):Option Nat:=fstN (pAt (repsBad c) c.Replicas) c.Replicas.length
theorem reps_spec (c:TCluster) (H:LedOk c.F c.Ledger) (hr:c.Replicas.length≤1048576):loopO (ms70_1 c) NN (0,0) = some (orF (repsFst c) (fun i=>.ret (repsVal c i,(i:Int))) (.exit 2 (0,(c.Replicas.length:Int)))):=by
 exact loop_first (f:=ms70_1 c) (s0:=(0,0)) (fun i=>(0,(i:Int))) c.Replicas.length (pAt (repsBad c) c.Replicas) (fun i=>.ret (repsVal c i,(i:Int))) (.exit 2 (0,(c.Replicas.length:Int))) (fun i hi _ hp=>by
  rw [pAt_get hi] at hp
  unfold repsBad at hp
  have hc':(i:Int) < (c.Replicas.length:Int):=by omega
  unfold ms70_1
  simp only [hc',decide_true,cond_true,getN hi,obs,rep_spec H,hp,cond_false,wi1 (show i≤1099511627776 by omega)]) (fun i hi _ hp=>by
  rw [pAt_get hi] at hp
  unfold repsBad at hp
  have hc':(i:Int) < (c.Replicas.length:Int):=by omega
  unfold ms70_1 repsVal
  rw [List.getElem?_eq_getElem hi]
  simp only [hc',decide_true,cond_true,getN hi,obs,rep_spec H,hp,Option.map_some,Option.getD_some]
  exact ⟨trivial,rfl⟩) (fun _=>by
  unfold ms70_1
  simp only [Int.lt_irrefl,decide_false,cond_false]
  exact ⟨trivial,rfl⟩) (NN_l hr) rfl
theorem reps_impl (c:TCluster) (H:LedOk c.F c.Ledger) (hr:c.Replicas.length≤1048576):loopO (ms81_1 c (logL c.F c.Ledger)) NN (0,0) = some (orF (repsFst c) (fun i=>.ret (repsVal c i,(i:Int))) (.exit 2 (0,(c.Replicas.length:Int)))):=by
 exact loop_first (f:=ms81_1 c (logL c.F c.Ledger)) (s0:=(0,0)) (fun i=>(0,(i:Int))) c.Replicas.length (pAt (repsBad c) c.Replicas) (fun i=>.ret (repsVal c i,(i:Int))) (.exit 2 (0,(c.Replicas.length:Int))) (fun i hi _ hp=>by
  rw [pAt_get hi] at hp
  unfold repsBad at hp
  have hc':(i:Int) < (c.Replicas.length:Int):=by omega
  unfold ms81_1
  simp only [hc',decide_true,cond_true,getN hi,obs,rep_impl H,hp,cond_false,wi1 (show i≤1099511627776 by omega)]) (fun i hi _ hp=>by
  rw [pAt_get hi] at hp
  unfold repsBad at hp
  have hc':(i:Int) < (c.Replicas.length:Int):=by omega
  unfold ms81_1 repsVal
  rw [List.getElem?_eq_getElem hi]
  simp only [hc',decide_true,cond_true,getN hi,obs,rep_impl H,hp,Option.map_some,Option.getD_some]
  exact ⟨trivial,rfl⟩) (fun _=>by
  unfold ms81_1
  simp only [Int.lt_irrefl,decide_false,cond_false]
  exact ⟨trivial,rfl⟩) (NN_l hr) rfl
theorem appI' {L:List Int} {k:Int} (h:L.length≤1048576):appO 8 L [k] = some (L++[k]):=by
 unfold appO
 rw [if_pos (by simp; omega)]
theorem ids_ok (c:TCluster) (hr:c.Replicas.length≤1048576):loopO (ms81_0 c) NN (0,[]) = some (.exit 0 ((c.Replicas.length:Int),c.Replicas.map (·.Id))):=by
 rw [loop_all (f:=ms81_0 c) (s0:=(0,[])) (fun i=>((i:Int),(c.Replicas.take i).map (·.Id))) c.Replicas.length (.exit 0 ((c.Replicas.length:Int),(c.Replicas.take c.Replicas.length).map (·.Id))) (fun i hi=>?_) ?_ rfl (NN_l hr) rfl]
 ·rw [List.take_length]
 ·unfold ms81_0
  simp only [Int.lt_irrefl,decide_false,cond_false]
 ·have hc':(i:Int) < (c.Replicas.length:Int):=by omega
  unfold ms81_0
  simp only [hc',decide_true,cond_true,getN hi,obs,appI' (show ((c.Replicas.take i).map (·.Id)).length≤1048576 by simp; omega),wi1 (show i≤1099511627776 by omega)]
  rw [take_snoc' hi,List.map_append]
  rfl
structure CluOk (c:TCluster):Prop where
 led:LedOk c.F c.Ledger
 badl:(c.Bad.length:Int)≤c.F
 reql:c.Requests.length≤12
 bad:badCode c.F c.Bad = 0
 ids:c.Replicas.map (·.Id) = othersL c.F c.Bad
 reps:∀ r∈c.Replicas,repCode c.F c.Ledger r = 0
theorem clu_eq2 (c:TCluster) (g:GoodClu c):∃ y,m39 c = some y∧m81 c = some y∧(y = 0→CluOk c):=by
 unfold m39 m81
 rw [led_spec _ _ g.led g.msg,led_impl _ _ g.led g.msg]
 simp only [obs]
 by_cases hl:codeL c.F c.Ledger = 0
 rotate_left
 ·have e:(codeL c.F c.Ledger != 0) = true:=by simpa using hl
  rw [e]
  exact ⟨_,rfl,rfl,fun h=>absurd h hl⟩
 have H:=codeL_ok hl
 have e:(codeL c.F c.Ledger != 0) = false:=by simpa using hl
 rw [e,cond_false,cond_false,bad_spec _ _ g.bad,bad_impl _ _ g.bad]
 by_cases hq:(c.Requests.length:Int) > 12
 ·simp only [hq,decide_true,cond_true,obs]
  cases decide ((c.Bad.length:Int) > c.F) <;> exact ⟨2,rfl,rfl,fun h=>by cases h⟩
 simp only [hq,decide_false,cond_false,obs]
 by_cases hb:(c.Bad.length:Int) > c.F
 ·simp only [hb,decide_true,cond_true,obs]
  exact ⟨2,rfl,rfl,fun h=>by cases h⟩
 simp only [hb,decide_false,cond_false,obs,contO]
 by_cases hbc:badCode c.F c.Bad = 0
 rotate_left
 ·have e:(badCode c.F c.Bad != 0) = true:=by simpa using hbc
  rw [e]
  exact ⟨_,rfl,rfl,fun h=>absurd h hbc⟩
 have e:(badCode c.F c.Bad != 0) = false:=by simpa using hbc
 rw [e,cond_false,cond_false,ids_ok c g.rep]
 simp only [obs,contO,if_true]
 rw [others_impl H.f12 _ g.bad,obs,eqIs_ok _ _ (by rw [List.length_map]; exact g.rep),obs]
 unfold m70
 rcases repl_loop c H.f12 g.bad g.rep with ⟨h1,j,h2⟩ | ⟨h1,h2⟩
 rotate_left
 ·rw [decide_eq_false h1]
  rcases h2 with ⟨a,j,h2,h3⟩ | ⟨s,h2,h3⟩
  ·rw [h2]
   have e:(a != (c.Replicas.length:Int)) = true:=by simpa using h3
   simp only [obs,contO,if_true,e,cond_true]
   exact ⟨1,rfl,rfl,fun h=>by cases h⟩
  ·rw [h2]
   simp only [obs,contO,h3]
   exact ⟨1,rfl,rfl,fun h=>by cases h⟩
 rw [decide_eq_true h1,h2]
 have e:((c.Replicas.length:Int) != (c.Replicas.length:Int)) = false:=by simp
 simp only [Bool.not_true,cond_false,obs,contO,if_true,e]
 rw [log_impl H,obs,reps_impl c H g.rep,reps_spec c H g.rep]
 unfold repsFst
 rcases fst_cases (pAt (repsBad c) c.Replicas) c.Replicas.length with k | ⟨i,k1,k2,k3⟩
 rotate_left
 ·rw [fstN_some k1 k2 k3]
  simp only [orF,obs,contO]
  have hv:repsVal c i≠0:=by
   rw [pAt_get k1] at k3
   unfold repsBad at k3
   unfold repsVal
   rw [List.getElem?_eq_getElem k1]
   simpa using k3
  have e:(repsVal c i != 0) = true:=by simpa using hv
  rw [e]
  exact ⟨_,rfl,rfl,fun h=>absurd h hv⟩
 rw [fstN_none k]
 simp only [orF,obs,contO,if_true]
 have e0:((0:Int) != 0) = false:=rfl
 rw [e0,cond_false]
 rw [reqs_spec c (by omega),reqs_impl c (by omega)]
 refine ⟨_,rfl,rfl,fun _=>⟨H,by omega,by omega,hbc,h1,fun r hr=>?_⟩⟩
 obtain ⟨i,hi,rfl⟩:=List.mem_iff_getElem.1 hr
 have:=k i hi
 rw [pAt_get hi] at this
 unfold repsBad at this
 simpa using this
open Go Go.Rf
set_option linter.unusedVariables false
set_option linter.unusedSimpArgs false
def repI (c:TCluster) (id:Int):Option Nat:=fstN (pAt (fun r=>r.Id == id) c.Replicas) c.Replicas.length
end Go.Proofs.YtmjibndicekcaaaGreatDoor
