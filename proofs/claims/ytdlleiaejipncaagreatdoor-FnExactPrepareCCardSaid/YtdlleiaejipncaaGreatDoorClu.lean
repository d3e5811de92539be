/- Clusters: sizes, copies, likeness. -/
import Derived.Test.YtdlleiaejipncaaGreatDoorSort
import Derived.Test.YtdlleiaejipncaaGreatDoorRh6
namespace Go.Proofs.YtdlleiaejipncaaGreatDoor
open Go Go.Rf
set_option linter.unusedVariables false
set_option linter.unusedSimpArgs false
theorem Be {n:Nat} (h:n≤1048576):n < NN:=by rw [CC]; omega
def M5 (m:Ah):Prop:=m.Certs.length≤maxLen∧m.Refs.length≤maxLen
def AO (m:Ah):Prop:=m.Certs.length≤1048576∧m.Refs.length≤1048576
def M4 (r:Af):Prop:=r.Ops.length≤maxLen∧∀ o∈r.Ops,o.Path.length≤maxLen
def E7 (r:Af):Prop:=r.Ops.length≤1048576
def ON (c:Ae):Prop:=c.Bad.length≤maxLen∧c.Replicas.length≤maxLen∧(c.Ledger.length≤maxLen∧∀ m∈c.Ledger,M5 m)∧(c.Requests.length≤maxLen∧∀ r∈c.Requests,M4 r)
structure BJ (c:Ae):Prop where
 bad:c.Bad.length≤1048576
 rep:c.Replicas.length≤1048576
 led:c.Ledger.length≤1048576
 msg:∀ m∈c.Ledger,AO m
 req:c.Requests.length≤1048576
 ops:∀ r∈c.Requests,E7 r
theorem Sw:Sz (fun x l=>some (m36 x l)) M5 AO:=by
 rintro x ⟨h1,h2⟩ l k0 k1
 refine ⟨_,rfl,?_⟩
 obtain ⟨y,hy,hy2⟩:=JQ x.Certs h1 l k0 k1
 injection hy with hy
 unfold m36
 rw [show m63 x.Certs l = y from hy]
 by_cases c1:y < 0
 ·simp only [c1,decide_true,cond_true]; intro h; omega
 obtain ⟨e1,e2⟩:=hy2 (by omega)
 obtain ⟨z,hz,hz2⟩:=JQ x.Refs h2 y (by omega) (by omega)
 injection hz with hz
 rw [show m13 x.Refs y = z from hz]
 by_cases c2:z < 0
 ·simp only [c1,c2,decide_true,decide_false,cond_true,cond_false]; intro h; omega
 simp only [c1,c2,decide_false,cond_false]
 intro h
 obtain ⟨e3,e4⟩:=hz2 h
 exact ⟨by omega,e2,e4⟩
theorem Qd:Sz (m15) (fun xs=>xs.length≤maxLen∧∀ x∈xs,M5 x) (fun xs=>xs.length≤1048576∧∀ x∈xs,AO x):=ZQ Sw (Be (Nat.le_refl _))
theorem X4:Sz (fun x l=>some (m91 x l)) (fun o=>o.Path.length≤maxLen) (fun o=>o.Path.length≤1048576):=fun x hx l k0 k1=>JQ x.Path hx l k0 k1
theorem Sv:Sz (m64) (fun xs=>xs.length≤maxLen∧∀ x∈xs,x.Path.length≤maxLen) (fun xs=>xs.length≤1048576∧∀ x∈xs,x.Path.length≤1048576):=ZQ X4 (Be (Nat.le_refl _))
theorem Su:Sz (m37) M4 E7:=by
 rintro x hx l k0 k1
 obtain ⟨y,hy,hy2⟩:=Sv x.Ops hx l k0 k1
 unfold m37
 rw [hy,obs]
 by_cases c1:y < 0
 ·simp only [c1,decide_true,cond_true]; exact ⟨_,rfl,fun h=>by omega⟩
 simp only [c1,decide_false,cond_false]
 exact ⟨_,rfl,fun h=>⟨(hy2 h).1,(hy2 h).2.1⟩⟩
theorem Qc:Sz (m16) (fun xs=>xs.length≤maxLen∧∀ x∈xs,M4 x) (fun xs=>xs.length≤1048576∧∀ x∈xs,E7 x):=Wr Su (Be (Nat.le_refl _))
theorem Qe (c:Ae) (h:ON c):∃ y,m4 c 1048576 = some y∧(0≤y→y≤1048576∧BJ c):=by
 obtain ⟨h1,h2,h3,h4⟩:=h
 unfold m4
 obtain ⟨y,hy,hy2⟩:=JQ c.Bad h1 1048576 (by omega) (by omega)
 injection hy with hy
 rw [show m13 c.Bad 1048576 = y from hy]
 by_cases c1:y < 0
 ·simp only [c1,decide_true,cond_true]; exact ⟨_,rfl,fun h=>by omega⟩
 simp only [c1,decide_false,cond_false]
 obtain ⟨e1,e2⟩:=hy2 (by omega)
 obtain ⟨z,hz,hz2⟩:=JQ c.Replicas h2 y (by omega) (by omega)
 injection hz with hz
 rw [show m14 c.Replicas y = z from hz]
 by_cases c2:z < 0
 ·simp only [c2,decide_true,cond_true]; exact ⟨_,rfl,fun h=>by omega⟩
 simp only [c2,decide_false,cond_false]
 obtain ⟨e3,e4⟩:=hz2 (by omega)
 obtain ⟨u,hu,hu2⟩:=Qd c.Ledger h3 z (by omega) (by omega)
 rw [hu,obs]
 by_cases c3:u < 0
 ·simp only [c3,decide_true,cond_true]; exact ⟨_,rfl,fun h=>by omega⟩
 simp only [c3,decide_false,cond_false]
 obtain ⟨e5,e6⟩:=hu2 (by omega)
 obtain ⟨v,hv,hv2⟩:=Qc c.Requests h4 u (by omega) (by omega)
 rw [hv,obs]
 by_cases c4:v < 0
 ·simp only [c4,decide_true,cond_true]; exact ⟨_,rfl,fun h=>by omega⟩
 simp only [c4,decide_false,cond_false]
 exact ⟨_,rfl,fun h=>⟨by have:=(hv2 h).1; omega,e2,e4,e6.1,e6.2,(hv2 h).2.1,(hv2 h).2.2⟩⟩
theorem Sy (c:Ae) (h:ON c):∃ y,m4 c 1048576 = some y∧(0≤y→BJ c):=by
 obtain ⟨y,h1,h2⟩:=Qe c h
 exact ⟨y,h1,fun h=>(h2 h).2⟩
theorem Sq (xs:List Int) (h:xs.length≤1048576):m21 xs = some xs:=Pw (t:=fun x=>x) (z:=0) (by_:=8) (fun _=>rfl) (Be h) h (by omega)
theorem ND (xs:List Ax) (h:xs.length≤1048576):m78 xs = some xs:=Pw (t:=VP) (z:=(⟨0,0,0⟩:Ax)) (by_:=24) (fun _=>rfl) (Be h) h (by omega)
theorem PZ (xs:List Ak) (h:xs.length≤1048576):m22 xs = some xs:=Pw (t:=m44) (z:=(⟨0,0,0,0⟩:Ak)) (by_:=32) (fun _=>rfl) (Be h) h (by omega)
theorem So (xs:List TOp) (h:xs.length≤1048576):m79 xs = some xs:=Pw (t:=VO) (z:=(⟨0,[],0,0,false,false⟩:TOp)) (by_:=48) (fun _=>rfl) (Be h) h (by omega)
theorem Sp (x:Ah) (h:AO x):m45 x = some x:=by
 unfold m45
 rw [ND _ h.1,obs,Sq _ h.2]; rfl
theorem Qb (xs:List Ah) (h:xs.length≤1048576) (g:∀ x∈xs,AO x):m23 xs = some xs:=Om (t:=m45) (z:=(⟨0,0,0,0,0,[],[]⟩:Ah)) (by_:=88) (fun x hx=>Sp x (g x hx)) (Be h) h (by omega)
theorem Sm (x:Af) (h:E7 x):m46 x = some x:=by
 unfold m46
 rw [So _ h]; rfl
theorem PY (xs:List Af) (h:xs.length≤1048576) (g:∀ x∈xs,E7 x):m24 xs = some xs:=Om (t:=m46) (z:=(⟨0,0,0,[]⟩:Af)) (by_:=48) (fun x hx=>Sm x (g x hx)) (Be h) h (by omega)
theorem Sr (c:Ae) (h:BJ c):m6 c = some c:=by
 unfold m6
 rw [Sq _ h.bad,obs,PZ _ h.rep,obs,Qb _ h.led h.msg,obs,PY _ h.req h.ops]; rfl
theorem B8 {n:Nat} (h:n≤1048576):n≤big:=by unfold big; omega
theorem W7 (xs:List Int) (h:xs.length≤1048576):m27 xs xs = some true:=Jm (ne:=fun a b=>a != b) (fun a=>by simp) (Be h) (B8 h)
theorem Ow (xs:List Ax) (h:xs.length≤1048576):m86 xs xs = some true:=Jm (ne:=fun a b=>!(VD a b)) (fun a=>by simp [VD]) (Be h) (B8 h)
theorem Rp (xs:List Ak) (h:xs.length≤1048576):m28 xs xs = some true:=Jm (ne:=fun a b=>!(m54 a b)) (fun a=>by simp [m54]) (Be h) (B8 h)
theorem W6 (xs:List TOp) (h:xs.length≤1048576):m87 xs xs = some true:=Jm (ne:=fun a b=>!(VC a b)) (fun a=>by simp [VC]) (Be h) (B8 h)
theorem Rq (xs:List Ah) (h:xs.length≤1048576) (g:∀ x∈xs,AO x):m29 xs xs = some true:=MY (eq:=m55) (fun a ha=>by
 unfold m55
 rw [Ow _ (g a ha).1,W7 _ (g a ha).2]
 simp) (Be h) (B8 h)
theorem Ro (xs:List Af) (h:xs.length≤1048576) (g:∀ x∈xs,E7 x):m30 xs xs = some true:=MY (eq:=m56) (fun a ha=>by
 unfold m56
 rw [W6 _ (g a ha)]
 simp) (Be h) (B8 h)
theorem Ni (c:Ae) (h:BJ c):m9 c c = some true:=by
 unfold m9
 rw [W7 _ h.bad,Rp _ h.rep,Rq _ h.led h.msg,Ro _ h.req h.ops]
 simp
open Go Go.Rf
def inR (n lo hi:Int):Bool:=decide (lo≤n∧n≤hi)
theorem in1 (n lo hi:Int):m98 n lo hi = inR n lo hi:=by
 unfold m98 inR
 by_cases h:n ≥ lo
 ·simp [h]
 ·simp [h]
theorem in2 (n lo hi:Int):CE n lo hi = inR n lo hi:=in1 n lo hi
theorem Jw (k:Int):QP k = inR k 1 3:=in1 _ _ _
theorem Lc (k:Int):QS k = inR k 0 20:=in1 _ _ _
theorem Le (k:Int):QO k = inR k 1 30:=in1 _ _ _
theorem Js (k:Int):QN k = inR k 0 12:=in1 _ _ _
def BQ (f:Int):Int:=wi .i64 ((wi .i64 (3 * f)) + 1)
theorem XQ (f:Int):IQ f = BQ f:=rfl
theorem Hi (f k:Int):QT f k = inR k 1 (BQ f):=in1 _ _ _
theorem Wk (f k:Int):m94 f k = inR k 1 (BQ f):=in1 _ _ _
theorem Sl (a b c d e f g h:Bool):(bif !a then
    some (LO.norm true)
   else
    bif !b then
     bif c then
      some (LO.norm true)
     else
      bif d then
       some (LO.norm true)
      else
       bif e then
        bif f then
         some (LO.norm true)
        else
         bif g then
          some (LO.norm h)
         else
          some (LO.norm false)
       else
        bif g then
         some (LO.norm h)
        else
         some (LO.norm false)
    else
     bif e then
      bif f then
       some (LO.norm true)
      else
       bif g then
        some (LO.norm h)
       else
        some (LO.norm false)
     else
      bif g then
       some (LO.norm h)
      else
       some (LO.norm false)) = some (LO.norm (!((a && (b || (!c && !d))) && ((!e || !f) && (!g || !h))))):=by
 cases a <;> cases b <;> cases c <;> cases d <;> cases e <;> cases f <;> cases g <;> cases h <;> rfl
theorem Sk (a b c d e f g h:Bool):(bif a then
   bif b then
    bif e then
     bif g then
      some (LO.norm true)
     else
      some (LO.norm h)
    else
     bif f then
      bif g then
       some (LO.norm true)
      else
       some (LO.norm h)
     else
      some (LO.norm false)
   else
    bif c then
     bif d then
      bif e then
       bif g then
        some (LO.norm true)
       else
        some (LO.norm h)
      else
       bif f then
        bif g then
         some (LO.norm true)
        else
         some (LO.norm h)
       else
        some (LO.norm false)
     else
      some (LO.norm false)
    else
     some (LO.norm false)
  else
   some (LO.norm false)) = some (LO.norm ((a && (b || (c && d))) && ((e || f) && (g || h)))):=by
 cases a <;> cases b <;> cases c <;> cases d <;> cases e <;> cases f <;> cases g <;> cases h <;> rfl
theorem Sj (a b c d e:Bool):(bif !a then
      some (LO.norm true)
     else
      bif !b then
       some (LO.norm true)
      else
       bif c then
        bif !d then
         some (LO.norm true)
        else
         some (LO.norm (!e))
       else
        some (LO.norm false)) = some (LO.norm (!a || (!b || (c && (!d || !e))))):=by
 cases a <;> cases b <;> cases c <;> cases d <;> cases e <;> rfl
theorem Fe (a b c:Bool):(bif !a then
     some (LO.norm true)
    else
     bif !b then
      some (LO.norm true)
     else
      some (LO.norm (!c))) = some (LO.norm (!a || (!b || !c))):=by
 cases a <;> cases b <;> cases c <;> rfl
def IK (m:Ah):Bool:=(inR m.Kind 1 5 && (inR m.Kind 1 3 || ((m.Slot == 0) && (m.Value == 0)))) && (((m.Kind == 4) || ((m.Certs.length:Int) == 0)) && ((m.Kind == 5) || ((m.Refs.length:Int) == 0)))
def GF (f:Int) (m:Ah):Bool:=!inR m.View 0 20 || (!inR m.From 1 (BQ f) || (inR m.Kind 1 3 && (!inR m.Slot 1 30 || !inR m.Value 0 12)))
def Cu (v:Int) (c:Ax):Bool:=!inR c.Slot 1 30 || (!inR c.View 0 (wi .i64 (v - 1)) || !inR c.Value 0 12)
def C7 (xs:List Int) (i:Nat):Bool:=decide (0 < i) && decide (A xs i≤A xs (i - 1))
def Dz (xs:List Int):Bool:=(BB (C7 xs) xs.length).isNone
def D4 (r:Int):Bool:=!inR r 0 239
noncomputable def DY (f:Int) (m:Ah):Int:=bif IK m then bif GF f m then 3 else bif decide ((m.Certs.length:Int) > 30) then 2 else bif decide ((m.Refs.length:Int) > BQ f) then 2 else bif Dz (m.Certs.map (·.Slot)) then bif Dz m.Refs then bif m.Certs.any (Cu m.View) then 3 else bif m.Refs.any D4 then 3 else 0 else 1 else 1 else 1
theorem IN {α:Type} {g:α→Int} {cs:List α} {i:Nat} (h:i < cs.length):A (cs.map g) i = g cs[i]:=by simp [A,h]
theorem Gh {i:Nat} (h0:0 < i) (h:i≤big):wi .i64 ((i:Int) - 1) = ((i - 1:Nat):Int):=by
 unfold big at h
 rw [Cx (by omega) (by omega)]; omega
theorem KI {p:Nat→Bool} (n:Nat) (h0:p 0 = false):(BB (fun i=>p (i + 1)) (n - 1)).isNone = (BB p n).isNone:=by
 rw [Bool.eq_iff_iff,Option.isNone_iff_eq_none,Option.isNone_iff_eq_none,HO,HO]
 constructor
 ·intro h j hj
  cases j with
  | zero=>exact h0
  | succ j=>exact h j (by omega)
 ·intro h j hj; exact h (j + 1) (by omega)
theorem ES {β:Type} {x:Option Nat} {out:Nat→β} {fin:β} (h:x.isNone = true):orF x out fin = fin:=by
 cases x
 ·rfl
 ·cases h
theorem ER {β:Type} {x:Option Nat} {out:Nat→β} {fin:β} (h:x.isNone = false):∃ i,orF x out fin = out i:=by
 cases x
 ·cases h
 ·exact ⟨_,rfl⟩
theorem aY (m:Ah) (hg:AO m) (s:Int):∃ j,Ar (F5 m) NN (s,0) = some (bif Dz (m.Certs.map (·.Slot)) then .exit 1 (s,j) else .ret (1,j)):=by
 rw [AG (f:=F5 m) (s0:=(s,0)) (fun i=>(s,(i:Int))) m.Certs.length (C7 (m.Certs.map (·.Slot))) (fun i=>.ret (1,(i:Int))) (.exit 1 (s,(m.Certs.length:Int))) (fun i hi _ hp=>?_) (fun i hi _ hp=>?_) (fun _=>?_) (Be hg.1) rfl]
 ·unfold Dz
  rw [List.length_map]
  cases h:(BB (C7 (m.Certs.map (·.Slot))) m.Certs.length).isNone
  ·obtain ⟨i,hi⟩:=ER (out:=fun i=>LO.ret ((1:Int),(i:Int))) (fin:=.exit 1 (s,(m.Certs.length:Int))) h
   exact ⟨_,by rw [hi]; rfl⟩
  ·exact ⟨_,by rw [ES h]; rfl⟩
 ·have hc':(i:Int) < (m.Certs.length:Int):=by omega
  have hb:i≤big:=Nat.le_trans (Nat.le_of_lt hi) (B8 hg.1)
  unfold F5
  simp only [hc',decide_true,cond_true,AS hi,obs]
  by_cases h0:0 < i
  ·have h0':(i:Int) > 0:=by omega
   unfold C7 at hp
   rw [IN hi,IN (show i - 1 < m.Certs.length by omega),decide_eq_true h0,Bool.true_and] at hp
   simp only [h0',decide_true,cond_true,Gh h0 hb,AS (show i - 1 < m.Certs.length by omega),obs,hp,cond_false,Ac,wi1 hb]
  ·have h0':¬ (i:Int) > 0:=by omega
   simp only [h0',decide_false,cond_false,obs,Ac,wi1 hb]
 ·have hc':(i:Int) < (m.Certs.length:Int):=by omega
  have hb:i≤big:=Nat.le_trans (Nat.le_of_lt hi) (B8 hg.1)
  unfold F5
  unfold C7 at hp
  rw [Bool.and_eq_true,IN hi,IN (show i - 1 < m.Certs.length by omega)] at hp
  have h0:0 < i:=of_decide_eq_true hp.1
  have h0':(i:Int) > 0:=by omega
  simp only [hc',decide_true,cond_true,AS hi,obs,h0',Gh h0 hb,AS (show i - 1 < m.Certs.length by omega),hp.2,Ac]
  exact ⟨trivial,rfl⟩
 ·unfold F5
  simp only [Int.lt_irrefl,decide_false,cond_false]
  exact ⟨trivial,rfl⟩
theorem aW (m:Ah) (hg:AO m) (s:Int):∃ j,Ar (F4 m) NN (s,0) = some (bif Dz m.Refs then .exit 3 (s,j) else .ret (1,j)):=by
 rw [AG (f:=F4 m) (s0:=(s,0)) (fun i=>(s,(i:Int))) m.Refs.length (C7 m.Refs) (fun i=>.ret (1,(i:Int))) (.exit 3 (s,(m.Refs.length:Int))) (fun i hi _ hp=>?_) (fun i hi _ hp=>?_) (fun _=>?_) (Be hg.2) rfl]
 ·unfold Dz
  cases h:(BB (C7 m.Refs) m.Refs.length).isNone
  ·obtain ⟨i,hi⟩:=ER (out:=fun i=>LO.ret ((1:Int),(i:Int))) (fin:=.exit 3 (s,(m.Refs.length:Int))) h
   exact ⟨_,by rw [hi]; rfl⟩
  ·exact ⟨_,by rw [ES h]; rfl⟩
 ·have hc':(i:Int) < (m.Refs.length:Int):=by omega
  have hb:i≤big:=Nat.le_trans (Nat.le_of_lt hi) (B8 hg.2)
  unfold F4
  simp only [hc',decide_true,cond_true,AS hi,obs]
  by_cases h0:0 < i
  ·have h0':(i:Int) > 0:=by omega
   unfold C7 at hp
   rw [Dm hi,Dm (show i - 1 < m.Refs.length by omega),decide_eq_true h0,Bool.true_and] at hp
   simp only [h0',decide_true,cond_true,Gh h0 hb,AS (show i - 1 < m.Refs.length by omega),obs,hp,cond_false,Ac,wi1 hb]
  ·have h0':¬ (i:Int) > 0:=by omega
   simp only [h0',decide_false,cond_false,obs,Ac,wi1 hb]
 ·have hc':(i:Int) < (m.Refs.length:Int):=by omega
  have hb:i≤big:=Nat.le_trans (Nat.le_of_lt hi) (B8 hg.2)
  unfold F4
  unfold C7 at hp
  rw [Bool.and_eq_true,Dm hi,Dm (show i - 1 < m.Refs.length by omega)] at hp
  have h0:0 < i:=of_decide_eq_true hp.1
  have h0':(i:Int) > 0:=by omega
  simp only [hc',decide_true,cond_true,AS hi,obs,h0',Gh h0 hb,AS (show i - 1 < m.Refs.length by omega),hp.2,Ac]
  exact ⟨trivial,rfl⟩
 ·unfold F4
  simp only [Int.lt_irrefl,decide_false,cond_false]
  exact ⟨trivial,rfl⟩
theorem RV {i:Nat} (h:i≤1048576):wi .i64 ((i:Int) + 1 + 1) = ((i + 1:Nat):Int) + 1:=by rw [Cx (by omega) (by omega)]; omega
theorem IV {i:Nat} (h:i≤1048576):wi .i64 ((i:Int) + 1 - 1) = (i:Int):=by rw [Cx (by omega) (by omega)]; omega
theorem aX (m:Ah) (hg:AO m) (s:Int):∃ j,Ar (F3 m) NN (s,1) = some (bif Dz (m.Certs.map (·.Slot)) then .exit 0 (s,j) else .ret (1,j)):=by
 have hg1:=hg.1
 rw [AG (f:=F3 m) (s0:=(s,1)) (fun i=>(s,(i:Int) + 1)) (m.Certs.length - 1) (fun i=>C7 (m.Certs.map (·.Slot)) (i + 1)) (fun i=>.ret (1,(i:Int) + 1)) (.exit 0 (s,((m.Certs.length - 1:Nat):Int) + 1)) (fun i hi _ hp=>?_) (fun i hi _ hp=>?_) (fun _=>?_) (Be (by omega)) rfl]
 ·unfold Dz
  rw [List.length_map,← KI m.Certs.length (p:=C7 (m.Certs.map (·.Slot))) (by simp [C7])]
  cases h:(BB (fun i=>C7 (m.Certs.map (·.Slot)) (i + 1)) (m.Certs.length - 1)).isNone
  ·obtain ⟨i,hi⟩:=ER (out:=fun i=>LO.ret ((1:Int),(i:Int) + 1)) (fin:=.exit 0 (s,((m.Certs.length - 1:Nat):Int) + 1)) h
   exact ⟨_,by rw [hi]; rfl⟩
  ·exact ⟨_,by rw [ES h]; rfl⟩
 ·have hc':(i:Int) + 1 < (m.Certs.length:Int):=by omega
  have h1:i + 1 < m.Certs.length:=by omega
  have g1:Al m.Certs ((i:Int) + 1) = some m.Certs[i + 1]:=AS (i:=i + 1) h1
  unfold F3
  unfold C7 at hp
  rw [IN h1,IN (show i + 1 - 1 < m.Certs.length by omega)] at hp
  simp only [Nat.add_sub_cancel,Nat.zero_lt_succ,decide_true,Bool.true_and] at hp
  simp only [hc',decide_true,cond_true,g1,IV (show i≤1048576 by omega),AS (show i < m.Certs.length by omega),obs,hp,cond_false,RV (show i≤1048576 by omega)]
 ·have hc':(i:Int) + 1 < (m.Certs.length:Int):=by omega
  have h1:i + 1 < m.Certs.length:=by omega
  have g1:Al m.Certs ((i:Int) + 1) = some m.Certs[i + 1]:=AS (i:=i + 1) h1
  unfold F3
  unfold C7 at hp
  rw [IN h1,IN (show i + 1 - 1 < m.Certs.length by omega)] at hp
  simp only [Nat.add_sub_cancel,Nat.zero_lt_succ,decide_true,Bool.true_and] at hp
  simp only [hc',decide_true,cond_true,g1,IV (show i≤1048576 by omega),AS (show i < m.Certs.length by omega),obs,hp]
  exact ⟨trivial,rfl⟩
 ·have hc':¬ (((m.Certs.length - 1:Nat):Int) + 1 < (m.Certs.length:Int)):=by omega
  unfold F3
  simp only [hc',decide_false,cond_false]
  exact ⟨trivial,rfl⟩
theorem aV (m:Ah) (hg:AO m) (s:Int):∃ j,Ar (Fz m) NN (s,1) = some (bif Dz m.Refs then .exit 2 (s,j) else .ret (1,j)):=by
 have hg1:=hg.2
 rw [AG (f:=Fz m) (s0:=(s,1)) (fun i=>(s,(i:Int) + 1)) (m.Refs.length - 1) (fun i=>C7 m.Refs (i + 1)) (fun i=>.ret (1,(i:Int) + 1)) (.exit 2 (s,((m.Refs.length - 1:Nat):Int) + 1)) (fun i hi _ hp=>?_) (fun i hi _ hp=>?_) (fun _=>?_) (Be (by omega)) rfl]
 ·unfold Dz
  rw [← KI m.Refs.length (p:=C7 m.Refs) (by simp [C7])]
  cases h:(BB (fun i=>C7 m.Refs (i + 1)) (m.Refs.length - 1)).isNone
  ·obtain ⟨i,hi⟩:=ER (out:=fun i=>LO.ret ((1:Int),(i:Int) + 1)) (fin:=.exit 2 (s,((m.Refs.length - 1:Nat):Int) + 1)) h
   exact ⟨_,by rw [hi]; rfl⟩
  ·exact ⟨_,by rw [ES h]; rfl⟩
 ·have hc':(i:Int) + 1 < (m.Refs.length:Int):=by omega
  have h1:i + 1 < m.Refs.length:=by omega
  have g1:Al m.Refs ((i:Int) + 1) = some m.Refs[i + 1]:=AS (i:=i + 1) h1
  unfold Fz
  unfold C7 at hp
  rw [Dm h1,Dm (show i + 1 - 1 < m.Refs.length by omega)] at hp
  simp only [Nat.add_sub_cancel,Nat.zero_lt_succ,decide_true,Bool.true_and] at hp
  simp only [hc',decide_true,cond_true,g1,IV (show i≤1048576 by omega),AS (show i < m.Refs.length by omega),obs,hp,cond_false,RV (show i≤1048576 by omega)]
 ·have hc':(i:Int) + 1 < (m.Refs.length:Int):=by omega
  have h1:i + 1 < m.Refs.length:=by omega
  have g1:Al m.Refs ((i:Int) + 1) = some m.Refs[i + 1]:=AS (i:=i + 1) h1
  unfold Fz
  unfold C7 at hp
  rw [Dm h1,Dm (show i + 1 - 1 < m.Refs.length by omega)] at hp
  simp only [Nat.add_sub_cancel,Nat.zero_lt_succ,decide_true,Bool.true_and] at hp
  simp only [hc',decide_true,cond_true,g1,IV (show i≤1048576 by omega),AS (show i < m.Refs.length by omega),obs,hp]
  exact ⟨trivial,rfl⟩
 ·have hc':¬ (((m.Refs.length - 1:Nat):Int) + 1 < (m.Refs.length:Int)):=by omega
  unfold Fz
  simp only [hc',decide_false,cond_false]
  exact ⟨trivial,rfl⟩
theorem MZ {α:Type} (q:α→Bool) (xs:List α):(BB (pAt q xs) xs.length).isNone = !xs.any q:=by
 rw [← Cc]; cases BB (pAt q xs) xs.length <;> rfl
theorem kK (m:Ah) (hg:AO m) (s:Int):∃ j,Ar (Fy m) NN (s,0) = some (bif m.Certs.any (Cu m.View) then .ret (3,j) else .exit 4 (s,j)):=by
 rw [AG (f:=Fy m) (s0:=(s,0)) (fun i=>(s,(i:Int))) m.Certs.length (pAt (Cu m.View) m.Certs) (fun i=>.ret (3,(i:Int))) (.exit 4 (s,(m.Certs.length:Int))) (fun i hi _ hp=>?_) (fun i hi _ hp=>?_) (fun _=>?_) (Be hg.1) rfl]
 ·have e:=MZ (Cu m.View) m.Certs
  cases h:m.Certs.any (Cu m.View)
  ·rw [h] at e; exact ⟨_,by rw [ES e]; rfl⟩
  ·rw [h] at e
   obtain ⟨i,hi⟩:=ER (out:=fun i=>LO.ret ((3:Int),(i:Int))) (fin:=.exit 4 (s,(m.Certs.length:Int))) e
   exact ⟨_,by rw [hi]; rfl⟩
 ·have hc':(i:Int) < (m.Certs.length:Int):=by omega
  have hb:i≤big:=Nat.le_trans (Nat.le_of_lt hi) (B8 hg.1)
  rw [AK hi] at hp
  unfold Fy
  simp only [hc',decide_true,cond_true,AS hi,obs,in1,Fe]
  unfold Cu at hp
  simp only [hp,cond_false,Ac,obs,wi1 hb]
 ·have hc':(i:Int) < (m.Certs.length:Int):=by omega
  rw [AK hi] at hp
  unfold Fy
  simp only [hc',decide_true,cond_true,AS hi,obs,in1,Fe]
  unfold Cu at hp
  simp only [hp,cond_true,Ac,obs]
  exact ⟨trivial,rfl⟩
 ·unfold Fy
  simp only [Int.lt_irrefl,decide_false,cond_false]
  exact ⟨trivial,rfl⟩
theorem refL (m:Ah) (hg:AO m) (s:Int):∃ j,Ar (Fx m) NN (s,0) = some (bif m.Refs.any D4 then .ret (3,j) else .exit 6 (s,j)):=by
 rw [AG (f:=Fx m) (s0:=(s,0)) (fun i=>(s,(i:Int))) m.Refs.length (pAt D4 m.Refs) (fun i=>.ret (3,(i:Int))) (.exit 6 (s,(m.Refs.length:Int))) (fun i hi _ hp=>?_) (fun i hi _ hp=>?_) (fun _=>?_) (Be hg.2) rfl]
 ·have e:=MZ D4 m.Refs
  cases h:m.Refs.any D4
  ·rw [h] at e; exact ⟨_,by rw [ES e]; rfl⟩
  ·rw [h] at e
   obtain ⟨i,hi⟩:=ER (out:=fun i=>LO.ret ((3:Int),(i:Int))) (fin:=.exit 6 (s,(m.Refs.length:Int))) e
   exact ⟨_,by rw [hi]; rfl⟩
 ·have hc':(i:Int) < (m.Refs.length:Int):=by omega
  have hb:i≤big:=Nat.le_trans (Nat.le_of_lt hi) (B8 hg.2)
  rw [AK hi] at hp
  unfold Fx
  unfold D4 at hp
  simp only [hc',decide_true,cond_true,AS hi,obs,in1,hp,cond_false,wi1 hb]
 ·have hc':(i:Int) < (m.Refs.length:Int):=by omega
  rw [AK hi] at hp
  unfold Fx
  unfold D4 at hp
  simp only [hc',decide_true,cond_true,AS hi,obs,in1,hp]
  exact ⟨trivial,rfl⟩
 ·unfold Fx
  simp only [Int.lt_irrefl,decide_false,cond_false]
  exact ⟨trivial,rfl⟩
theorem Wa (m:Ah) (hg:AO m):V2 m = some (bif Dz (m.Certs.map (·.Slot)) then bif Dz m.Refs then bif m.Certs.any (Cu m.View) then 3 else bif m.Refs.any D4 then 3 else 0 else 1 else 1):=by
 unfold V2
 obtain ⟨j1,e1⟩:=aX m hg 0
 rw [e1]
 cases Dz (m.Certs.map (·.Slot))
 ·rfl
 simp only [cond_true,obs,Ac,if_true]
 obtain ⟨j2,e2⟩:=aV m hg 0
 rw [e2]
 cases Dz m.Refs
 ·rfl
 simp only [cond_true,obs,Ac,if_true]
 obtain ⟨j3,e3⟩:=kK m hg 0
 rw [e3]
 cases m.Certs.any (Cu m.View)
 rotate_left
 ·rfl
 simp only [cond_false,obs,Ac,if_true]
 obtain ⟨j4,e4⟩:=refL m hg 0
 rw [e4]
 cases m.Refs.any D4 <;> rfl
theorem Y6 (m:Ah):V3 m = some (IK m):=by
 unfold V3
 rw [Sk]
 simp only [in1,obs,Ac]
 rfl
theorem M9 (f:Int) (m:Ah) (hg:AO m):VB f m = some (DY f m):=by
 unfold VB DY
 rw [Y6,obs,Sj]
 cases hb:IK m
 ·rfl
 have hk:decide (m.Kind≤3) = inR m.Kind 1 3:=by
  unfold IK at hb
  rw [Bool.and_eq_true,Bool.and_eq_true] at hb
  have:=hb.1.1
  unfold inR at this ⊢
  have h1:=of_decide_eq_true this
  exact decide_eq_decide.2 ⟨fun h=>⟨h1.1,h⟩,fun h=>h.2⟩
 simp only [in1,Wk,hk,Bool.not_true,cond_false,cond_true,obs,Ac]
 rw [show (!inR m.View 0 20 || (!inR m.From 1 (BQ f) || (inR m.Kind 1 3 && (!inR m.Slot 1 30 || !inR m.Value 0 12)))) = GF f m from rfl]
 cases hr:GF f m
 rotate_left
 ·rfl
 simp only [cond_false,obs,Ac]
 cases h1:decide ((m.Certs.length:Int) > 30)
 rotate_left
 ·rfl
 simp only [cond_false]
 cases h2:decide ((m.Refs.length:Int) > BQ f)
 rotate_left
 ·have h2':decide ((m.Refs.length:Int) > wi .i64 ((wi .i64 (3 * f)) + 1)) = true:=h2
  rw [h2']; rfl
 have h2':decide ((m.Refs.length:Int) > wi .i64 ((wi .i64 (3 * f)) + 1)) = false:=h2
 simp only [h2',cond_false,obs,Ac,Wa m hg]
theorem kL (m:Ah) (c:Ax):MI c m = some (Cu m.View c):=by
 unfold MI
 rw [Fe]
 simp only [Le,Js,in2,obs,Ac]
 rfl
theorem MA (f:Int) (m:Ah) (hg:AO m):V7 f m = some (DY f m):=by
 unfold V7 DY
 rw [Sl,Sj]
 have hbare:(!((CE m.Kind 1 5 && (QP m.Kind || (!(m.Slot != 0) && !(m.Value != 0)))) && ((!(m.Kind != 4) || !decide ((m.Certs.length:Int) > 0)) && (!(m.Kind != 5) || !decide ((m.Refs.length:Int) > 0))))) = !IK m:=by
  have e1:∀ n:Nat,(!decide ((n:Int) > 0)) = ((n:Int) == 0):=fun n=>by
   cases n with
   | zero=>rfl
   | succ n=>
    have:((n + 1:Nat):Int) > 0:=by omega
    simp only [this,decide_true,Bool.not_true]
    symm
    simp; omega
  simp only [in2,Jw,bne,Bool.not_not,e1]
  rfl
 rw [hbare]
 simp only [obs,Ac]
 cases hb:IK m
 ·rfl
 simp only [Bool.not_true,cond_false,cond_true,obs,Ac,Lc,Hi,Jw,Le,Js]
 rw [show (!inR m.View 0 20 || (!inR m.From 1 (BQ f) || (inR m.Kind 1 3 && (!inR m.Slot 1 30 || !inR m.Value 0 12)))) = GF f m from rfl]
 cases hr:GF f m
 rotate_left
 ·rfl
 simp only [cond_false,obs,Ac]
 cases h1:decide ((m.Certs.length:Int) > 30)
 rotate_left
 ·rfl
 simp only [cond_false]
 cases h2:decide ((m.Refs.length:Int) > BQ f)
 rotate_left
 ·have h2':decide ((m.Refs.length:Int) > IQ f) = true:=h2
  rw [h2']; rfl
 have h2':decide ((m.Refs.length:Int) > IQ f) = false:=h2
 simp only [h2',cond_false,obs,Ac]
 obtain ⟨j1,e1⟩:=aY m hg 0
 rw [e1]
 cases Dz (m.Certs.map (·.Slot))
 ·rfl
 simp only [cond_true,obs,Ac,if_true]
 obtain ⟨j2,e2⟩:=aW m hg 0
 rw [e2]
 cases Dz m.Refs
 ·rfl
 simp only [cond_true,obs,Ac,if_true]
 rw [show QM m.Certs (fun x0_=>MI x0_ m) = some (m.Certs.any (Cu m.View)) from I0 (Be hg.1) (B8 hg.1) (fun x _=>kL m x)]
 cases m.Certs.any (Cu m.View)
 rotate_left
 ·rfl
 simp only [cond_false,obs]
 rw [show QL m.Refs (fun x0_=>some (Od x0_)) = some (m.Refs.any D4) from I0 (Be hg.2) (B8 hg.2) (fun x _=>by unfold Od; rw [in2]; rfl)]
 cases m.Refs.any D4 <;> rfl
open Go Go.Rf
def neC (x1 x2:Ax):Bool:=!(((x1.Slot == x2.Slot) && ((x1.View == x2.View) && ((x1.Value == x2.Value) && true))))
theorem UM (a b:Ax):neC a b = !decide (a = b):=by
 obtain ⟨a1,a2,a3⟩:=a
 obtain ⟨b1,b2,b3⟩:=b
 unfold neC
 congr 1
 rw [Bool.eq_iff_iff]
 simp
theorem UL (a b:Int):(a != b) = !decide (a = b):=by
 rw [Bool.eq_iff_iff]; simp
theorem Yr (xs ys:List Ax) (h:xs.length≤1048576):XS xs ys = some (decide (xs = ys)):=ZR (ne:=neC) UM (Be h) (B8 h)
theorem Py (xs ys:List Int) (h:xs.length≤1048576):VL xs ys = some (decide (xs = ys)):=ZR (ne:=fun a b=>a != b) UL (Be h) (B8 h)
theorem Si (a b c d e p q:Bool):(bif a then
   bif b then
    bif c then
     bif d then
      bif e then
       (some p).bind fun y1=>
       bif y1 then
        (some q).bind fun y2=>
        some (LO.norm y2)
       else
        some (LO.norm false)
      else
       some (LO.norm false)
     else
      some (LO.norm false)
    else
     some (LO.norm false)
   else
    some (LO.norm false)
  else
   some (LO.norm false)) = some (LO.norm (a && (b && (c && (d && (e && (p && q))))))):=by
 cases a <;> cases b <;> cases c <;> cases d <;> cases e <;> cases p <;> cases q <;> rfl
theorem Sg (a b c d e f g:Bool):(bif a then
    some (LO.norm true)
   else
    bif b then
     some (LO.norm true)
    else
     bif c then
      some (LO.norm true)
     else
      bif d then
       some (LO.norm true)
      else
       bif e then
        some (LO.norm true)
       else
        bif f then
         some (LO.norm true)
        else
         some (LO.norm g)) = some (LO.norm (a || (b || (c || (d || (e || (f || g))))))):=by
 cases a <;> cases b <;> cases c <;> cases d <;> cases e <;> cases f <;> cases g <;> rfl
theorem bR (a b:Ah):decide (a = b) = ((a.Kind == b.Kind) && ((a.View == b.View) && ((a.From == b.From) && ((a.Slot == b.Slot) && ((a.Value == b.Value) && (decide (a.Certs = b.Certs) && decide (a.Refs = b.Refs))))))):=by
 obtain ⟨a1,a2,a3,a4,a5,a6,a7⟩:=a
 obtain ⟨b1,b2,b3,b4,b5,b6,b7⟩:=b
 rw [Bool.eq_iff_iff]
 simp
theorem Ql (a b:Ah) (hg:AO a):Vx a b = some (decide (a = b)):=by
 unfold Vx
 rw [Yr _ _ hg.1,Py _ _ hg.2,Si,bR]
 rfl
theorem Qk (a b:Ah) (hg:AO a):Ri a b = some (decide (a = b)):=by
 unfold Ri
 rw [Sg]
 simp only [obs,Ac]
 cases hx:(a.Kind != b.Kind || (a.View != b.View || (a.From != b.From || (a.Slot != b.Slot || (a.Value != b.Value || ((a.Certs.length:Int) != (b.Certs.length:Int) || (a.Refs.length:Int) != (b.Refs.length:Int)))))))
 rotate_left
 ·simp only [cond_true,obs,Ac]
  congr 1
  symm
  rw [decide_eq_false_iff_not]
  rintro rfl
  simp at hx
 simp only [cond_false,obs,Ac]
 simp only [Bool.or_eq_false_iff,bne_eq_false_iff_eq] at hx
 obtain ⟨h1,h2,h3,h4,h5,h6,h7⟩:=hx
 have hl1:a.Certs.length = b.Certs.length:=by omega
 have hl2:a.Refs.length = b.Refs.length:=by omega
 rcases JR (ex:=0) (ne:=neC) (N:=NN) UM (Be hg.1) (B8 hg.1) hl1 with ⟨e1,j,k1⟩ | ⟨e1,j,k1⟩
 rotate_left
 ·rw [show Ar (Jj a b) NN (false,0) = some (.ret (false,j)) from k1]
  simp only [obs,Ac]
  congr 1
  symm
  rw [decide_eq_false_iff_not]
  rintro rfl
  exact e1 rfl
 rw [show Ar (Jj a b) NN (false,0) = some (.exit 0 (false,j)) from k1]
 simp only [obs,Ac,if_true]
 rcases JR (ex:=2) (ne:=fun a b:Int=>a != b) (N:=NN) UL (Be hg.2) (B8 hg.2) hl2 with ⟨e2,j2,k2⟩ | ⟨e2,j2,k2⟩
 rotate_left
 ·rw [show Ar (Ji a b) NN (false,0) = some (.ret (false,j2)) from k2]
  simp only [obs,Ac]
  congr 1
  symm
  rw [decide_eq_false_iff_not]
  rintro rfl
  exact e2 rfl
 rw [show Ar (Ji a b) NN (false,0) = some (.exit 2 (false,j2)) from k2]
 simp only [obs,Ac,if_true]
 congr 1
 symm
 rw [decide_eq_true_eq]
 obtain ⟨a1,a2,a3,a4,a5,a6,a7⟩:=a
 obtain ⟨b1,b2,b3,b4,b5,b6,b7⟩:=b
 simp only at h1 h2 h3 h4 h5 e1 e2
 subst h1; subst h2; subst h3; subst h4; subst h5; subst e1; subst e2
 rfl
def atM (xs:List Ah) (m:Ah):Int:=ixI (BB (pAt (fun x=>decide (x = m)) xs) xs.length)
theorem LS (xs:List Ah) (m:Ah) (h:xs.length≤1048576) (g:∀ x∈xs,AO x):QU xs m = some (atM xs m):=by
 unfold QU
 rw [show Vy xs (fun x0_=>Oc x0_ m) = some (atM xs m) from GV (Be h) (B8 h) (fun x hx=>by unfold Oc; rw [Ql x m (g x hx)]; rfl)]
 rfl
theorem Jo (xs:List Ah) (m:Ah) (h:xs.length≤1048576) (g:∀ x∈xs,AO x):m76 xs m = some (atM xs m):=GV (f:=fun x=>Ri x m) (Be h) (B8 h) (fun x hx=>Qk x m (g x hx))
def Ck (k:Int) (m:Ah):Bool:=m.Refs.any fun r=>decide (r ≥ k)
theorem Ii (m:Ah) (k:Int) (hg:AO m):QV m k = some (!Ck k m):=by
 unfold QV
 rw [show QL m.Refs (fun x0_=>some (QK x0_ k)) = some (Ck k m) from I0 (Be hg.2) (B8 hg.2) (fun x _=>rfl)]
 rfl
theorem K2 (m:Ah) (k:Int) (hg:AO m):XZ m k = some (!Ck k m):=j8 (q:=fun r=>decide (r ≥ k)) (Be hg.2) (B8 hg.2)
noncomputable def F8 (f:Int) (xs:List Ah) (i:Nat):Bool:=(xs[i]?).any fun x=>(DY f x != 0) || (Ck i x || decide (x∈xs.take i))
noncomputable def JK (f:Int) (xs:List Ah) (i:Nat):Int:=match xs[i]? with
 | some x=>bif DY f x != 0 then DY f x else bif Ck i x then 4 else 6
 | none=>0
noncomputable def HU (f:Int) (xs:List Ah):Int:=bif !inR f 1 2 then 3 else bif decide ((xs.length:Int) > 240) then 2 else orF (BB (F8 f xs) xs.length) (JK f xs) 0
theorem Eh {f:Int} {xs:List Ah} {i:Nat} (h:i < xs.length):F8 f xs i = ((DY f xs[i] != 0) || (Ck i xs[i] || decide (xs[i]∈xs.take i))):=by
 unfold F8; rw [List.getElem?_eq_getElem h]; rfl
theorem GO {f:Int} {xs:List Ah} {i:Nat} (h:i < xs.length):JK f xs i = (bif DY f xs[i] != 0 then DY f xs[i] else bif Ck i xs[i] then 4 else 6):=by
 unfold JK; rw [List.getElem?_eq_getElem h]
theorem DF {α:Type} {xs:List α} {i:Nat} (h:i≤xs.length):CU xs 0 (i:Int) = some (xs.take i):=by
 unfold CU
 rw [if_pos ⟨by omega,by omega,by omega⟩]
 simp
theorem Nv {xs:List Ah} {i:Nat} (h:i < xs.length):decide (atM (xs.take i) xs[i] ≥ 0) = decide (xs[i]∈xs.take i):=by
 unfold atM
 rw [Iz,Cc,Bool.eq_iff_iff]
 simp
theorem KV {xs:List Ah} {i:Nat} (h:i < xs.length):(atM xs xs[i] != (i:Int)) = decide (xs[i]∈xs.take i):=by
 unfold atM
 by_cases hm:xs[i]∈xs.take i
 ·rw [decide_eq_true hm]
  obtain ⟨j,hj,e⟩:=List.mem_iff_getElem.1 hm
  rw [List.length_take] at hj
  rw [List.getElem_take] at e
  rcases Cg (pAt (fun x=>decide (x = xs[i])) xs) xs.length with h' | ⟨k,h1,h2,h3⟩
  ·have:=h' j (by omega)
   rw [AK (by omega)] at this
   simp [e] at this
  ·rw [BK h1 h2 h3]
   have hk:k≤j:=by
    rcases Nat.lt_or_ge j k with hlt | hge
    ·have:=h2 j hlt
     rw [AK (by omega)] at this
     simp [e] at this
    ·exact hge
   simp only [ixI,bne_iff_ne,ne_eq]
   omega
 ·rw [decide_eq_false hm]
  rw [BK h (fun j hj=>by
   rw [AK (by omega),decide_eq_false_iff_not]
   intro e
   exact hm (List.mem_iff_getElem.2 ⟨j,by rw [List.length_take]; omega,by rw [List.getElem_take]; exact e⟩)) (by rw [AK h]; simp)]
  simp [ixI]
theorem Wc (f:Int) (xs:List Ah) (h:xs.length≤1048576) (g:∀ x∈xs,AO x):VN f xs = some (HU f xs):=by
 unfold VN HU
 rw [show XY f = inR f 1 2 from in1 _ _ _]
 cases inR f 1 2
 ·rfl
 simp only [Bool.not_true,cond_false]
 cases decide ((xs.length:Int) > 240)
 rotate_left
 ·rfl
 simp only [cond_false]
 rw [AG (f:=Gv f xs) (s0:=(0,0)) (fun i=>(0,(i:Int))) xs.length (F8 f xs) (fun i=>.ret (JK f xs i,(i:Int))) (.exit 1 (0,(xs.length:Int))) (fun i hi _ hp=>?_) (fun i hi _ hp=>?_) (fun _=>?_) (Be h) rfl]
 ·cases BB (F8 f xs) xs.length <;> rfl
 ·have hc':(i:Int) < (xs.length:Int):=by omega
  have gi:=g _ (List.getElem_mem hi)
  rw [Eh hi,Bool.or_eq_false_iff,Bool.or_eq_false_iff] at hp
  obtain ⟨p1,p2,p3⟩:=hp
  unfold Gv
  simp only [hc',decide_true,cond_true,AS hi,obs,MA f _ gi,p1,cond_false,Ii _ _ gi,p2,Bool.not_false,Bool.not_true,DF (Nat.le_of_lt hi),LS (xs.take i) xs[i] (by rw [List.length_take]; omega) (fun x hx=>g x (List.mem_of_mem_take hx)),Nv hi,p3,wi1 (show i≤1099511627776 by omega)]
 ·have hc':(i:Int) < (xs.length:Int):=by omega
  have gi:=g _ (List.getElem_mem hi)
  rw [Eh hi] at hp
  rw [GO hi]
  unfold Gv
  simp only [hc',decide_true,cond_true,AS hi,obs,MA f _ gi,Ii _ _ gi,DF (Nat.le_of_lt hi),LS (xs.take i) xs[i] (by rw [List.length_take]; omega) (fun x hx=>g x (List.mem_of_mem_take hx)),Nv hi]
  cases e1:DY f xs[i] != 0
  ·cases e2:Ck i xs[i]
   ·rw [e1,e2,Bool.false_or,Bool.false_or] at hp
    rw [hp]
    exact ⟨rfl,rfl⟩
   ·exact ⟨rfl,rfl⟩
  ·exact ⟨rfl,rfl⟩
 ·unfold Gv
  simp only [Int.lt_irrefl,decide_false,cond_false]
  exact ⟨trivial,rfl⟩
theorem Wb (f:Int) (xs:List Ah) (h:xs.length≤1048576) (g:∀ x∈xs,AO x):m65 f xs = some (HU f xs):=by
 unfold m65 m93 HU
 rw [show m92 f = inR f 1 2 from in1 _ _ _]
 cases inR f 1 2
 ·rfl
 simp only [Bool.not_true,cond_false]
 cases decide ((xs.length:Int) > 240)
 rotate_left
 ·rfl
 simp only [cond_false]
 rw [AG (f:=Ir f xs) (s0:=(0,0)) (fun i=>(0,(i:Int))) xs.length (F8 f xs) (fun i=>.ret (JK f xs i,(i:Int))) (.exit 0 (0,(xs.length:Int))) (fun i hi _ hp=>?_) (fun i hi _ hp=>?_) (fun _=>?_) (Be h) rfl]
 ·cases BB (F8 f xs) xs.length <;> rfl
 ·have hc':(i:Int) < (xs.length:Int):=by omega
  have gi:=g _ (List.getElem_mem hi)
  rw [Eh hi,Bool.or_eq_false_iff,Bool.or_eq_false_iff] at hp
  obtain ⟨p1,p2,p3⟩:=hp
  unfold Ir
  simp only [hc',decide_true,cond_true,AS hi,obs,M9 f _ gi,p1,cond_false,K2 _ _ gi,p2,Bool.not_false,Bool.not_true,Jo xs xs[i] h g,KV hi,p3,wi1 (show i≤1099511627776 by omega)]
 ·have hc':(i:Int) < (xs.length:Int):=by omega
  have gi:=g _ (List.getElem_mem hi)
  rw [Eh hi] at hp
  rw [GO hi]
  unfold Ir
  simp only [hc',decide_true,cond_true,AS hi,obs,M9 f _ gi,K2 _ _ gi,Jo xs xs[i] h g,KV hi]
  cases e1:DY f xs[i] != 0
  ·cases e2:Ck i xs[i]
   ·rw [e1,e2,Bool.false_or,Bool.false_or] at hp
    rw [hp]
    exact ⟨rfl,rfl⟩
   ·exact ⟨rfl,rfl⟩
  ·exact ⟨rfl,rfl⟩
 ·unfold Ir
  simp only [Int.lt_irrefl,decide_false,cond_false]
  exact ⟨trivial,rfl⟩
structure Xn (f:Int) (m:Ah):Prop where
 kind:1≤m.Kind∧m.Kind≤5
 bare:4≤m.Kind→m.Slot = 0∧m.Value = 0
 certs0:m.Kind≠4→m.Certs = []
 refs0:m.Kind≠5→m.Refs = []
 view:0≤m.View∧m.View≤20
 frm:1≤m.From∧m.From≤BQ f
 slot:m.Kind≤3→1≤m.Slot∧m.Slot≤30
 value:m.Kind≤3→0≤m.Value∧m.Value≤12
 certsl:m.Certs.length≤30
 refsl:(m.Refs.length:Int)≤BQ f
 cert:∀ c∈m.Certs,(1≤c.Slot∧c.Slot≤30)∧(0≤c.View∧c.View≤m.View - 1)∧(0≤c.Value∧c.Value≤12)
 ref:∀ r∈m.Refs,0≤r∧r≤239
theorem DJ {n lo hi:Int}:inR n lo hi = true ↔ lo≤n∧n≤hi:=by unfold inR; simp
theorem WN {f:Int} {m:Ah} (h:DY f m = 0):Xn f m:=by
 unfold DY at h
 cases hb:IK m
 ·rw [hb] at h; cases h
 cases hr:GF f m
 rotate_left
 ·rw [hb,hr] at h; cases h
 cases h1:decide ((m.Certs.length:Int) > 30)
 rotate_left
 ·rw [hb,hr,h1] at h; cases h
 cases h2:decide ((m.Refs.length:Int) > BQ f)
 rotate_left
 ·rw [hb,hr,h1,h2] at h; cases h
 rw [hb,hr,h1,h2] at h
 simp only [cond_true,cond_false] at h
 cases h3:Dz (m.Certs.map (·.Slot))
 ·rw [h3] at h; cases h
 cases h4:Dz m.Refs
 ·rw [h3,h4] at h; cases h
 cases h5:m.Certs.any (Cu m.View)
 rotate_left
 ·rw [h3,h4,h5] at h; cases h
 cases h6:m.Refs.any D4
 rotate_left
 ·rw [h3,h4,h5,h6] at h; cases h
 unfold IK at hb
 unfold GF at hr
 simp only [Bool.and_eq_true,Bool.or_eq_true,DJ,beq_iff_eq] at hb
 simp only [Bool.or_eq_false_iff,Bool.not_eq_false',Bool.and_eq_false_imp,DJ] at hr
 obtain ⟨⟨b1,b2⟩,b3,b4⟩:=hb
 obtain ⟨r1,r2,r3⟩:=hr
 rw [decide_eq_false_iff_not] at h1 h2
 rw [List.any_eq_false] at h5 h6
 refine ⟨b1,fun hk=>?_,fun hk=>?_,fun hk=>?_,r1,r2,fun hk=>(r3 ⟨b1.1,hk⟩).1,fun hk=>(r3 ⟨b1.1,hk⟩).2,by omega,by omega,fun c hc=>?_,fun r hr=>?_⟩
 ·rcases b2 with b2 | b2
  ·omega
  ·exact b2
 ·rcases b3 with b3 | b3
  ·exact absurd b3 hk
  ·exact List.eq_nil_of_length_eq_zero (by omega)
 ·rcases b4 with b4 | b4
  ·exact absurd b4 hk
  ·exact List.eq_nil_of_length_eq_zero (by omega)
 ·have:=h5 c hc
  unfold Cu at this
  simp only [Bool.not_eq_true,Bool.or_eq_false_iff,Bool.not_eq_false',DJ] at this
  obtain ⟨c1,c2,c3⟩:=this
  rw [Cx (by omega) (by omega)] at c2
  exact ⟨c1,c2,c3⟩
 ·have:=h6 r hr
  unfold D4 at this
  simp only [Bool.not_eq_true,Bool.not_eq_false',DJ] at this
  exact this
structure Bv (f:Int) (xs:List Ah):Prop where
 f12:1≤f∧f≤2
 len:xs.length≤240
 msg:∀ x∈xs,Xn f x
 refs:∀ (i:Nat) (h:i < xs.length),∀ r∈xs[i].Refs,r < i
 nd:xs.Nodup
theorem WO {f:Int} {xs:List Ah} (h:HU f xs = 0):Bv f xs:=by
 unfold HU at h
 cases h1:inR f 1 2
 ·rw [h1] at h; cases h
 cases h2:decide ((xs.length:Int) > 240)
 rotate_left
 ·rw [h1,h2] at h; cases h
 rw [h1,h2] at h
 simp only [Bool.not_true,cond_false] at h
 have hall:∀ j,j < xs.length→F8 f xs j = false:=by
  rcases Cg (F8 f xs) xs.length with h' | ⟨i,k1,k2,k3⟩
  ·exact h'
  ·rw [BK k1 k2 k3] at h
   simp only [orF] at h
   rw [GO k1] at h
   cases e1:DY f xs[i] != 0
   ·rw [e1] at h
    cases e2:Ck i xs[i] <;> rw [e2] at h <;> cases h
   ·rw [e1] at h
    simp only [cond_true] at h
    rw [h] at e1
    cases e1
 rw [DJ] at h1
 rw [decide_eq_false_iff_not] at h2
 have hi:∀ (i:Nat) (h:i < xs.length),DY f xs[i] = 0∧Ck i xs[i] = false∧xs[i] ∉ xs.take i:=fun i hl=>by
  have:=hall i hl
  rw [Eh hl] at this
  simpa using this
 refine ⟨h1,by omega,fun x hx=>?_,fun i hl r hr=>?_,?_⟩
 ·obtain ⟨i,hl,rfl⟩:=List.mem_iff_getElem.1 hx
  exact WN (hi i hl).1
 ·have:=(hi i hl).2.1
  unfold Ck at this
  rw [List.any_eq_false] at this
  have:=this r hr
  simp at this; omega
 ·rw [List.nodup_iff_pairwise_ne,List.pairwise_iff_getElem]
  intro i j hi1 hj1 hij e
  exact (hi j hj1).2.2 (List.mem_iff_getElem.2 ⟨i,by rw [List.length_take]; omega,by rw [List.getElem_take]; exact e⟩)
open Go Go.Rf
def Dd (n:Nat):List Int:=(List.range n).map fun (j:Nat)=>((j:Int) + 1)
theorem EL (n:Nat):Dd (n + 1) = Dd n++[(n:Int) + 1]:=by simp [Dd,List.range_succ]
theorem RZ (n:Nat) (k:Int):k∈Dd n ↔ 1≤k∧k≤n:=by
 simp only [Dd,List.mem_map,List.mem_range]
 constructor
 ·rintro ⟨j,h,rfl⟩; omega
 ·intro h; exact ⟨(k - 1).toNat,by omega,by omega⟩
theorem Xy (n:Nat):(Dd n).Pairwise (· < ·):=by
 unfold Dd
 rw [List.pairwise_map]
 exact List.pairwise_lt_range.imp fun h=>by omega
theorem Ig:∀ (xs ys:List Int),xs.Pairwise (· < ·)→ys.Pairwise (· < ·)→(∀ k,k∈xs ↔ k∈ys)→xs = ys
 | [],[],_,_,_=>rfl
 | [],y::ys,_,_,h=>by have:=(h y).2 (by simp); cases this
 | x::xs,[],_,_,h=>by have:=(h x).1 (by simp); cases this
 | x::xs,y::ys,hx,hy,h=>by
  rw [List.pairwise_cons] at hx hy
  have e:x = y:=by
   rcases List.mem_cons.1 ((h x).1 (by simp)) with e | e
   ·exact e
   ·rcases List.mem_cons.1 ((h y).2 (by simp)) with e' | e'
    ·exact e'.symm
    ·have:=hy.1 x e; have:=hx.1 y e'; omega
  subst e
  rw [Ig xs ys hx.2 hy.2 fun k=>?_]
  have:=h k
  simp only [List.mem_cons] at this
  constructor
  ·intro hk
   rcases this.1 (.inr hk) with e | e
   ·subst e; have:=hx.1 k hk; omega
   ·exact e
  ·intro hk
   rcases this.2 (.inr hk) with e | e
   ·subst e; have:=hy.1 k hk; omega
   ·exact e
theorem LU {L:List Int} {k:Int} (h:L.length≤1000):Bu 8 L [k] = some (L++[k]):=by
 unfold Bu
 rw [if_pos (by simp; omega)]
theorem CY {f:Int} (h:1≤f∧f≤2):BQ f = 3 * f + 1:=by
 unfold BQ
 rw [Cx (x:=3 * f) (by omega) (by omega),Cx (by omega) (by omega)]
theorem Bv.good {f:Int} {xs:List Ah} (h:Bv f xs):∀ x∈xs,AO x:=fun x hx=>by
 have m:=h.msg x hx
 have:=m.refsl
 have:=CY h.f12
 have:=h.f12
 exact ⟨Nat.le_trans m.certsl (by omega),by omega⟩
theorem Bv.len' {f:Int} {xs:List Ah} (h:Bv f xs):xs.length≤1048576:=Nat.le_trans h.len (by omega)
def FD (k v s a:Int) (x:Ah):Bool:=(x.Kind == k) && ((x.View == v) && ((x.Slot == s) && (x.Value == a)))
def K0 (xs:List Ah) (k v s a id:Int):Bool:=xs.any fun x=>FD k v s a x && (x.From == id)
def Jr (f:Int) (xs:List Ah) (k v s a:Int):List Int:=(Dd (3 * f + 1).toNat).filter (K0 xs k v s a)
theorem Fg {f:Int} {x:Ah} (h:Xn f x) (hk:x.Kind≤3):x.Certs = []∧x.Refs = []:=⟨h.certs0 (by omega),h.refs0 (by omega)⟩
theorem SN {f:Int} {xs:List Ah} (H:Bv f xs) {k v s a id:Int} (hk:k≤3):decide (atM xs (⟨k,v,id,s,a,[],[]⟩:Ah) ≥ 0) = K0 xs k v s a id:=by
 unfold atM K0
 rw [Iz,Cc,Bool.eq_iff_iff]
 simp only [List.any_eq_true,decide_eq_true_eq]
 constructor
 ·rintro ⟨x,hx,rfl⟩; exact ⟨_,hx,by simp [FD]⟩
 ·rintro ⟨x,hx,hs⟩
  refine ⟨x,hx,?_⟩
  unfold FD at hs
  simp only [Bool.and_eq_true,beq_iff_eq] at hs
  obtain ⟨⟨h1,h2,h3,h4⟩,h5⟩:=hs
  obtain ⟨e1,e2⟩:=Fg (H.msg x hx) (by omega)
  obtain ⟨x1,x2,x3,x4,x5,x6,x7⟩:=x
  simp only at h1 h2 h3 h4 h5 e1 e2
  subst h1; subst h2; subst h3; subst h4; subst h5; subst e1; subst e2
  rfl
theorem FC {f:Int} (hf:1≤f∧f≤2) {p:Int→Bool} {i:Nat} (hi:i≤7):((Dd i).filter p).length≤1000:=Nat.le_trans (List.length_filter_le _ _) (by simp [Dd]; omega)
theorem N3 {f:Int} {xs:List Ah} (H:Bv f xs) {k:Int} (hk:k≤3) (c:Ax):Vt f xs k c = some (Jr f xs k c.View c.Slot c.Value):=by
 have hf:=H.f12
 have hm:=CY hf
 unfold Vt
 rw [Cf (f:=H7 f xs k c) (s0:=(1,[])) (fun i=>((i:Int) + 1,(Dd i).filter (K0 xs k c.View c.Slot c.Value))) (3 * f + 1).toNat (.exit 0 (((3 * f + 1).toNat:Int) + 1,Jr f xs k c.View c.Slot c.Value)) (fun i hi=>?_) ?_ rfl (Be (by omega)) rfl]
 ·rfl
 ·unfold H7
  have hc:¬ (((3 * f + 1).toNat:Int) + 1≤BQ f):=by omega
  have hc':decide ((((3 * f + 1).toNat:Int) + 1)≤wi .i64 ((wi .i64 (3 * f)) + 1)) = false:=decide_eq_false hc
  dsimp only
  rw [hc',cond_false]
  rfl
 ·unfold H7
  have hc:(i:Int) + 1≤BQ f:=by omega
  have hc':decide ((i:Int) + 1≤wi .i64 ((wi .i64 (3 * f)) + 1)) = true:=decide_eq_true hc
  dsimp only
  rw [hc',cond_true,Jo xs _ H.len' H.good,obs,SN H hk,EL,List.filter_append]
  have e:wi .i64 ((i:Int) + 1 + 1) = ((i + 1:Nat):Int) + 1:=by rw [Cx (by omega) (by omega)]; omega
  cases hs:K0 xs k c.View c.Slot c.Value ((i:Int) + 1)
  ·simp only [cond_false,obs,Ac,e]
   simp [hs]
  ·simp only [cond_true,LU (FC hf (i:=i) (by omega)),obs,Ac,e]
   simp [hs]
theorem X1 (a b c d:Bool):(bif a then
     bif b then
      bif c then
       some (LO.norm d)
      else
       some (LO.norm false)
     else
      some (LO.norm false)
    else
     some (LO.norm false)) = some (LO.norm (a && (b && (c && d)))):=by
 cases a <;> cases b <;> cases c <;> rfl
theorem NK {f:Int} {xs:List Ah} (H:Bv f xs) {k:Int} (hk:k≤3) (v s a:Int) (n:Nat):(((xs.take n).filter (FD k v s a)).map (·.From)).length≤8:=by
 have hf:=H.f12
 have hm:=CY hf
 refine J7 ?_ ?_
 ·rw [List.Nodup,List.pairwise_map]
  have h1:((xs.take n).filter (FD k v s a)).Nodup:=(H.nd.sublist (List.take_sublist _ _)).filter _
  refine List.Pairwise.imp_of_mem (fun {x y} hx hy hxy e=>hxy ?_) h1
  rw [List.mem_filter] at hx hy
  have mx:=H.msg x (List.mem_of_mem_take hx.1)
  have my:=H.msg y (List.mem_of_mem_take hy.1)
  have h2:=hx.2
  have h3:=hy.2
  unfold FD at h2 h3
  simp only [Bool.and_eq_true,beq_iff_eq] at h2 h3
  obtain ⟨a1,a2⟩:=Fg mx (by omega)
  obtain ⟨b1,b2⟩:=Fg my (by omega)
  obtain ⟨x1,x2,x3,x4,x5,x6,x7⟩:=x
  obtain ⟨y1,y2,y3,y4,y5,y6,y7⟩:=y
  simp only at h2 h3 a1 a2 b1 b2 e
  obtain ⟨p1,p2,p3,p4⟩:=h2
  obtain ⟨q1,q2,q3,q4⟩:=h3
  subst p1; subst p2; subst p3; subst p4; subst q1; subst q2; subst q3; subst q4; subst a1; subst a2; subst b1; subst b2; subst e
  rfl
 ·intro z hz
  obtain ⟨x,hx,rfl⟩:=List.mem_map.1 hz
  have:=(H.msg x (List.mem_of_mem_take (List.mem_filter.1 hx).1)).frm
  omega
theorem N4 {f:Int} {xs:List Ah} (H:Bv f xs) {k:Int} (hk:k≤3) (v s a:Int):Vs xs k v s a = some (Jr f xs k v s a):=by
 have hf:=H.f12
 have hm:=CY hf
 have hlen:=NK H hk v s a
 unfold Vs
 rw [Cf (f:=H6 xs k v s a) (s0:=(0,[])) (fun i=>((i:Int),((xs.take i).filter (FD k v s a)).map (·.From))) xs.length (.exit 0 ((xs.length:Int),((xs.take xs.length).filter (FD k v s a)).map (·.From))) (fun i hi=>?_) ?_ rfl (Be H.len') rfl]
 ·have hl:=hlen xs.length
  obtain ⟨ys,k1,k2,k3⟩:=ZX (xs:=((xs.take xs.length).filter (FD k v s a)).map (·.From)) (by omega)
  simp only [obs,Ac,if_true,k1]
  rw [qI (by rw [k2.length_eq]; omega),obs]
  congr 1
  refine Ig _ _ (Kb ys k3) ((Xy _).filter _) fun id=>?_
  rw [Kc,k2.mem_iff,List.take_length]
  unfold Jr K0
  simp only [List.mem_map,List.mem_filter,RZ,List.any_eq_true,Bool.and_eq_true,beq_iff_eq]
  constructor
  ·rintro ⟨x,⟨hx,hs⟩,rfl⟩
   have:=(H.msg x hx).frm
   exact ⟨by omega,x,hx,hs,rfl⟩
  ·rintro ⟨_,x,hx,hs,rfl⟩
   exact ⟨x,⟨hx,hs⟩,rfl⟩
 ·unfold H6
  simp only [Int.lt_irrefl,decide_false,cond_false]
 ·have hc':(i:Int) < (xs.length:Int):=by omega
  have hil:i≤1099511627776:=by have:=H.len; omega
  unfold H6
  simp only [hc',decide_true,cond_true,AS hi,obs,X1,Ac]
  rw [De hi,List.filter_append,List.map_append]
  have hl:=hlen i
  have e:(xs[i].Kind == k && (xs[i].View == v && (xs[i].Slot == s && (xs[i].Value == a)))) = FD k v s a xs[i]:=rfl
  rw [e]
  cases hs:FD k v s a xs[i]
  ·simp only [cond_false,obs,Ac,wi1 hil]
   simp [hs]
  ·simp only [cond_true,LU (L:=((xs.take i).filter (FD k v s a)).map (·.From)) (by omega),obs,Ac,wi1 hil]
   simp [hs]
def KG (f:Int):Int:=wi .i64 ((wi .i64 (2 * f)) + 1)
def G3 (f:Int) (xs:List Ah) (k v s a:Int):Bool:=decide (((Jr f xs k v s a).length:Int) ≥ KG f)
theorem IF {f:Int} {xs:List Ah} (H:Bv f xs) {k:Int} (hk:k≤3) (v s a:Int):QJ f xs k v s a = some (G3 f xs k v s a):=by
 unfold QJ
 rw [N4 H hk]; rfl
theorem Gb {f:Int} {xs:List Ah} (H:Bv f xs) {k:Int} (hk:k≤3) (c:Ax):QQ f xs k c = some (G3 f xs k c.View c.Slot c.Value):=by
 unfold QQ
 rw [N3 H hk]; rfl
def Kf (f:Int) (xs:List Ah) (c:Ax):Bool:=G3 f xs 2 c.View c.Slot c.Value
theorem R9 {f:Int} {xs:List Ah} (H:Bv f xs) (c:Ax) (h1:1≤c.Slot∧c.Slot≤30) (h2:0≤c.View∧c.View≤20) (h3:0≤c.Value∧c.Value≤12):Vu f xs c = some (Kf f xs c):=by
 unfold Vu
 rw [Le,Lc,Js,DJ.2 h1,DJ.2 h2,DJ.2 h3,IF H (by omega)]
 rfl
open Go Go.Rf
theorem C0 {α:Type} {xs:List α} {i:Int} {x:α} (h:Al xs i = some x):x∈xs:=by
 unfold Al at h
 split at h
 ·exact List.mem_of_getElem? h
 ·cases h
theorem LD {α:Type} {xs:List α} (hl:xs.length≤1048576) (i:Int):inR i 0 (wi .i64 ((xs.length:Int) - 1)) = (Al xs i).isSome:=by
 rw [Cx (by omega) (by omega)]
 unfold Al
 by_cases h:0≤i
 ·rw [if_pos h]
  by_cases h2:i.toNat < xs.length
  ·rw [List.getElem?_eq_getElem h2]
   exact DJ.2 ⟨h,by omega⟩
  ·rw [List.getElem?_eq_none (by omega)]
   refine Bool.eq_false_iff.2 fun h3=>?_
   have:=DJ.1 h3; omega
 ·rw [if_neg h]
  refine Bool.eq_false_iff.2 fun h3=>?_
  have:=DJ.1 h3; omega
theorem ZH {xs:List Ah} (hl:xs.length≤1048576) (i k:Int):MJ xs i k = some (match Al xs i with | some m=>(m,(m.Kind == k) && decide (m.View > 0)) | none=>((⟨0,0,0,0,0,[],[]⟩:Ah),false)):=by
 unfold MJ
 rw [in2,LD hl]
 cases hg:Al xs i with
 | none=>rfl
 | some m=>
  simp only [Option.isSome_some,Bool.not_true,cond_false,obs]
  cases m.Kind == k <;> rfl
theorem Wh {xs:List Ah} (hl:xs.length≤1048576) (i k:Int):m70 xs i k = some (match Al xs i with | some m=>m.Kind == k | none=>false):=by
 unfold m70
 rw [in1,LD hl]
 cases hg:Al xs i with
 | none=>rfl
 | some m=>rfl
def LN (f:Int) (xs:List Ah) (m:Ah):Bool:=(m.Kind == 4) && (decide (m.View > 0) && !m.Certs.any fun c=>!Kf f xs c)
def DD (f:Int) (xs:List Ah) (i:Int):Bool:=match Al xs i with
 | some m=>LN f xs m
 | none=>false
theorem IJ {f:Int} {xs:List Ah} (H:Bv f xs) (i:Int):V4 f xs i = some (DD f xs i):=by
 unfold V4 DD
 rw [ZH H.len',obs]
 cases hg:Al xs i with
 | none=>rfl
 | some m=>
  have mo:=H.msg m (C0 hg)
  have mv:=mo.view
  dsimp only
  unfold LN
  rw [show QM m.Certs (fun x0_=>Ob x0_ f xs) = some (m.Certs.any fun c=>!Kf f xs c) from I0 (Be (Nat.le_trans mo.certsl (by omega))) (B8 (Nat.le_trans mo.certsl (by omega))) (fun c hc=>by
   unfold Ob
   obtain ⟨c1,c2,c3⟩:=mo.cert c hc
   rw [R9 H c c1 ⟨c2.1,by omega⟩ c3]; rfl)]
  cases m.Kind == 4
  ·rfl
  ·cases decide (m.View > 0) <;> rfl
theorem II {f:Int} {xs:List Ah} (H:Bv f xs) (i:Int):V9 f xs i = some (DD f xs i):=by
 unfold V9 DD
 rw [Wh H.len',obs]
 cases hg:Al xs i with
 | none=>rfl
 | some m=>
  have mo:=H.msg m (C0 hg)
  have hcl:m.Certs.length≤1048576:=Nat.le_trans mo.certsl (by omega)
  dsimp only
  unfold LN
  cases m.Kind == 4
  ·rfl
  simp only [Bool.not_true,cond_false,obs]
  by_cases hv:m.View < 1
  ·have hv':¬ m.View > 0:=by omega
   simp only [hv,hv',decide_true,decide_false,cond_true,obs,Ac,Bool.true_and,Bool.false_and]
  have hv':m.View > 0:=by omega
  simp only [hv,hv',decide_true,decide_false,cond_false,obs,Ac,Bool.true_and]
  rw [AG (f:=Gt f xs i) (s0:=(false,0)) (fun j=>(false,(j:Int))) m.Certs.length (pAt (fun c=>!Kf f xs c) m.Certs) (fun j=>.ret (false,(j:Int))) (.exit 0 (false,(m.Certs.length:Int))) (fun j hj _ hp=>?_) (fun j hj _ hp=>?_) (fun _=>?_) (Be hcl) rfl]
  ·rw [← Cc]
   cases BB (pAt (fun c=>!Kf f xs c) m.Certs) m.Certs.length <;> rfl
  ·rw [AK hj] at hp
   have hc':(j:Int) < (m.Certs.length:Int):=by omega
   unfold Gt
   simp only [hg,hc',decide_true,cond_true,AS hj,obs,Gb H (show (2:Int)≤3 by omega)]
   unfold Kf at hp
   simp only [hp,cond_false,wi1 (show j≤1099511627776 by omega)]
  ·rw [AK hj] at hp
   have hc':(j:Int) < (m.Certs.length:Int):=by omega
   unfold Gt
   simp only [hg,hc',decide_true,cond_true,AS hj,obs,Gb H (show (2:Int)≤3 by omega)]
   unfold Kf at hp
   simp only [hp]
   exact ⟨rfl,rfl⟩
  ·unfold Gt
   simp only [hg,obs,Int.lt_irrefl,decide_false,cond_false]
   exact ⟨trivial,rfl⟩
def Ex (f v:Int):Int:=wi .i64 (1 + v.tmod (BQ f))
theorem Im {f:Int} (hf:1≤f∧f≤2) (v:Int):Oh f v = some (Ex f v):=by
 have hm:=CY hf
 unfold Oh
 rw [XQ]
 unfold Mp
 rw [if_neg (by omega)]; rfl
theorem K5 {f:Int} (hf:1≤f∧f≤2) (v:Int):m71 f v = some (Ex f v):=(rfl:m71 f v = Oh f v).trans (Im hf v)
def CJ (xs:List Ah) (r:Int):Int:=((Al xs r).map (·.View)).getD 0
def BH (xs:List Ah) (r:Int):Int:=((Al xs r).map (·.From)).getD 0
def GH (f:Int) (xs:List Ah) (m:Ah) (i:Nat):Bool:=(m.Refs[i]?).any fun r=>!DD f xs r || (CJ xs r != m.View || decide (BH xs r∈(m.Refs.take i).map (BH xs)))
theorem Fu {f:Int} {xs:List Ah} {m:Ah} {i:Nat} (h:i < m.Refs.length):GH f xs m i = (!DD f xs m.Refs[i] || (CJ xs m.Refs[i] != m.View || decide (BH xs m.Refs[i]∈(m.Refs.take i).map (BH xs)))):=by
 unfold GH; rw [List.getElem?_eq_getElem h]; rfl
def bQ (f:Int) (xs:List Ah) (m:Ah):Bool:=((m.Kind == 5) && decide (m.View > 0)) && ((m.From == Ex f m.View) && (!decide ((m.Refs.length:Int) < KG f) && (BB (GH f xs m) m.Refs.length).isNone))
def G7 (f:Int) (xs:List Ah) (i:Int):Bool:=match Al xs i with
 | some m=>bQ f xs m
 | none=>false
theorem EA {f:Int} {xs:List Ah} {r:Int} (h:DD f xs r = true):∃ x,Al xs r = some x∧CJ xs r = x.View∧BH xs r = x.From:=by
 unfold DD at h
 cases hg:Al xs r with
 | none=>rw [hg] at h; cases h
 | some x=>exact ⟨x,rfl,by simp [CJ,hg],by simp [BH,hg]⟩
theorem M8 {f:Int} {xs:List Ah} (H:Bv f xs) (i:Int):Rb f xs i = some (G7 f xs i):=by
 unfold Rb G7
 have hf:=H.f12
 have hm:=CY hf
 rw [ZH H.len',obs]
 cases hg:Al xs i with
 | none=>rfl
 | some m=>
  have mo:=H.msg m (C0 hg)
  have hrl:m.Refs.length≤7:=by have:=mo.refsl; omega
  dsimp only
  unfold bQ
  cases e1:(m.Kind == 5 && decide (m.View > 0))
  ·rfl
  simp only [Bool.not_true,cond_false,Im hf,obs,Bool.true_and]
  cases e2:m.From == Ex f m.View
  ·have:(m.From != Ex f m.View) = true:=by unfold bne; rw [e2]; rfl
   rw [this]; rfl
  have:(m.From != Ex f m.View) = false:=by unfold bne; rw [e2]; rfl
  rw [this]
  simp only [cond_false,obs,Ac,Bool.true_and]
  rw [show decide ((m.Refs.length:Int) < wi .i64 ((wi .i64 (2 * f)) + 1)) = decide ((m.Refs.length:Int) < KG f) from rfl]
  cases decide ((m.Refs.length:Int) < KG f)
  rotate_left
  ·rfl
  simp only [cond_false,obs,Ac,Bool.not_false,Bool.true_and]
  rw [AG (f:=Gu f xs (m,true)) (s0:=(false,0,[])) (fun j=>(false,(j:Int),(m.Refs.take j).map (BH xs))) m.Refs.length (GH f xs m) (fun j=>.ret (false,(j:Int),(m.Refs.take j).map (BH xs))) (.exit 0 (false,(m.Refs.length:Int),(m.Refs.take m.Refs.length).map (BH xs))) (fun j hj _ hp=>?_) (fun j hj _ hp=>?_) (fun _=>?_) (Be (by omega)) rfl]
  ·cases BB (GH f xs m) m.Refs.length <;> rfl
  ·have hc':(j:Int) < (m.Refs.length:Int):=by omega
   rw [Fu hj,Bool.or_eq_false_iff,Bool.or_eq_false_iff] at hp
   obtain ⟨p1,p2,p3⟩:=hp
   rw [Bool.not_eq_false'] at p1
   obtain ⟨x,g1,g2,g3⟩:=EA p1
   rw [g2] at p2
   rw [g3] at p3
   have hfl:((m.Refs.take j).map (BH xs)).length≤1000:=by simp; omega
   unfold Gu
   simp only [hc',decide_true,cond_true,AS hj,obs,IJ H,p1,Bool.not_true,cond_false,g1,p2]
   rw [show Lv ((m.Refs.take j).map (BH xs)) x.From = some (decide (x.From∈(m.Refs.take j).map (BH xs))) from LE (Be (by omega)) (B8 (by omega)),p3]
   simp only [obs,Ac,cond_false,g1,LU hfl,wi1 (show j≤1099511627776 by omega)]
   rw [De hj,List.map_append]
   simp [g3]
  ·have hc':(j:Int) < (m.Refs.length:Int):=by omega
   rw [Fu hj] at hp
   have hfl:((m.Refs.take j).map (BH xs)).length≤1000:=by simp; omega
   unfold Gu
   simp only [hc',decide_true,cond_true,AS hj,obs,IJ H]
   cases p1:DD f xs m.Refs[j]
   ·exact ⟨rfl,rfl⟩
   obtain ⟨x,g1,g2,g3⟩:=EA p1
   rw [p1,g2,g3] at hp
   simp only [Bool.not_true,cond_false,g1,obs]
   cases p2:x.View != m.View
   rotate_left
   ·exact ⟨rfl,rfl⟩
   rw [p2] at hp
   rw [show Lv ((m.Refs.take j).map (BH xs)) x.From = some (decide (x.From∈(m.Refs.take j).map (BH xs))) from LE (Be (by omega)) (B8 (by omega))]
   simp only [Bool.not_true,Bool.false_or] at hp
   rw [hp]
   exact ⟨rfl,rfl⟩
  ·unfold Gu
   simp only [Int.lt_irrefl,decide_false,cond_false]
   exact ⟨trivial,rfl⟩
theorem KJ {xs:List Ah} {rs:List Int} (hl:rs.length≤1048576) (hr:∀ r∈rs,∃ x,Al xs r = some x) (v:Int):V8 xs rs v = some (decide (v∈rs.map (BH xs))):=by
 unfold V8
 rw [AG (f:=Gs xs rs v) (s0:=(false,0)) (fun j=>(false,(j:Int))) rs.length (pAt (fun r=>BH xs r == v) rs) (fun j=>.ret (true,(j:Int))) (.exit 0 (false,(rs.length:Int))) (fun j hj _ hp=>?_) (fun j hj _ hp=>?_) (fun _=>?_) (Be hl) rfl]
 ·have e:decide (v∈rs.map (BH xs)) = rs.any fun r=>BH xs r == v:=by
   rw [Bool.eq_iff_iff]
   simp
  rw [e,← Cc]
  cases BB (pAt (fun r=>BH xs r == v) rs) rs.length <;> rfl
 ·rw [AK hj] at hp
  have hc':(j:Int) < (rs.length:Int):=by omega
  obtain ⟨x,g⟩:=hr _ (List.getElem_mem hj)
  have g3:BH xs rs[j] = x.From:=by simp [BH,g]
  rw [g3] at hp
  unfold Gs
  simp only [hc',decide_true,cond_true,AS hj,obs,g,hp,cond_false,wi1 (show j≤1099511627776 by omega)]
 ·rw [AK hj] at hp
  have hc':(j:Int) < (rs.length:Int):=by omega
  obtain ⟨x,g⟩:=hr _ (List.getElem_mem hj)
  have g3:BH xs rs[j] = x.From:=by simp [BH,g]
  rw [g3] at hp
  unfold Gs
  simp only [hc',decide_true,cond_true,AS hj,obs,g,hp]
  exact ⟨trivial,rfl⟩
 ·unfold Gs
  simp only [Int.lt_irrefl,decide_false,cond_false]
  exact ⟨trivial,rfl⟩
theorem Bv.ref_in {f:Int} {xs:List Ah} (H:Bv f xs) {m:Ah} (hm:m∈xs):∀ r∈m.Refs,∃ x,Al xs r = some x:=fun r hr=>by
 have h1:=(H.msg m hm).ref r hr
 obtain ⟨i,hi,rfl⟩:=List.mem_iff_getElem.1 hm
 have h2:=H.refs i hi r hr
 refine ⟨xs[r.toNat]'(by omega),?_⟩
 unfold Al
 rw [if_pos h1.1,List.getElem?_eq_getElem]
theorem M7 {f:Int} {xs:List Ah} (H:Bv f xs) (i:Int):VS f xs i = some (G7 f xs i):=by
 unfold VS G7
 have hf:=H.f12
 have hm:=CY hf
 rw [Wh H.len',obs]
 cases hg:Al xs i with
 | none=>rfl
 | some m=>
  have mo:=H.msg m (C0 hg)
  have hrl:m.Refs.length≤7:=by have:=mo.refsl; omega
  have hri:=H.ref_in (C0 hg)
  dsimp only
  unfold bQ
  cases e1:(m.Kind == 5)
  ·rfl
  simp only [Bool.not_true,cond_false,K5 hf,obs,Bool.true_and]
  by_cases hv:m.View < 1
  ·have hv':¬ m.View > 0:=by omega
   simp only [hv,hv',decide_true,decide_false,cond_true,obs,Ac,Bool.true_and,Bool.false_and]
  have hv':m.View > 0:=by omega
  simp only [hv,hv',decide_true,decide_false,cond_false,obs,Ac,Bool.true_and]
  cases e2:m.From == Ex f m.View
  ·have:(m.From != Ex f m.View) = true:=by unfold bne; rw [e2]; rfl
   rw [this]; rfl
  have:(m.From != Ex f m.View) = false:=by unfold bne; rw [e2]; rfl
  rw [this]
  simp only [cond_false,obs,Ac,Bool.true_and]
  rw [show decide ((m.Refs.length:Int) < VA f) = decide ((m.Refs.length:Int) < KG f) from rfl]
  cases decide ((m.Refs.length:Int) < KG f)
  rotate_left
  ·rfl
  simp only [cond_false,obs,Ac,Bool.not_false,Bool.true_and]
  rw [AG (f:=Gw f xs m) (s0:=(false,0)) (fun j=>(false,(j:Int))) m.Refs.length (GH f xs m) (fun j=>.ret (false,(j:Int))) (.exit 0 (false,(m.Refs.length:Int))) (fun j hj _ hp=>?_) (fun j hj _ hp=>?_) (fun _=>?_) (Be (by omega)) rfl]
  ·cases BB (GH f xs m) m.Refs.length <;> rfl
  ·have hc':(j:Int) < (m.Refs.length:Int):=by omega
   rw [Fu hj,Bool.or_eq_false_iff,Bool.or_eq_false_iff] at hp
   obtain ⟨p1,p2,p3⟩:=hp
   rw [Bool.not_eq_false'] at p1
   obtain ⟨x,g1,g2,g3⟩:=EA p1
   rw [g2] at p2
   rw [g3] at p3
   unfold Gw
   simp only [hc',decide_true,cond_true,AS hj,obs,II H,p1,Bool.not_true,cond_false,g1,p2,DF (Nat.le_of_lt hj)]
   rw [KJ (by rw [List.length_take]; omega) (fun r hr=>hri r (List.mem_of_mem_take hr)),p3]
   simp only [obs,Ac,cond_false,wi1 (show j≤1099511627776 by omega)]
  ·have hc':(j:Int) < (m.Refs.length:Int):=by omega
   rw [Fu hj] at hp
   unfold Gw
   simp only [hc',decide_true,cond_true,AS hj,obs,II H]
   cases p1:DD f xs m.Refs[j]
   ·exact ⟨rfl,rfl⟩
   obtain ⟨x,g1,g2,g3⟩:=EA p1
   rw [p1,g2,g3] at hp
   simp only [Bool.not_true,cond_false,g1,obs]
   cases p2:x.View != m.View
   rotate_left
   ·exact ⟨rfl,rfl⟩
   rw [p2] at hp
   simp only [cond_false,DF (Nat.le_of_lt hj),obs]
   rw [KJ (by rw [List.length_take]; omega) (fun r hr=>hri r (List.mem_of_mem_take hr))]
   simp only [Bool.not_true,Bool.false_or] at hp
   rw [hp]
   exact ⟨rfl,rfl⟩
  ·unfold Gw
   simp only [Int.lt_irrefl,decide_false,cond_false]
   exact ⟨trivial,rfl⟩
open Go Go.Rf
def FK (n:Nat):List Int:=(List.range n).map fun (j:Nat)=>(j:Int)
theorem Oo (n:Nat):FK (n + 1) = FK n++[(n:Int)]:=by simp [FK,List.range_succ]
theorem Rm (n:Nat) (k:Int):k∈FK n ↔ 0≤k∧k < n:=by
 simp only [FK,List.mem_map,List.mem_range]
 constructor
 ·rintro ⟨j,h,rfl⟩; omega
 ·intro h; exact ⟨k.toNat,by omega,by omega⟩
theorem Wy (n:Nat):(FK n).Pairwise (· < ·):=by
 unfold FK
 rw [List.pairwise_map]
 exact List.pairwise_lt_range.imp fun h=>by omega
def IH (f:Int) (xs:List Ah) (s v:Int) (x:Ah):Bool:=((x.Kind == 3) && ((x.Slot == s) && (x.Value == v))) && G3 f xs 3 x.View s v
def Ks (f:Int) (xs:List Ah) (s v:Int):Bool:=xs.any (IH f xs s v)
def Fc (f:Int) (xs:List Ah) (s:Int):List Int:=(FK 13).filter (Ks f xs s)
theorem X3 (a b c:Bool):(bif a then
     bif b then
      some (LO.norm c)
     else
      some (LO.norm false)
    else
     some (LO.norm false)) = some (LO.norm (a && (b && c))):=by
 cases a <;> cases b <;> rfl
theorem Xd {α:Type} {xs:List α} {q:α→Bool} {i:Nat} (h:i < xs.length):(xs.take (i + 1)).any q = ((xs.take i).any q || q xs[i]):=by
 rw [De h,List.any_append]; simp
theorem Rs {f:Int} {xs:List Ah} (H:Bv f xs) (s v:Int) (L:List Int):∃ j,Ar (HA f xs s (v,L)) NN (false,0) = some (.exit 2 (Ks f xs s v,j)):=by
 obtain ⟨o,h1,j,rfl⟩:=DI (f:=HA f xs s (v,L)) (fun i t=>t = ((xs.take i).any (IH f xs s v),(i:Int))) xs.length (fun o=>∃ j,o = .exit 2 (Ks f xs s v,j)) (fun i t hi ht=>by
  subst ht
  unfold HA
  dsimp only
  by_cases hc:i < xs.length
  ·have hc':(i:Int) < (xs.length:Int):=by omega
   simp only [hc',decide_true,cond_true,obs,Ac]
   cases hf:(xs.take i).any (IH f xs s v)
   ·simp only [Bool.not_false,cond_true,obs,Ac,AS hc,X3]
    have e:=Xd (q:=IH f xs s v) hc
    rw [hf,Bool.false_or] at e
    rw [Gb H (show (3:Int)≤3 by omega)]
    refine .inl ⟨hc,((xs.take (i + 1)).any (IH f xs s v),((i + 1:Nat):Int)),?_,rfl⟩
    rw [e]
    unfold IH
    cases (xs[i].Kind == 3 && (xs[i].Slot == s && (xs[i].Value == v)))
    ·simp only [cond_false,obs,Ac,wi1 (show i≤1099511627776 by have:=H.len; omega),Bool.false_and]
    ·simp only [cond_true,obs,Ac,wi1 (show i≤1099511627776 by have:=H.len; omega),Bool.true_and]
   ·simp only [Bool.not_true,cond_false,obs,Ac]
    refine .inr (.inl ⟨_,_,rfl,(i:Int),?_⟩)
    have:Ks f xs s v = true:=by
     unfold Ks
     rw [List.any_eq_true] at hf ⊢
     obtain ⟨x,hx,hq⟩:=hf
     exact ⟨x,List.mem_of_mem_take hx,hq⟩
    rw [this]
  ·have hc':¬ (i:Int) < (xs.length:Int):=by omega
   have:i = xs.length:=by omega
   subst this
   simp only [hc',decide_false,cond_false,obs,Ac,List.take_length]
   exact .inr (.inl ⟨_,_,rfl,_,rfl⟩)) NN 0 (false,0) (Nat.zero_le _) (Be H.len') rfl
 exact ⟨j,h1⟩
theorem W2 (p:Int→Bool) {i:Nat} (hi:i≤13):((FK i).filter p).length≤1000:=Nat.le_trans (List.length_filter_le _ _) (by simp [FK]; omega)
theorem Nk {f:Int} {xs:List Ah} (H:Bv f xs) (s:Int):V1 f xs s = some (Fc f xs s):=by
 unfold V1
 rw [Cf (f:=H9 f xs s) (s0:=(0,[])) (fun i=>((i:Int),(FK i).filter (Ks f xs s))) 13 (.exit 0 (13,Fc f xs s)) (fun i hi=>?_) ?_ rfl (Be (by omega)) rfl]
 ·rfl
 ·unfold H9
  rfl
 ·unfold H9
  have hc:(i:Int)≤12:=by omega
  have e:wi .i64 ((i:Int) + 1) = ((i + 1:Nat):Int):=wi1 (by omega)
  obtain ⟨j,hj⟩:=Rs H s (i:Int) ((FK i).filter (Ks f xs s))
  simp only [hc,decide_true,cond_true,hj,obs,Ac,if_true]
  rw [Oo,List.filter_append]
  cases hd:Ks f xs s (i:Int)
  ·simp only [cond_false,obs,Ac,e]
   simp [hd]
  ·simp only [cond_true,LU (W2 (Ks f xs s) (i:=i) (by omega)),obs,Ac,e]
   simp [hd]
def DX (p:Ah→Bool) (L:List Int) (x:Ah):List Int:=if (p x && !decide (x.Value∈L)) = true then L++[x.Value] else L
theorem SD (p:Ah→Bool) (L:List Int) (x:Ah):DX p L x = bif (p x && !decide (x.Value∈L)) then L++[x.Value] else L:=by
 unfold DX; rw [Y4]
theorem JU (p:Ah→Bool):∀ (l:List Ah) (L:List Int) (v:Int),v∈l.foldl (DX p) L ↔ v∈L∨∃ x∈l,p x = true∧x.Value = v
 | [],L,v=>by simp
 | x::l,L,v=>by
  rw [List.foldl_cons,JU p l]
  unfold DX
  by_cases h:(p x && !decide (x.Value∈L)) = true
  ·rw [if_pos h,List.mem_append,List.mem_singleton]
   rw [Bool.and_eq_true] at h
   constructor
   ·rintro ((h1 | rfl) | ⟨y,hy,h2⟩)
    ·exact .inl h1
    ·exact .inr ⟨x,by simp,h.1,rfl⟩
    ·exact .inr ⟨y,by simp [hy],h2⟩
   ·rintro (h1 | ⟨y,hy,h2,h3⟩)
    ·exact .inl (.inl h1)
    ·rcases List.mem_cons.1 hy with rfl | hy
     ·exact .inl (.inr h3.symm)
     ·exact .inr ⟨y,hy,h2,h3⟩
  ·rw [if_neg h]
   constructor
   ·rintro (h1 | ⟨y,hy,h2⟩)
    ·exact .inl h1
    ·exact .inr ⟨y,by simp [hy],h2⟩
   ·rintro (h1 | ⟨y,hy,h2,h3⟩)
    ·exact .inl h1
    ·rcases List.mem_cons.1 hy with rfl | hy
     ·left
      rw [h2] at h
      simp at h
      rw [← h3]; exact h
     ·exact .inr ⟨y,hy,h2,h3⟩
theorem LF (p:Ah→Bool):∀ (l:List Ah) (L:List Int),L.Nodup→(l.foldl (DX p) L).Nodup
 | [],L,h=>h
 | x::l,L,h=>by
  rw [List.foldl_cons]
  refine LF p l _ ?_
  unfold DX
  by_cases hc:(p x && !decide (x.Value∈L)) = true
  ·rw [if_pos hc]
   rw [Bool.and_eq_true] at hc
   have h2:=hc.2
   simp at h2
   rw [List.nodup_append]
   refine ⟨h,by simp,fun a ha b hb e=>?_⟩
   rw [List.mem_singleton] at hb
   subst hb; subst e
   exact h2 ha
  ·rw [if_neg hc]; exact h
def Eo (f:Int) (xs:List Ah) (s:Int) (x:Ah):Bool:=(x.Kind == 3) && ((x.Slot == s) && G3 f xs 3 x.View s x.Value)
theorem Wz {f:Int} {xs:List Ah} (H:Bv f xs) (s:Int) (n:Nat):((xs.take n).foldl (DX (Eo f xs s)) []).length≤13:=by
 refine J7 (LF _ _ _ List.nodup_nil) fun v hv=>?_
 rw [JU] at hv
 rcases hv with hv | ⟨x,hx,hp,rfl⟩
 ·cases hv
 ·unfold Eo at hp
  rw [Bool.and_eq_true,beq_iff_eq] at hp
  have:=(H.msg x (List.mem_of_mem_take hx)).value (by omega)
  omega
theorem aS (a b c d:Bool):(bif a then
     bif b then
      (some c).bind fun y1=>
      bif !y1 then
       (some d).bind fun y2=>
       some (LO.norm y2)
      else
       some (LO.norm false)
     else
      some (LO.norm false)
    else
     some (LO.norm false)) = some (LO.norm ((a && (b && d)) && !c)):=by
 cases a <;> cases b <;> cases c <;> cases d <;> rfl
theorem Nl {f:Int} {xs:List Ah} (H:Bv f xs) (s:Int):V6 f xs s = some (Fc f xs s):=by
 have hlen:=Wz H s
 unfold V6
 rw [Cf (f:=HB f xs s) (s0:=(0,[])) (fun i=>((i:Int),(xs.take i).foldl (DX (Eo f xs s)) [])) xs.length (.exit 0 ((xs.length:Int),(xs.take xs.length).foldl (DX (Eo f xs s)) [])) (fun i hi=>?_) ?_ rfl (Be H.len') rfl]
 ·have hl:=hlen xs.length
  obtain ⟨ys,k1,k2,k3⟩:=ZX (xs:=(xs.take xs.length).foldl (DX (Eo f xs s)) []) (by omega)
  simp only [obs,Ac,if_true,k1]
  congr 1
  have hnd:ys.Nodup:=k2.nodup_iff.2 (LF _ _ _ List.nodup_nil)
  refine Ig _ _ ?_ ((Wy _).filter _) fun v=>?_
  ·rw [List.Nodup] at hnd
   exact (List.pairwise_and_iff.2 ⟨k3,hnd⟩).imp fun h=>by omega
  ·rw [k2.mem_iff,List.take_length,JU]
   unfold Fc
   rw [List.mem_filter,Rm]
   unfold Ks
   rw [List.any_eq_true]
   constructor
   ·rintro (h | ⟨x,hx,hp,rfl⟩)
    ·cases h
    ·unfold Eo at hp
     simp only [Bool.and_eq_true,beq_iff_eq] at hp
     have:=(H.msg x hx).value (by omega)
     refine ⟨by omega,x,hx,?_⟩
     unfold IH
     simp only [Bool.and_eq_true,beq_iff_eq]
     exact ⟨⟨hp.1,hp.2.1,trivial⟩,hp.2.2⟩
   ·rintro ⟨_,x,hx,hp⟩
    unfold IH at hp
    simp only [Bool.and_eq_true,beq_iff_eq] at hp
    obtain ⟨⟨h1,h2,h3⟩,h4⟩:=hp
    refine .inr ⟨x,hx,?_,h3⟩
    unfold Eo
    simp only [Bool.and_eq_true,beq_iff_eq]
    subst h3
    exact ⟨h1,h2,h4⟩
 ·unfold HB
  simp only [Int.lt_irrefl,decide_false,cond_false]
 ·have hc':(i:Int) < (xs.length:Int):=by omega
  have hil:i≤1099511627776:=by have:=H.len; omega
  have hl:=hlen i
  unfold HB
  simp only [hc',decide_true,cond_true,AS hi,obs]
  rw [show Lv ((xs.take i).foldl (DX (Eo f xs s)) []) xs[i].Value = some (decide (xs[i].Value∈(xs.take i).foldl (DX (Eo f xs s)) [])) from LE (Be (by omega)) (B8 (by omega)),IF H (show (3:Int)≤3 by omega),aS]
  rw [De hi,List.foldl_append,List.foldl_cons,List.foldl_nil]
  have e:((xs[i].Kind == 3 && (xs[i].Slot == s && G3 f xs 3 xs[i].View s xs[i].Value)) && !decide (xs[i].Value∈(xs.take i).foldl (DX (Eo f xs s)) [])) = (Eo f xs s xs[i] && !decide (xs[i].Value∈(xs.take i).foldl (DX (Eo f xs s)) [])):=rfl
  rw [e]
  rw [SD]
  cases hs:(Eo f xs s xs[i] && !decide (xs[i].Value∈(xs.take i).foldl (DX (Eo f xs s)) []))
  ·simp only [obs,Ac,cond_false,wi1 hil]
  ·simp only [obs,Ac,cond_true,LU (show ((xs.take i).foldl (DX (Eo f xs s)) []).length≤1000 by omega),wi1 hil]
def GR (f:Int) (xs:List Ah) (i:Nat):List Int:=(Dd i).map fun s=>(Fc f xs s).headD 0
def Ft (f:Int) (xs:List Ah) (i:Nat):Bool:=(Fc f xs ((i:Int) + 1)).isEmpty
def Ix (f:Int) (xs:List Ah):List Int:=orF (BB (Ft f xs) 30) (GR f xs) (GR f xs 30)
theorem Pp (f:Int) (xs:List Ah) (i:Nat):(GR f xs i).length = i:=by simp [GR,Dd]
theorem MV (f:Int) (xs:List Ah) (i:Nat):GR f xs (i + 1) = GR f xs i++[(Fc f xs ((i:Int) + 1)).headD 0]:=by
 unfold GR; rw [EL,List.map_append]; rfl
theorem Hm {l:List Int}:((l.length:Int) == 0) = l.isEmpty:=by
 cases l with
 | nil=>rfl
 | cons x r=>
  rw [Bool.eq_iff_iff]
  simp; omega
theorem MU {l:List Int} (h:l.isEmpty = false):Al l 0 = some (l.headD 0):=by
 cases l with
 | nil=>cases h
 | cons x r=>rfl
theorem Hd {i:Nat} (h:i≤1048576):wi .i64 ((i:Int) + 1 + 1) = ((i + 1:Nat):Int) + 1:=by rw [Cx (by omega) (by omega)]; omega
theorem VY {f:Int} {xs:List Ah} (H:Bv f xs):VJ f xs = some (Ix f xs):=by
 unfold VJ Ix
 rw [AG (f:=HE f xs) (s0:=(1,[])) (fun i=>((i:Int) + 1,GR f xs i)) 30 (Ft f xs) (fun i=>.exit 0 ((i:Int) + 1,GR f xs i)) (.exit 0 (31,GR f xs 30)) (fun i hi _ hp=>?_) (fun i hi _ hp=>?_) (fun _=>?_) (Be (by omega)) rfl]
 ·cases BB (Ft f xs) 30 <;> rfl
 ·have hc:(i:Int) + 1≤30:=by omega
  unfold HE
  unfold Ft at hp
  have hl:=Pp f xs i
  simp only [hc,decide_true,cond_true,Nl H,obs,Hm,hp,cond_false,MU hp,LU (show (GR f xs i).length≤1000 by omega),Hd (show i≤1048576 by omega),MV]
 ·have hc:(i:Int) + 1≤30:=by omega
  unfold HE
  unfold Ft at hp
  simp only [hc,decide_true,cond_true,Nl H,obs,Hm,hp]
  exact ⟨trivial,rfl⟩
 ·exact ⟨rfl,rfl⟩
theorem VX {f:Int} {xs:List Ah} (H:Bv f xs):QZ f xs = some (Ix f xs):=by
 unfold QZ Ix
 rw [AG (f:=HD f xs) (s0:=(false,1,[])) (fun i=>(false,(i:Int) + 1,GR f xs i)) 30 (Ft f xs) (fun i=>.ret (true,(i:Int) + 1,GR f xs i)) (.exit 0 (false,31,GR f xs 30)) (fun i hi _ hp=>?_) (fun i hi _ hp=>?_) (fun _=>?_) (Be (by omega)) rfl]
 ·cases BB (Ft f xs) 30 <;> rfl
 ·have hc:(i:Int) + 1≤30:=by omega
  unfold HD
  unfold Ft at hp
  have hl:=Pp f xs i
  simp only [hc,decide_true,cond_true,Nk H,obs,Hm,hp,cond_false,MU hp,LU (show (GR f xs i).length≤1000 by omega),Hd (show i≤1048576 by omega),MV]
 ·have hc:(i:Int) + 1≤30:=by omega
  unfold HD
  unfold Ft at hp
  simp only [hc,decide_true,cond_true,cond_false,Nk H,obs,Hm,hp]
  exact ⟨trivial,rfl⟩
 ·exact ⟨rfl,rfl⟩
open Go Go.Rf
def Jv (f:Int) (xs:List Ah) (r:Ak):Bool:=(r.Start != (-1)) && ((r.View == 0) || (!G7 f xs r.Start || (CJ xs r.Start != r.View)))
def Ih (f:Int) (r:Ak):Bool:=!inR r.Id 1 (BQ f) || (!inR r.View 0 20 || !inR r.Done 0 30)
def Fi (f:Int) (xs:List Ah) (r:Ak):Int:=bif Ih f r then 3 else bif Jv f xs r then 1 else bif decide (r.Done > ((Ix f xs).length:Int)) then 8 else 0
theorem Ho {f:Int} {xs:List Ah} {r:Int} (h:G7 f xs r = true):∃ x,Al xs r = some x∧CJ xs r = x.View:=by
 unfold G7 at h
 cases hg:Al xs r with
 | none=>rw [hg] at h; cases h
 | some x=>exact ⟨x,rfl,by simp [CJ,hg]⟩
theorem Mo {f:Int} {xs:List Ah} (H:Bv f xs) (r:Ak):VI f xs r ((Ix f xs).length:Int) = some (Fi f xs r):=by
 unfold VI Fi
 rw [Hi,Lc,in2,Fe]
 simp only [obs,Ac]
 rw [show (!inR r.Id 1 (BQ f) || (!inR r.View 0 20 || !inR r.Done 0 30)) = Ih f r from rfl]
 cases Ih f r
 rotate_left
 ·rfl
 simp only [cond_false,M8 H,obs]
 unfold Jv
 cases r.Start != (-1)
 ·simp only [cond_false,obs,Ac,Bool.false_and]
  cases decide (r.Done > ((Ix f xs).length:Int)) <;> rfl
 simp only [cond_true,Bool.true_and]
 cases r.View == 0
 rotate_left
 ·rfl
 simp only [cond_false,Bool.false_or]
 cases hn:G7 f xs r.Start
 ·rfl
 obtain ⟨x,g1,g2⟩:=Ho hn
 simp only [Bool.not_true,cond_false,Bool.false_or,g1,obs,g2,Ac]
 cases x.View != r.View
 rotate_left
 ·rfl
 cases decide (r.Done > ((Ix f xs).length:Int)) <;> rfl
theorem NE {f:Int} {xs:List Ah} (H:Bv f xs) (v i:Int) (hv:(v == 0) = false):m72 f xs v i = some (G7 f xs i && (CJ xs i == v)):=by
 unfold m72
 rw [hv,cond_false,M7 H,obs]
 cases hn:G7 f xs i
 ·rfl
 obtain ⟨x,g1,g2⟩:=Ho hn
 rw [g1,g2]; rfl
theorem Mn {f:Int} {xs:List Ah} (H:Bv f xs) (r:Ak):m96 f xs r = some (Fi f xs r):=by
 unfold m96 Fi
 rw [Wk,in1,in1,Fe]
 simp only [obs,Ac]
 rw [show (!inR r.Id 1 (BQ f) || (!inR r.View 0 20 || !inR r.Done 0 30)) = Ih f r from rfl]
 cases hb:Ih f r
 rotate_left
 ·rfl
 have hd:0≤r.Done:=by
  unfold Ih at hb
  simp only [Bool.or_eq_false_iff,Bool.not_eq_false',DJ] at hb
  exact hb.2.2.1
 have tail:((bif decide (r.Done > 0) then
     (QZ f xs).bind fun y2=>
     bif decide (r.Done > (y2.length:Int)) then
      some (LO.ret 8)
     else
      some (LO.norm (0:Int))
    else
     some (LO.norm 0)).bind (Ac (fun s10=>
    some (0:Int)) (fun i5 s10=>
    none) (fun s10=>
    some s10))) = some (bif decide (r.Done > ((Ix f xs).length:Int)) then 8 else 0):=by
  rw [VX H]
  by_cases h0:r.Done > 0
  ·simp only [h0,decide_true,cond_true,obs]
   cases decide (r.Done > ((Ix f xs).length:Int)) <;> rfl
  ·have h1:¬ r.Done > ((Ix f xs).length:Int):=by omega
   simp only [h0,h1,decide_false,cond_false,obs,Ac]
 simp only [cond_false,obs,Ac]
 unfold Jv
 cases r.Start != (-1)
 ·simp only [cond_false,obs,Ac,Bool.false_and]
  exact tail
 simp only [cond_true,Bool.true_and]
 cases hv:r.View == 0
 rotate_left
 ·rfl
 simp only [cond_false,Bool.false_or,NE H _ _ hv,obs,Ac]
 have e:(!(G7 f xs r.Start && (CJ xs r.Start == r.View))) = (!G7 f xs r.Start || (CJ xs r.Start != r.View)):=by
  unfold bne; rw [Bool.not_and]
 rw [e]
 cases (!G7 f xs r.Start || (CJ xs r.Start != r.View))
 rotate_left
 ·rfl
 simp only [cond_false,obs,Ac]
 exact tail
def Nu (f:Int) (bs:List Int) (i:Nat):Bool:=!inR (A bs i) 1 (BQ f) || C7 bs i
def FA (f:Int) (bs:List Int):Int:=orF (BB (Nu f bs) bs.length) (fun i=>bif !inR (A bs i) 1 (BQ f) then 3 else 1) 0
theorem KU {f:Int} {bs:List Int} {i:Nat} (h:i < bs.length):Nu f bs i = (!inR bs[i] 1 (BQ f) || (decide (0 < i) && decide (bs[i]≤bs[i - 1]))):=by
 unfold Nu C7
 rw [Dm h,Dm (show i - 1 < bs.length by omega)]
theorem Nt (f:Int) (bs:List Int) (h:bs.length≤1048576):VM f bs = some (FA f bs):=by
 unfold VM FA
 rw [AG (f:=E0 f bs) (s0:=(0,0)) (fun i=>(0,(i:Int))) bs.length (Nu f bs) (fun i=>.ret (bif !inR (A bs i) 1 (BQ f) then 3 else 1,(i:Int))) (.exit 0 (0,(bs.length:Int))) (fun i hi _ hp=>?_) (fun i hi _ hp=>?_) (fun _=>?_) (Be h) rfl]
 ·cases BB (Nu f bs) bs.length <;> rfl
 ·have hc':(i:Int) < (bs.length:Int):=by omega
  have hb:i≤big:=Nat.le_trans (Nat.le_of_lt hi) (B8 h)
  rw [KU hi,Bool.or_eq_false_iff] at hp
  unfold E0
  simp only [hc',decide_true,cond_true,AS hi,obs,Hi,hp.1,cond_false]
  by_cases h0:0 < i
  ·have h0':(i:Int) > 0:=by omega
   have hp2:=hp.2
   rw [decide_eq_true h0,Bool.true_and] at hp2
   simp only [h0',decide_true,cond_true,Gh h0 hb,AS (show i - 1 < bs.length by omega),obs,hp2,cond_false,Ac,wi1 hb]
  ·have h0':¬ (i:Int) > 0:=by omega
   simp only [h0',decide_false,cond_false,obs,Ac,wi1 hb]
 ·have hc':(i:Int) < (bs.length:Int):=by omega
  have hb:i≤big:=Nat.le_trans (Nat.le_of_lt hi) (B8 h)
  rw [KU hi] at hp
  unfold E0
  simp only [hc',decide_true,cond_true,AS hi,obs,Hi,Dm hi]
  cases hr:!inR bs[i] 1 (BQ f)
  ·rw [hr,Bool.false_or,Bool.and_eq_true] at hp
   have h0:0 < i:=of_decide_eq_true hp.1
   have h0':(i:Int) > 0:=by omega
   simp only [cond_false,h0',decide_true,cond_true,Gh h0 hb,AS (show i - 1 < bs.length by omega),obs,hp.2,Ac]
   exact ⟨trivial,rfl⟩
  ·exact ⟨rfl,rfl⟩
 ·unfold E0
  simp only [Int.lt_irrefl,decide_false,cond_false]
  exact ⟨trivial,rfl⟩
theorem WX (f:Int) (bs:List Int):Lt f bs = E0 f bs:=by
 funext s
 unfold Lt E0
 cases hg:Al bs s.2 with
 | none=>rfl
 | some x=>
  simp only [obs,Wk,Hi]
theorem WY (f:Int) (bs:List Int) (h:bs.length≤1048576):m66 f bs = some (bif decide ((bs.length:Int) > f) then 2 else FA f bs):=by
 unfold m66
 cases decide ((bs.length:Int) > f)
 rotate_left
 ·rfl
 simp only [cond_false]
 rw [WX]
 exact Nt f bs h
def FY (bs:List Int) (id:Int):Bool:=!decide (id∈bs)
def Hl (f:Int) (bs:List Int):List Int:=(Dd (3 * f + 1).toNat).filter (FY bs)
theorem M3 {f:Int} (hf:1≤f∧f≤2) (bs:List Int) (h:bs.length≤1048576):VK f bs = some (Hl f bs):=by
 have hm:=CY hf
 unfold VK
 rw [Cf (f:=HF f bs) (s0:=(1,[])) (fun i=>((i:Int) + 1,(Dd i).filter (FY bs))) (3 * f + 1).toNat (.exit 0 (((3 * f + 1).toNat:Int) + 1,Hl f bs)) (fun i hi=>?_) ?_ rfl (Be (by omega)) rfl]
 ·rfl
 ·unfold HF
  have hc:¬ (((3 * f + 1).toNat:Int) + 1≤BQ f):=by omega
  have hc':decide ((((3 * f + 1).toNat:Int) + 1)≤IQ f) = false:=decide_eq_false hc
  dsimp only
  rw [hc',cond_false]
  rfl
 ·unfold HF
  have hc:(i:Int) + 1≤BQ f:=by omega
  have hc':decide ((i:Int) + 1≤IQ f) = true:=decide_eq_true hc
  dsimp only
  rw [hc',cond_true,show Lv bs ((i:Int) + 1) = some (decide ((i:Int) + 1∈bs)) from LE (Be h) (B8 h),obs,EL,List.filter_append]
  have e:wi .i64 ((i:Int) + 1 + 1) = ((i + 1:Nat):Int) + 1:=Hd (by omega)
  cases hs:FY bs ((i:Int) + 1)
  ·have hs':(!decide ((i:Int) + 1∈bs)) = false:=hs
   simp only [hs',cond_false,obs,Ac,e]
   simp [hs]
  ·have hs':(!decide ((i:Int) + 1∈bs)) = true:=hs
   simp only [hs',cond_true,LU (FC hf (p:=FY bs) (i:=i) (by omega)),obs,Ac,e]
   simp [hs]
theorem Pn (bs:List Int) (v:Int) (h:bs.length≤1048576):m95 bs v = some (!FY bs v):=by
 unfold m95
 rw [AG (f:=Iq bs v) (s0:=(false,0)) (fun i=>(false,(i:Int))) bs.length (pAt (fun x=>x == v) bs) (fun i=>.ret (true,(i:Int))) (.exit 0 (false,(bs.length:Int))) (fun i hi _ hp=>?_) (fun i hi _ hp=>?_) (fun _=>?_) (Be h) rfl]
 ·have e:(!FY bs v) = bs.any fun x=>x == v:=by
   unfold FY
   rw [Bool.not_not,Bool.eq_iff_iff]
   simp
  rw [e,← Cc]
  cases BB (pAt (fun x=>x == v) bs) bs.length <;> rfl
 ·rw [AK hi] at hp
  have hc':(i:Int) < (bs.length:Int):=by omega
  unfold Iq
  simp only [hc',decide_true,cond_true,AS hi,obs,hp,cond_false,wi1 (show i≤1099511627776 by omega)]
 ·rw [AK hi] at hp
  have hc':(i:Int) < (bs.length:Int):=by omega
  unfold Iq
  simp only [hc',decide_true,cond_true,AS hi,obs,hp]
  exact ⟨trivial,rfl⟩
 ·unfold Iq
  simp only [Int.lt_irrefl,decide_false,cond_false]
  exact ⟨trivial,rfl⟩
def EU (bs:List Int) (i:Nat):Nat:=((Dd i).filter (FY bs)).length
theorem KP (bs:List Int) (i:Nat):EU bs (i + 1) = EU bs i + if FY bs ((i:Int) + 1) = true then 1 else 0:=by
 unfold EU
 rw [EL,List.filter_append,List.length_append]
 by_cases h:FY bs ((i:Int) + 1) = true
 ·rw [if_pos h]; simp [h]
 ·rw [if_neg h]; simp [h]
theorem Yy (bs:List Int) (i:Nat):EU bs i≤i:=by
 unfold EU
 exact Nat.le_trans (List.length_filter_le _ _) (by simp [Dd])
def I9 (bs ids:List Int) (i:Nat):Bool:=FY bs ((i:Int) + 1) && !decide (ids[EU bs i]? = some ((i:Int) + 1))
theorem MR (bs ids:List Int):∀ n,(∀ j,j < n→I9 bs ids j = false)→(Dd n).filter (FY bs) = ids.take (EU bs n)
 | 0,_=>rfl
 | n + 1,h=>by
  have ih:=MR bs ids n fun j hj=>h j (by omega)
  rw [KP,EL,List.filter_append,ih]
  have h2:=h n (by omega)
  unfold I9 at h2
  by_cases ho:FY bs ((n:Int) + 1) = true
  ·rw [ho,Bool.true_and] at h2
   simp at h2
   rw [if_pos ho,List.take_add_one,h2]
   simp [ho]
  ·rw [if_neg ho]; simp [ho]
theorem Ol (bs ids:List Int) (n:Nat):ids = (Dd n).filter (FY bs) ↔ (∀ j,j < n→I9 bs ids j = false)∧EU bs n = ids.length:=by
 constructor
 ·intro e
  refine ⟨fun j hj=>?_,by rw [e]; rfl⟩
  unfold I9
  cases ho:FY bs ((j:Int) + 1)
  ·rfl
  rw [Bool.true_and,e]
  have e2:Dd n = Dd j++(((j:Int) + 1)::(Dd n).drop (j + 1)):=by
   have e3:(Dd n).take j = Dd j:=by
    unfold Dd
    rw [← List.map_take,List.take_range]
    congr 2; omega
   have hl:j < (Dd n).length:=by simp [Dd]; omega
   have e4:(Dd n)[j] = (j:Int) + 1:=by simp [Dd]
   have:=List.take_append_drop j (Dd n)
   rw [List.drop_eq_getElem_cons hl,e3,e4] at this
   exact this.symm
  rw [e2,List.filter_append,List.filter_cons,if_pos ho]
  have:EU bs j = ((Dd j).filter (FY bs)).length:=rfl
  rw [List.getElem?_append_right (by omega),this,Nat.sub_self]
  simp
 ·rintro ⟨h1,h2⟩
  rw [MR bs ids n h1,h2,List.take_length]
theorem Qq (c:Ae) (hf:1≤c.F∧c.F≤2) (hb:c.Bad.length≤1048576) (hr:c.Replicas.length≤1048576) :
  (c.Replicas.map (·.Id) = Hl c.F c.Bad∧∃ j,Ar (Fw c) NN (0,0,1) = some (.exit 0 (0,(c.Replicas.length:Int),j))) ∨
  (c.Replicas.map (·.Id)≠Hl c.F c.Bad∧((∃ a j,Ar (Fw c) NN (0,0,1) = some (.exit 0 (0,a,j))∧a≠(c.Replicas.length:Int))∨∃ s,Ar (Fw c) NN (0,0,1) = some (.ret s)∧s.1 = 1)):=by
 have hm:=CY hf
 have key:=AG (f:=Fw c) (N:=NN) (s0:=(0,0,1)) (fun i=>(0,(EU c.Bad i:Int),(i:Int) + 1)) (3 * c.F + 1).toNat (I9 c.Bad (c.Replicas.map (·.Id))) (fun i=>.ret (1,(EU c.Bad i:Int),(i:Int) + 1)) (.exit 0 (0,(EU c.Bad (3 * c.F + 1).toNat:Int),((3 * c.F + 1).toNat:Int) + 1)) (fun i hi _ hp=>by
   have hc:(i:Int) + 1≤BQ c.F:=by omega
   have hc':decide ((i:Int) + 1≤wi .i64 ((wi .i64 (3 * c.F)) + 1)) = true:=decide_eq_true hc
   have e:wi .i64 ((i:Int) + 1 + 1) = ((i + 1:Nat):Int) + 1:=Hd (by omega)
   have hcl:=Yy c.Bad i
   unfold Fw
   dsimp only
   rw [hc',cond_true,Pn _ _ hb,obs,KP]
   unfold I9 at hp
   cases ho:FY c.Bad ((i:Int) + 1)
   ·simp [Ac,e]
   ·rw [ho,Bool.true_and] at hp
    simp only [Bool.not_eq_false',decide_eq_true_eq] at hp
    have hlt:EU c.Bad i < c.Replicas.length:=by
     have:=(List.getElem?_eq_some_iff.1 hp).1
     simpa using this
    rw [List.getElem?_map,List.getElem?_eq_getElem hlt,Option.map_some,Option.some.injEq] at hp
    have h1:¬ ((EU c.Bad i:Int) ≥ (c.Replicas.length:Int)):=by omega
    have h2:(c.Replicas[EU c.Bad i].Id != (i:Int) + 1) = false:=by rw [hp]; simp
    simp only [Bool.not_true,cond_false,h1,decide_false,AS hlt,obs,h2,Ac,wi1 (show EU c.Bad i≤1099511627776 by omega),e,if_true]) (fun i hi _ hp=>by
   have hc:(i:Int) + 1≤BQ c.F:=by omega
   have hc':decide ((i:Int) + 1≤wi .i64 ((wi .i64 (3 * c.F)) + 1)) = true:=decide_eq_true hc
   unfold Fw
   dsimp only
   rw [hc',cond_true,Pn _ _ hb,obs]
   unfold I9 at hp
   rw [Bool.and_eq_true] at hp
   rw [hp.1]
   have hp2:=hp.2
   simp only [Bool.not_eq_true',decide_eq_false_iff_not] at hp2
   by_cases h1:((EU c.Bad i:Int) ≥ (c.Replicas.length:Int))
   ·simp only [Bool.not_true,cond_false,h1,decide_true,cond_true,obs,Ac]
    exact ⟨trivial,rfl⟩
   ·have hlt:EU c.Bad i < c.Replicas.length:=by omega
    rw [List.getElem?_map,List.getElem?_eq_getElem hlt,Option.map_some,Option.some.injEq] at hp2
    have h2:(c.Replicas[EU c.Bad i].Id != (i:Int) + 1) = true:=by simpa using hp2
    simp only [Bool.not_true,cond_false,h1,decide_false,AS hlt,obs,h2,cond_true,Ac]
    exact ⟨trivial,rfl⟩) (fun _=>by
   have hc:¬ (((3 * c.F + 1).toNat:Int) + 1≤BQ c.F):=by omega
   have hc':decide ((((3 * c.F + 1).toNat:Int) + 1)≤wi .i64 ((wi .i64 (3 * c.F)) + 1)) = false:=decide_eq_false hc
   unfold Fw
   dsimp only
   rw [hc',cond_false]
   exact ⟨rfl,rfl⟩) (Be (by omega)) rfl
 have hiff:=Ol c.Bad (c.Replicas.map (·.Id)) (3 * c.F + 1).toNat
 rw [List.length_map] at hiff
 rw [key]
 rcases Cg (I9 c.Bad (c.Replicas.map (·.Id))) (3 * c.F + 1).toNat with h | ⟨i,h1,h2,h3⟩
 ·rw [D5 h]
  by_cases hl:EU c.Bad (3 * c.F + 1).toNat = c.Replicas.length
  ·exact .inl ⟨hiff.2 ⟨h,hl⟩,_,by simp only [orF,hl]; rfl⟩
  ·exact .inr ⟨fun e=>hl (hiff.1 e).2,.inl ⟨_,_,rfl,by omega⟩⟩
 ·rw [BK h1 h2 h3]
  refine .inr ⟨fun e=>?_,.inr ⟨_,rfl,rfl⟩⟩
  rw [(hiff.1 e).1 i h1] at h3
  cases h3
open Go Go.Rf
theorem dI {L:List Str} {k:Str} (h:L.length≤1048577):Bu 16 L [k] = some (L++[k]):=by
 unfold Bu
 rw [if_pos (by simp; omega)]
theorem fJ (b:UInt8):((b.toNat:Int) == 47) = (b == 47):=by
 rw [Bool.eq_iff_iff,beq_iff_eq,beq_iff_eq]
 constructor
 ·intro h
  apply UInt8.toNat_inj.1
  have:(47:UInt8).toNat = 47:=rfl
  omega
 ·rintro rfl; rfl
theorem IW {xs:Str} {i j:Nat} (h1:i≤j) (h2:j≤xs.length):CU xs (i:Int) (j:Int) = some ((xs.drop i).take (j - i)):=by
 unfold CU
 rw [if_pos ⟨by omega,by omega,by omega⟩,Int.toNat_natCast,show ((j:Int) - (i:Int)).toNat = j - i by omega]
theorem WJ (a:Str) (h:a.length≤1000):QR a 47 = some (spl 47 a):=by
 unfold QR
 obtain ⟨o,h1,s,rfl,h2⟩:=DI (f:=H8 a 47) (fun i s=>(i≤a.length∧∃ (fr:Nat) (out:List Str),s = ((fr:Int),(i:Int),out)∧fr≤i∧out.length≤i∧out++hd1 ((a.drop fr).take (i - fr)) (spl 47 (a.drop i)) = spl 47 a)∨(i = a.length + 1∧∃ fr:Int,s = (fr,(i:Int),spl 47 a))) (a.length + 1) (fun o=>∃ s,o = .exit 0 s∧s.2.2 = spl 47 a) (fun i s hi hs=>by
  rcases hs with ⟨hil,fr,out,rfl,h1,h2,h3⟩ | ⟨rfl,fr,rfl⟩
  ·unfold H8
   dsimp only
   have hc:(i:Int)≤(a.length:Int):=by omega
   simp only [hc,decide_true,cond_true]
   by_cases he:i = a.length
   ·subst he
    have e1:((a.length:Int) == (a.length:Int)) = true:=by simp
    simp only [e1,cond_true,IW h1 (Nat.le_refl _),obs,dI (show out.length≤1048577 by omega),Ac,wi1 (show a.length≤1099511627776 by omega)]
    refine .inl ⟨by omega,(((a.length + 1:Nat):Int),((a.length + 1:Nat):Int),out++[(a.drop fr).take (a.length - fr)]),rfl,.inr ⟨trivial,((a.length + 1:Nat):Int),?_⟩⟩
    rw [← h3,List.drop_length]
    simp [spl,hd1]
   ·have hlt:i < a.length:=by omega
    have e1:((i:Int) == (a.length:Int)) = false:=by
     rw [Bool.eq_false_iff]; simp; omega
    rw [List.drop_eq_getElem_cons hlt] at h3
    simp only [e1,cond_false,AS hlt,obs,fJ]
    cases hb:a[i] == 47
    ·simp only [cond_false,obs,Ac,wi1 (show i≤1099511627776 by omega)]
     rw [Yh hb] at h3
     refine .inl ⟨by omega,_,rfl,.inl ⟨by omega,fr,out,rfl,by omega,by omega,?_⟩⟩
     rw [← h3]
     congr 2
     rw [show i + 1 - fr = (i - fr) + 1 by omega,List.take_add_one,List.getElem?_drop,show fr + (i - fr) = i by omega,List.getElem?_eq_getElem hlt]
     rfl
    ·simp only [cond_true,IW h1 (Nat.le_of_lt hlt),obs,dI (show out.length≤1048577 by omega),Ac,wi1 (show i≤1099511627776 by omega)]
     rw [Yi hb] at h3
     refine .inl ⟨by omega,_,rfl,.inl ⟨by omega,i + 1,out++[(a.drop fr).take (i - fr)],rfl,by omega,by simp; omega,?_⟩⟩
     rw [← h3]
     simp [Pq _ (NG 47 (a.drop (i + 1)))]
  ·unfold H8
   have hc:¬ (((a.length + 1:Nat):Int)≤(a.length:Int)):=by omega
   simp only [hc,decide_false,cond_false]
   exact .inr (.inl ⟨_,_,rfl,_,rfl,rfl⟩)) NN 0 (0,0,[]) (Nat.zero_le _) (Be (by omega)) (.inl ⟨Nat.zero_le _,0,[],rfl,Nat.le_refl _,Nat.le_refl _,by simp [Pq _ (NG 47 a)]⟩)
 rw [h1]
 simp [Ac,h2]
theorem Ka (a:Str):Lib.countByte a 47≤a.length:=List.count_le_length
theorem Pg (c n:Nat) (h:c≤n):Q8 ((c + 1:Nat):Int) ((n + 1:Nat):Int) = ((c + 1:Nat):Int):=by
 unfold Q8
 rw [if_neg (by omega)]
theorem SH (a:Str) (h:a.length≤1000):Vp a [47] = some (spl 47 a):=by
 unfold Vp XR
 have hcl:=Ka a
 have e0:((-1:Int) == 0) = false:=rfl
 have e1:(([47]:Str) == ([]:Str)) = false:=rfl
 have e2:decide ((-1:Int) < 0) = true:=rfl
 have e3:QH a [47] = some (Lib.countByte a 47:Int):=rfl
 have e4:wi .i64 ((Lib.countByte a 47:Int) + 1) = ((Lib.countByte a 47 + 1:Nat):Int):=wi1 (by omega)
 have e5:wi .i64 ((a.length:Int) + 1) = ((a.length + 1:Nat):Int):=wi1 (by omega)
 have e6:mkO 16 ((Lib.countByte a 47 + 1:Nat):Int) ([]:Str) = some (List.replicate (Lib.countByte a 47 + 1) []):=by
  unfold mkO
  rw [if_pos ⟨by omega,by rw [Int.toNat_natCast]; omega⟩,Int.toNat_natCast]
 simp only [e0,e1,e2,e3,e4,e5,Pg _ _ hcl,e6,cond_false,cond_true,obs,Ac]
 obtain ⟨o,h1,s,rfl,h2⟩:=DI (f:=Ja a [47] 0 ((Lib.countByte a 47 + 1:Nat):Int)) (fun i s=>∃ (t:Str) (b:List Str),s = (t,(i:Int),b)∧b.length = Lib.countByte a 47 + 1∧b.take i++spl 47 t = spl 47 a∧Lib.countByte t 47 + i = Lib.countByte a 47∧t.length≤a.length) (Lib.countByte a 47) (fun o=>∃ s,o = .exit 0 s∧∃ (t:Str) (b:List Str),s = (t,(Lib.countByte a 47:Int),b)∧b.length = Lib.countByte a 47 + 1∧b.take (Lib.countByte a 47)++[t] = spl 47 a) (fun i s hi hs=>by
  obtain ⟨t,b,rfl,g1,g2,g3,g4⟩:=hs
  unfold Ja
  have e7:wi .i64 (((Lib.countByte a 47 + 1:Nat):Int) - 1) = (Lib.countByte a 47:Int):=by rw [Cx (by omega) (by omega)]; omega
  dsimp only
  rw [e5,Pg _ _ hcl,e7]
  by_cases hc:i < Lib.countByte a 47
  ·have hc':(i:Int) < (Lib.countByte a 47:Int):=by omega
   rcases Gz 47 t with hn | ⟨m,hm⟩
   ·have:=(JP 47 t).1 hn; omega
   ·obtain ⟨q1,q2,q3⟩:=SI 47 t m hm
    have e8:Vq t [47] = some (m:Int):=by rw [← hm]; rfl
    have e9:¬ ((m:Int) < 0):=by omega
    have e10:wi .i64 ((m:Int) + 0) = (m:Int):=by rw [Cx (by omega) (by omega)]; omega
    have e11:wi .i64 ((m:Int) + (([47]:Str).length:Int)) = ((m + 1:Nat):Int):=by
     rw [show (([47]:Str).length:Int) = 1 from rfl]; exact wi1 (by omega)
    have e12:CU t 0 (m:Int) = some (t.take m):=by
     have:=IW (xs:=t) (i:=0) (j:=m) (Nat.zero_le _) (by omega)
     simpa using this
    have e13:CU t ((m + 1:Nat):Int) (t.length:Int) = some (t.drop (m + 1)):=by
     rw [IW (by omega) (Nat.le_refl _),List.take_of_length_le (by simp)]
    simp only [hc',decide_true,cond_true,e8,obs,e9,decide_false,cond_false,e10,e11,e12,e13,AS (show i < b.length by omega),Int.toNat_natCast,wi1 (show i≤1099511627776 by omega)]
    refine .inl ⟨hc,_,rfl,_,_,rfl,by simp [g1],?_,by omega,by simp; omega⟩
    rw [← g2,q2]
    rw [List.take_add_one,List.take_set_of_le (Nat.le_refl _),List.getElem?_set,if_pos rfl,if_pos (by omega)]
    simp
  ·have hc':¬ (i:Int) < (Lib.countByte a 47:Int):=by omega
   simp only [hc',decide_false,cond_false]
   have hi2:i = Lib.countByte a 47:=by omega
   refine .inr (.inl ⟨_,_,rfl,_,rfl,t,b,by rw [hi2],g1,?_⟩)
   rw [← g2,Mf 47 t (by omega),hi2]) NN 0 (a,0,List.replicate (Lib.countByte a 47 + 1) []) (Nat.zero_le _) (Be (by omega)) ⟨a,_,rfl,by simp,by simp,by omega,Nat.le_refl _⟩
 obtain ⟨t,b,rfl,g1,g2⟩:=h2
 rw [h1]
 have e14:wi .i64 ((Lib.countByte a 47:Int) + 1) = ((Lib.countByte a 47 + 1:Nat):Int):=e4
 simp only [obs,Ac,if_true,AS (show Lib.countByte a 47 < b.length by omega),Int.toNat_natCast,e14]
 have e15:CU (b.set (Lib.countByte a 47) t) 0 ((Lib.countByte a 47 + 1:Nat):Int) = some (spl 47 a):=by
  rw [DF (xs:=b.set (Lib.countByte a 47) t) (i:=Lib.countByte a 47 + 1) (by simp [g1]),← g2]
  rw [List.take_add_one,List.take_set_of_le (Nat.le_refl _),List.getElem?_set,if_pos rfl,if_pos (by omega)]
  simp
 rw [e15]; rfl
theorem XO (s:Str) (h:s.length≤1048576):∃ b,MG s = some b:=by
 unfold MG
 obtain ⟨o,h1,h2⟩:=DI (f:=Jg s) (fun i t=>t = (false,(i:Int))) s.length (fun o=>(∃ t,o = .exit 0 t)∨∃ t,o = .ret t) (fun i t hi ht=>by
  subst ht
  unfold Jg
  dsimp only
  by_cases hc:i < s.length
  ·have hc':(i:Int) < (s.length:Int):=by omega
   simp only [hc',decide_true,cond_true,AS hc,obs]
   have key:∀ b:Bool,((some (LO.norm b):Option (LO Bool)).bind (Ac (fun s4=>
    bif s4 then
     some (LO.ret false)
    else
     some (LO.norm false)) (fun i1 s4=>
    if i1 = 1 then
     some (LO.norm false)
    else
     some (LO.exit i1 false)) (fun s4=>
    some (LO.ret false)))).bind (Ac (fun s5=>
   some (LO.norm (s5,wi .i64 ((i:Int) + 1)))) (fun i2 s5=>
   some (LO.exit i2 (s5,(i:Int)))) (fun s5=>
   some (LO.ret (s5,(i:Int))))) = some (LO.norm (false,((i + 1:Nat):Int)))∨((some (LO.norm b):Option (LO Bool)).bind (Ac (fun s4=>
    bif s4 then
     some (LO.ret false)
    else
     some (LO.norm false)) (fun i1 s4=>
    if i1 = 1 then
     some (LO.norm false)
    else
     some (LO.exit i1 false)) (fun s4=>
    some (LO.ret false)))).bind (Ac (fun s5=>
   some (LO.norm (s5,wi .i64 ((i:Int) + 1)))) (fun i2 s5=>
   some (LO.exit i2 (s5,(i:Int)))) (fun s5=>
   some (LO.ret (s5,(i:Int))))) = some (LO.ret (false,(i:Int))):=fun b=>by
    cases b
    ·left; simp only [cond_false,obs,Ac,wi1 (show i≤1099511627776 by omega)]
    ·right; rfl
   have tree:∀ a b c d:Bool,∃ e,(bif a then bif c then some (LO.norm true) else some (LO.norm d) else bif b then bif c then some (LO.norm true) else some (LO.norm d) else some (LO.norm false)) = (some (LO.norm e):Option (LO Bool)):=fun a b c d=>by
    cases a <;> cases b <;> cases c <;> exact ⟨_,rfl⟩
   obtain ⟨e,he⟩:=tree (decide ((s[i].toNat:Int) < 97)) (decide ((s[i].toNat:Int) > 122)) (decide ((s[i].toNat:Int) < 48)) (decide ((s[i].toNat:Int) > 57))
   rw [he]
   rcases key e with k | k
   ·exact .inl ⟨hc,_,k,rfl⟩
   ·exact .inr (.inr ⟨_,k,.inr ⟨_,rfl⟩⟩)
  ·have hc':¬ (i:Int) < (s.length:Int):=by omega
   simp only [hc',decide_false,cond_false]
   exact .inr (.inl ⟨_,_,rfl,.inl ⟨_,rfl⟩⟩)) NN 0 (false,0) (Nat.zero_le _) (Be h) rfl
 rw [h1]
 rcases h2 with ⟨t,rfl⟩ | ⟨t,rfl⟩
 ·exact ⟨_,rfl⟩
 ·exact ⟨_,rfl⟩
noncomputable def OP (s:Str):Bool:=(MG s).getD false
theorem UO (s:Str) (h:s.length≤1048576):MG s = some (OP s):=by
 obtain ⟨b,hb⟩:=XO s h
 unfold OP; rw [hb]; rfl
theorem ZI (s:Str) (h:s.length≤1048576):Vo s = some (OP s):=(rfl:Vo s = MG s).trans (UO s h)
theorem EN (c:UInt8):∀ (a:Str),∀ x∈spl c a,x.length≤a.length
 | [],x,hx=>by
  simp [spl] at hx; subst hx; simp
 | b::r,x,hx=>by
  have ih:=EN c r
  unfold spl at hx
  by_cases e:(b == c) = true
  ·rw [if_pos e] at hx
   rcases List.mem_cons.1 hx with rfl | hx
   ·simp
   ·have:=ih x hx; simp; omega
  ·rw [if_neg e] at hx
   obtain ⟨h,t,e2⟩:=Hf c r
   rw [e2] at hx ih
   rcases List.mem_cons.1 hx with rfl | hx
   ·have:=ih h (by simp); simp; omega
   ·have:=ih x (by simp [hx]); simp; omega
noncomputable def Dv (x:Str):Bool:=!OP x
noncomputable def FX (a:Str):Int:=bif decide ((a.length:Int) > 24) then 2 else bif decide ((Lib.countByte a 47:Int) > 4) then 2 else bif a == ([47]:Str) then 0 else bif decide (((spl 47 a).length:Int) < 2) then 5 else bif !((spl 47 a).headD [] == ([]:Str)) then 5 else bif ((spl 47 a).drop 1).any Dv then 5 else 0
theorem MS (a:Str):Al (spl 47 a) 0 = some ((spl 47 a).headD []):=by
 obtain ⟨h,t,e⟩:=Hf 47 a
 rw [e]; rfl
theorem Q5 (a:Str):QI a = some (FX a):=by
 unfold QI FX
 by_cases hl:(a.length:Int) > 24
 ·simp only [hl,decide_true,cond_true,obs,Ac]
 simp only [hl,decide_false,cond_false]
 rw [show QH a [47] = some (Lib.countByte a 47:Int) from rfl,obs]
 cases decide ((Lib.countByte a 47:Int) > 4)
 rotate_left
 ·rfl
 simp only [cond_false,obs,Ac]
 cases a == ([47]:Str)
 rotate_left
 ·rfl
 simp only [cond_false,SH a (by omega),obs]
 cases hw:decide (((spl 47 a).length:Int) < 2)
 rotate_left
 ·rfl
 simp only [cond_false,MS,obs]
 cases !((spl 47 a).headD [] == ([]:Str))
 rotate_left
 ·rfl
 have hsl:=IX 47 a
 have hcl:=Ka a
 have e1:CU (spl 47 a) 1 ((spl 47 a).length:Int) = some ((spl 47 a).drop 1):=by
  unfold CU
  rw [if_pos ⟨by omega,by omega,by omega⟩]
  rw [List.take_of_length_le (by simp)]
  rfl
 simp only [cond_false,obs,Ac,e1]
 have hdl:((spl 47 a).drop 1).length≤1048576:=by simp; omega
 rw [AG (f:=Gp ((spl 47 a).drop 1)) (s0:=(0,0)) (fun i=>(0,(i:Int))) ((spl 47 a).drop 1).length (pAt Dv ((spl 47 a).drop 1)) (fun i=>.ret (5,(i:Int))) (.exit 0 (0,(((spl 47 a).drop 1).length:Int))) (fun i hi _ hp=>?_) (fun i hi _ hp=>?_) (fun _=>?_) (Be hdl) rfl]
 ·rw [← Cc]
  cases BB (pAt Dv ((spl 47 a).drop 1)) ((spl 47 a).drop 1).length <;> rfl
 ·rw [AK hi] at hp
  have hc':(i:Int) < (((spl 47 a).drop 1).length:Int):=by omega
  have hx:=EN 47 a _ (List.mem_of_mem_drop (List.getElem_mem hi))
  unfold Gp
  unfold Dv at hp
  simp only [hc',decide_true,cond_true,AS hi,obs,ZI _ (show ((spl 47 a).drop 1)[i].length≤1048576 by omega),hp,cond_false,wi1 (show i≤1099511627776 by omega)]
 ·rw [AK hi] at hp
  have hc':(i:Int) < (((spl 47 a).drop 1).length:Int):=by omega
  have hx:=EN 47 a _ (List.mem_of_mem_drop (List.getElem_mem hi))
  unfold Gp
  unfold Dv at hp
  simp only [hc',decide_true,cond_true,AS hi,obs,ZI _ (show ((spl 47 a).drop 1)[i].length≤1048576 by omega),hp]
  exact ⟨trivial,rfl⟩
 ·unfold Gp
  simp only [Int.lt_irrefl,decide_false,cond_false]
  exact ⟨trivial,rfl⟩
theorem NY (a:Str) (h:a.length≤24) (hs:(a == ([47]:Str)) = false):∃ l,Vz a = some (l,!(bif decide (((spl 47 a).length:Int) < 2) then true else bif !((spl 47 a).headD [] == ([]:Str)) then true else ((spl 47 a).drop 1).any Dv)):=by
 unfold Vz
 rw [hs,cond_false,WJ a (by omega),obs]
 cases hw:decide (((spl 47 a).length:Int) < 2)
 rotate_left
 ·exact ⟨_,rfl⟩
 simp only [cond_false,MS,obs]
 cases !((spl 47 a).headD [] == ([]:Str))
 rotate_left
 ·exact ⟨_,rfl⟩
 have hsl:=IX 47 a
 have hcl:=Ka a
 have e1:CU (spl 47 a) 1 ((spl 47 a).length:Int) = some ((spl 47 a).drop 1):=by
  unfold CU
  rw [if_pos ⟨by omega,by omega,by omega⟩]
  rw [List.take_of_length_le (by simp)]
  rfl
 simp only [cond_false,obs,Ac]
 have hdl:((spl 47 a).drop 1).length≤1048576:=by simp; omega
 have hdl2:((spl 47 a).drop 1).length + 1 = (spl 47 a).length:=by simp; omega
 rw [AG (f:=Gq (spl 47 a)) (s0:=([],false,1)) (fun i=>([],false,(i:Int) + 1)) ((spl 47 a).drop 1).length (pAt Dv ((spl 47 a).drop 1)) (fun i=>.ret ([],false,(i:Int) + 1)) (.exit 0 ([],false,(((spl 47 a).drop 1).length:Int) + 1)) (fun i hi _ hp=>?_) (fun i hi _ hp=>?_) (fun _=>?_) (Be hdl) rfl]
 ·rw [← Cc]
  cases BB (pAt Dv ((spl 47 a).drop 1)) ((spl 47 a).drop 1).length
  ·exact ⟨_,by simp only [orF,obs,Ac,if_true,e1,Option.isSome_none]; rfl⟩
  ·exact ⟨_,rfl⟩
 ·rw [AK hi] at hp
  have hc':(i:Int) + 1 < ((spl 47 a).length:Int):=by omega
  have hx:=EN 47 a _ (List.mem_of_mem_drop (List.getElem_mem hi))
  have g1:Al (spl 47 a) ((i:Int) + 1) = some ((spl 47 a).drop 1)[i]:=by
   rw [show ((i:Int) + 1) = ((i + 1:Nat):Int) by omega,AS (show i + 1 < (spl 47 a).length by omega)]
   simp [Nat.add_comm]
  unfold Gq
  unfold Dv at hp
  simp only [hc',decide_true,cond_true,g1,obs,UO _ (show ((spl 47 a).drop 1)[i].length≤1048576 by omega),hp,cond_false,Hd (show i≤1048576 by omega)]
 ·rw [AK hi] at hp
  have hc':(i:Int) + 1 < ((spl 47 a).length:Int):=by omega
  have hx:=EN 47 a _ (List.mem_of_mem_drop (List.getElem_mem hi))
  have g1:Al (spl 47 a) ((i:Int) + 1) = some ((spl 47 a).drop 1)[i]:=by
   rw [show ((i:Int) + 1) = ((i + 1:Nat):Int) by omega,AS (show i + 1 < (spl 47 a).length by omega)]
   simp [Nat.add_comm]
  unfold Gq
  unfold Dv at hp
  simp only [hc',decide_true,cond_true,g1,obs,UO _ (show ((spl 47 a).drop 1)[i].length≤1048576 by omega),hp]
  exact ⟨trivial,rfl⟩
 ·have hc':¬ ((((spl 47 a).drop 1).length:Int) + 1 < ((spl 47 a).length:Int)):=by omega
  unfold Gq
  simp only [hc',decide_false,cond_false]
  exact ⟨trivial,rfl⟩
theorem Q3 (a:Str):QY a = some (FX a):=by
 unfold QY FX
 by_cases hl:(a.length:Int) > 24
 ·simp only [hl,decide_true,cond_true,obs,Ac]
 simp only [hl,decide_false,cond_false]
 cases hs:a == ([47]:Str)
 rotate_left
 ·have e:a = [47]:=by simpa using hs
  subst e
  rfl
 have hsl:=IX 47 a
 obtain ⟨l,hn⟩:=NY a (by omega) hs
 have e5:decide (((spl 47 a).length:Int) > 5) = decide ((Lib.countByte a 47:Int) > 4):=decide_eq_decide.2 (by omega)
 simp only [Bool.not_false,cond_true,WJ a (by omega),obs,e5,Ac]
 cases decide ((Lib.countByte a 47:Int) > 4)
 rotate_left
 ·rfl
 simp only [cond_false,obs,Ac,hn]
 cases decide (((spl 47 a).length:Int) < 2)
 rotate_left
 ·rfl
 cases !((spl 47 a).headD [] == ([]:Str))
 rotate_left
 ·rfl
 cases ((spl 47 a).drop 1).any Dv <;> rfl
open Go Go.Rf
theorem jS:AN ([112]:Str) ((A4 1).2) = some true:=rfl
theorem jU:AN ([100]:Str) ((A4 1).2) = some true:=rfl
theorem jQ:AN ([118]:Str) ((A4 1).2) = some true:=rfl
theorem jR:AN ([115]:Str) ((A4 1).2) = some true:=rfl
theorem jT:AN ([111]:Str) ((A4 1).2) = some true:=rfl
theorem kp1:IS 1 = false:=rfl
theorem kd1:IR 1 = false:=rfl
theorem kv1:HK 1 = some false:=rfl
theorem ki1:m98 1 1 8 = true:=rfl
theorem kj1:CE 1 1 8 = true:=rfl
theorem k31:((1:Int) != 3) = true:=rfl
theorem jN:AN ([112]:Str) ((A4 2).2) = some true:=rfl
theorem jP:AN ([100]:Str) ((A4 2).2) = some true:=rfl
theorem jL:AN ([118]:Str) ((A4 2).2) = some true:=rfl
theorem jM:AN ([115]:Str) ((A4 2).2) = some true:=rfl
theorem jO:AN ([111]:Str) ((A4 2).2) = some true:=rfl
theorem kp2:IS 2 = false:=rfl
theorem kd2:IR 2 = false:=rfl
theorem kv2:HK 2 = some false:=rfl
theorem ki2:m98 2 1 8 = true:=rfl
theorem kj2:CE 2 1 8 = true:=rfl
theorem k32:((2:Int) != 3) = true:=rfl
theorem jI:AN ([112]:Str) ((A4 3).2) = some false:=rfl
theorem jK:AN ([100]:Str) ((A4 3).2) = some false:=rfl
theorem jG:AN ([118]:Str) ((A4 3).2) = some true:=rfl
theorem jH:AN ([115]:Str) ((A4 3).2) = some false:=rfl
theorem jJ:AN ([111]:Str) ((A4 3).2) = some false:=rfl
theorem kp3:IS 3 = true:=rfl
theorem kd3:IR 3 = true:=rfl
theorem kv3:HK 3 = some false:=rfl
theorem ki3:m98 3 1 8 = true:=rfl
theorem kj3:CE 3 1 8 = true:=rfl
theorem k33:((3:Int) != 3) = false:=rfl
theorem jD:AN ([112]:Str) ((A4 4).2) = some false:=rfl
theorem jF:AN ([100]:Str) ((A4 4).2) = some true:=rfl
theorem jB:AN ([118]:Str) ((A4 4).2) = some false:=rfl
theorem jC:AN ([115]:Str) ((A4 4).2) = some true:=rfl
theorem jE:AN ([111]:Str) ((A4 4).2) = some true:=rfl
theorem kp4:IS 4 = true:=rfl
theorem kd4:IR 4 = false:=rfl
theorem kv4:HK 4 = some true:=rfl
theorem ki4:m98 4 1 8 = true:=rfl
theorem kj4:CE 4 1 8 = true:=rfl
theorem k34:((4:Int) != 3) = true:=rfl
theorem iY:AN ([112]:Str) ((A4 5).2) = some false:=rfl
theorem jA:AN ([100]:Str) ((A4 5).2) = some false:=rfl
theorem iT:AN ([118]:Str) ((A4 5).2) = some false:=rfl
theorem iU:AN ([115]:Str) ((A4 5).2) = some true:=rfl
theorem iZ:AN ([111]:Str) ((A4 5).2) = some true:=rfl
theorem kp5:IS 5 = true:=rfl
theorem kd5:IR 5 = true:=rfl
theorem kv5:HK 5 = some true:=rfl
theorem ki5:m98 5 1 8 = true:=rfl
theorem kj5:CE 5 1 8 = true:=rfl
theorem k35:((5:Int) != 3) = true:=rfl
theorem iQ:AN ([112]:Str) ((A4 6).2) = some false:=rfl
theorem iS:AN ([100]:Str) ((A4 6).2) = some true:=rfl
theorem iO:AN ([118]:Str) ((A4 6).2) = some true:=rfl
theorem iP:AN ([115]:Str) ((A4 6).2) = some true:=rfl
theorem iR:AN ([111]:Str) ((A4 6).2) = some true:=rfl
theorem kp6:IS 6 = true:=rfl
theorem kd6:IR 6 = false:=rfl
theorem kv6:HK 6 = some false:=rfl
theorem ki6:m98 6 1 8 = true:=rfl
theorem kj6:CE 6 1 8 = true:=rfl
theorem k36:((6:Int) != 3) = true:=rfl
theorem iK:AN ([112]:Str) ((A4 7).2) = some false:=rfl
theorem iM:AN ([100]:Str) ((A4 7).2) = some true:=rfl
theorem iI:AN ([118]:Str) ((A4 7).2) = some true:=rfl
theorem iJ:AN ([115]:Str) ((A4 7).2) = some true:=rfl
theorem iL:AN ([111]:Str) ((A4 7).2) = some true:=rfl
theorem kp7:IS 7 = true:=rfl
theorem kd7:IR 7 = false:=rfl
theorem kv7:HK 7 = some false:=rfl
theorem ki7:m98 7 1 8 = true:=rfl
theorem kj7:CE 7 1 8 = true:=rfl
theorem k37:((7:Int) != 3) = true:=rfl
theorem iF:AN ([112]:Str) ((A4 8).2) = some false:=rfl
theorem iH:AN ([100]:Str) ((A4 8).2) = some true:=rfl
theorem iC:AN ([118]:Str) ((A4 8).2) = some false:=rfl
theorem iE:AN ([115]:Str) ((A4 8).2) = some true:=rfl
theorem iG:AN ([111]:Str) ((A4 8).2) = some true:=rfl
theorem kp8:IS 8 = true:=rfl
theorem kd8:IR 8 = false:=rfl
theorem kv8:HK 8 = some true:=rfl
theorem ki8:m98 8 1 8 = true:=rfl
theorem kj8:CE 8 1 8 = true:=rfl
theorem k38:((8:Int) != 3) = true:=rfl
theorem ET (path:Str) (d v s4:Int):∃ y,((QY path).bind fun y5=>
     bif y5 != 0 then
      some (LO.ret y5)
     else
      some (LO.norm s4)).bind (Ac (fun s6=>
    (
     bif !(QX d) then
      some (LO.ret 3)
     else
      bif !(m98 v (-1) 999) then
       some (LO.ret 3)
      else
       some (LO.norm s6)).bind (Ac (fun s8=>
     some (0:Int)) (fun i4 s8=>
     none) (fun s8=>
     some s8))) (fun i3 s6=>
    none) (fun s6=>
    some s6)) = some y∧((QI path).bind fun y33=>
  bif y33 != 0 then
   some y33
  else
   (
    bif !(Vw d) then
     some (LO.ret 3)
    else
     bif !(CE v (-1) 999) then
      some (LO.ret 3)
     else
      some (LO.norm s4)).bind (Ac (fun s6=>
    some (0:Int)) (fun i3 s6=>
    none) (fun s6=>
    some s6))) = some y:=by
 rw [Q3,Q5,in1,in2,show QX d = inR d 0 9999 from in1 _ _ _,show Vw d = inR d 0 9999 from in1 _ _ _]
 simp only [obs]
 cases FX path != 0
 ·cases inR d 0 9999
  ·exact ⟨_,rfl,rfl⟩
  ·cases inR v (-1) 999 <;> exact ⟨_,rfl,rfl⟩
 ·exact ⟨_,rfl,rfl⟩
theorem UG (o:TOp):∃ y,Lx o = some y∧MM o = some y∧(y = 0→1≤o.Kind):=by
 by_cases hk:1≤o.Kind∧o.Kind≤8
 rotate_left
 ·have h1:m98 o.Kind 1 8 = false:=by rw [in1]; exact Bool.eq_false_iff.2 fun h=>hk (DJ.1 h)
  have h2:CE o.Kind 1 8 = false:=by rw [in2]; exact Bool.eq_false_iff.2 fun h=>hk (DJ.1 h)
  refine ⟨1,?_,?_,fun h=>by cases h⟩
  ·unfold Lx; rw [h1]; rfl
  ·unfold MM; rw [h2]; rfl
 suffices h:∃ y,Lx o = some y∧MM o = some y by
  obtain ⟨y,a,b⟩:=h
  exact ⟨y,a,b,fun _=>hk.1⟩
 obtain ⟨k,path,d,v,sq,ow⟩:=o
 unfold Lx MM
 dsimp only at hk ⊢
 have hk8:k = 1∨k = 2∨k = 3∨k = 4∨k = 5∨k = 6∨k = 7∨k = 8:=by omega
 have fin:∀ (d v:Int),(d != 0) = false→(v != 0) = false→QX d = true∧m98 v (-1) 999 = true:=fun d v h1 h2=>by
  have e1:d = 0:=by simpa using h1
  have e2:v = 0:=by simpa using h2
  subst e1; subst e2; exact ⟨rfl,rfl⟩
 rcases hk8 with rfl | rfl | rfl | rfl | rfl | rfl | rfl | rfl
 ·simp only [jS,jU,jQ,jR,jT,kp1,kd1,kv1,ki1,kj1,k31,Bool.not_true,Bool.not_false,cond_true,cond_false,obs]
  cases path == ([]:Str)
  ·exact ⟨_,rfl,rfl⟩
  cases h2:d != 0
  rotate_left
  ·exact ⟨_,rfl,rfl⟩
  cases h3:v != 0
  rotate_left
  ·exact ⟨_,rfl,rfl⟩
  cases sq
  rotate_left
  ·exact ⟨_,rfl,rfl⟩
  cases ow
  rotate_left
  ·exact ⟨_,rfl,rfl⟩
  obtain ⟨f1,f2⟩:=fin d v h2 h3
  simp only [Bool.not_true,Bool.not_false,cond_true,cond_false,obs,Ac,f1,f2]
  exact ⟨_,rfl,rfl⟩
 ·simp only [jN,jP,jL,jM,jO,kp2,kd2,kv2,ki2,kj2,k32,Bool.not_true,Bool.not_false,cond_true,cond_false,obs]
  cases path == ([]:Str)
  ·exact ⟨_,rfl,rfl⟩
  cases h2:d != 0
  rotate_left
  ·exact ⟨_,rfl,rfl⟩
  cases h3:v != 0
  rotate_left
  ·exact ⟨_,rfl,rfl⟩
  cases sq
  rotate_left
  ·exact ⟨_,rfl,rfl⟩
  cases ow
  rotate_left
  ·exact ⟨_,rfl,rfl⟩
  obtain ⟨f1,f2⟩:=fin d v h2 h3
  simp only [Bool.not_true,Bool.not_false,cond_true,cond_false,obs,Ac,f1,f2]
  exact ⟨_,rfl,rfl⟩
 ·simp only [jI,jK,jG,jH,jJ,kp3,kd3,kv3,ki3,kj3,k33,Bool.not_true,Bool.not_false,cond_true,cond_false,obs]
  cases v != 0
  rotate_left
  ·exact ⟨_,rfl,rfl⟩
  simp only [Bool.not_true,Bool.not_false,cond_true,cond_false,obs,Ac]
  exact ET path d v 0
 ·simp only [jD,jF,jB,jC,jE,kp4,kd4,kv4,ki4,kj4,k34,Bool.not_true,Bool.not_false,cond_true,cond_false,obs]
  cases d != 0
  rotate_left
  ·exact ⟨_,rfl,rfl⟩
  cases sq
  rotate_left
  ·exact ⟨_,rfl,rfl⟩
  cases ow
  rotate_left
  ·exact ⟨_,rfl,rfl⟩
  simp only [Bool.not_true,Bool.not_false,cond_true,cond_false,obs,Ac]
  exact ET path d v 0
 ·simp only [iY,jA,iT,iU,iZ,kp5,kd5,kv5,ki5,kj5,k35,Bool.not_true,Bool.not_false,cond_true,cond_false,obs]
  cases sq
  rotate_left
  ·exact ⟨_,rfl,rfl⟩
  cases ow
  rotate_left
  ·exact ⟨_,rfl,rfl⟩
  simp only [Bool.not_true,Bool.not_false,cond_true,cond_false,obs,Ac]
  exact ET path d v 0
 ·simp only [iQ,iS,iO,iP,iR,kp6,kd6,kv6,ki6,kj6,k36,Bool.not_true,Bool.not_false,cond_true,cond_false,obs]
  cases d != 0
  rotate_left
  ·exact ⟨_,rfl,rfl⟩
  cases v != 0
  rotate_left
  ·exact ⟨_,rfl,rfl⟩
  cases sq
  rotate_left
  ·exact ⟨_,rfl,rfl⟩
  cases ow
  rotate_left
  ·exact ⟨_,rfl,rfl⟩
  simp only [Bool.not_true,Bool.not_false,cond_true,cond_false,obs,Ac]
  exact ET path d v 0
 ·simp only [iK,iM,iI,iJ,iL,kp7,kd7,kv7,ki7,kj7,k37,Bool.not_true,Bool.not_false,cond_true,cond_false,obs]
  cases d != 0
  rotate_left
  ·exact ⟨_,rfl,rfl⟩
  cases v != 0
  rotate_left
  ·exact ⟨_,rfl,rfl⟩
  cases sq
  rotate_left
  ·exact ⟨_,rfl,rfl⟩
  cases ow
  rotate_left
  ·exact ⟨_,rfl,rfl⟩
  simp only [Bool.not_true,Bool.not_false,cond_true,cond_false,obs,Ac]
  exact ET path d v 0
 ·simp only [iF,iH,iC,iE,iG,kp8,kd8,kv8,ki8,kj8,k38,Bool.not_true,Bool.not_false,cond_true,cond_false,obs]
  cases d != 0
  rotate_left
  ·exact ⟨_,rfl,rfl⟩
  cases sq
  rotate_left
  ·exact ⟨_,rfl,rfl⟩
  cases ow
  rotate_left
  ·exact ⟨_,rfl,rfl⟩
  simp only [Bool.not_true,Bool.not_false,cond_true,cond_false,obs,Ac]
  exact ET path d v 0
noncomputable def EH (o:TOp):Int:=(Lx o).getD 0
theorem op1 (o:TOp):Lx o = some (EH o):=by
 obtain ⟨y,h,_⟩:=UG o
 unfold EH; rw [h]; rfl
theorem op2 (o:TOp):MM o = some (EH o):=by
 obtain ⟨y,h,k,_⟩:=UG o
 unfold EH; rw [h,k]; rfl
theorem op3 (o:TOp) (h:EH o = 0):1≤o.Kind:=by
 obtain ⟨y,h1,k,h2⟩:=UG o
 unfold EH at h; rw [h1] at h
 exact h2 h
noncomputable def GB (o:TOp):Bool:=EH o != 0
def I8 (o:TOp):Bool:=decide (o.Kind≤2)
theorem opsS (r:Af) (h:r.Ops.length≤3):(r.Ops.any GB = false∧∃ j,Ar (FZ r) NN (0,0) = some (.exit 0 (0,j))∧Ar (Ez r) NN (0,0) = some (.exit 1 (0,j)))∨(r.Ops.any GB = true∧∃ y j,Ar (FZ r) NN (0,0) = some (.ret (y,j))∧Ar (Ez r) NN (0,0) = some (.ret (y,j))):=by
 have k1:=AG (f:=FZ r) (N:=NN) (s0:=(0,0)) (fun i=>(0,(i:Int))) r.Ops.length (pAt GB r.Ops) (fun i=>.ret (((r.Ops[i]?).map EH).getD 0,(i:Int))) (.exit 0 (0,(r.Ops.length:Int))) (fun i hi _ hp=>by
   rw [AK hi] at hp
   unfold GB at hp
   have hc':(i:Int) < (r.Ops.length:Int):=by omega
   unfold FZ
   simp only [hc',decide_true,cond_true,AS hi,obs,op1,hp,cond_false,wi1 (show i≤1099511627776 by omega)]) (fun i hi _ hp=>by
   rw [AK hi] at hp
   unfold GB at hp
   have hc':(i:Int) < (r.Ops.length:Int):=by omega
   unfold FZ
   rw [List.getElem?_eq_getElem hi]
   simp only [hc',decide_true,cond_true,AS hi,obs,op1,hp,Option.map_some,Option.getD_some]
   exact ⟨trivial,rfl⟩) (fun _=>by
   unfold FZ
   simp only [Int.lt_irrefl,decide_false,cond_false]
   exact ⟨trivial,rfl⟩) (Be (by omega)) rfl
 have k2:=AG (f:=Ez r) (N:=NN) (s0:=(0,0)) (fun i=>(0,(i:Int))) r.Ops.length (pAt GB r.Ops) (fun i=>.ret (((r.Ops[i]?).map EH).getD 0,(i:Int))) (.exit 1 (0,(r.Ops.length:Int))) (fun i hi _ hp=>by
   rw [AK hi] at hp
   unfold GB at hp
   have hc':(i:Int) < (r.Ops.length:Int):=by omega
   unfold Ez
   simp only [hc',decide_true,cond_true,AS hi,obs,op2,hp,cond_false,wi1 (show i≤1099511627776 by omega)]) (fun i hi _ hp=>by
   rw [AK hi] at hp
   unfold GB at hp
   have hc':(i:Int) < (r.Ops.length:Int):=by omega
   unfold Ez
   rw [List.getElem?_eq_getElem hi]
   simp only [hc',decide_true,cond_true,AS hi,obs,op2,hp,Option.map_some,Option.getD_some]
   exact ⟨trivial,rfl⟩) (fun _=>by
   unfold Ez
   simp only [Int.lt_irrefl,decide_false,cond_false]
   exact ⟨trivial,rfl⟩) (Be (by omega)) rfl
 rw [k1,k2,← Cc]
 cases BB (pAt GB r.Ops) r.Ops.length
 ·exact .inl ⟨rfl,_,rfl,rfl⟩
 ·exact .inr ⟨rfl,_,_,rfl,rfl⟩
theorem gR (r:Af) (h:r.Ops.length≤3) (hl:(r.Ops.length:Int) > 1):∃ s,Ar (Fv r) NN (0,0) = some (bif r.Ops.any I8 then .ret (1,s) else .exit 2 (0,s)):=by
 rw [AG (f:=Fv r) (N:=NN) (s0:=(0,0)) (fun i=>(0,(i:Int))) r.Ops.length (pAt I8 r.Ops) (fun i=>.ret (1,(i:Int))) (.exit 2 (0,(r.Ops.length:Int))) (fun i hi _ hp=>by
   rw [AK hi] at hp
   unfold I8 at hp
   have hc':(i:Int) < (r.Ops.length:Int):=by omega
   unfold Fv
   simp only [hc',hl,decide_true,cond_true,AS hi,obs,Ac,hp,cond_false,wi1 (show i≤1099511627776 by omega)]) (fun i hi _ hp=>by
   rw [AK hi] at hp
   unfold I8 at hp
   have hc':(i:Int) < (r.Ops.length:Int):=by omega
   unfold Fv
   simp only [hc',hl,decide_true,cond_true,AS hi,obs,Ac,hp]
   exact ⟨trivial,rfl⟩) (fun _=>by
   unfold Fv
   simp only [Int.lt_irrefl,decide_false,cond_false,obs,Ac]
   exact ⟨trivial,rfl⟩) (Be (by omega)) rfl,← Cc]
 cases BB (pAt I8 r.Ops) r.Ops.length <;> exact ⟨_,rfl⟩
theorem Ug (r:Af):∃ y,m68 r = some y∧Rh r = some y:=by
 unfold m68 Rh
 rw [Fe,Fe]
 simp only [obs,Ac]
 rw [show m97 r.Client = inR r.Client 1 9 from in1 _ _ _,show XX r.Client = inR r.Client 1 9 from in1 _ _ _,in1,in2,show m99 r.Time = inR r.Time 0 9000 from in1 _ _ _,show XW r.Time = inR r.Time 0 9000 from in1 _ _ _,in2]
 cases (!inR r.Client 1 9 || (!inR r.Number 1 99 || !inR r.Time 0 9000))
 rotate_left
 ·exact ⟨_,rfl,rfl⟩
 simp only [cond_false,obs,Ac]
 by_cases h1:(r.Ops.length:Int) < 1
 ·have e:inR (r.Ops.length:Int) 1 3 = false:=Bool.eq_false_iff.2 fun h=>by have:=DJ.1 h; omega
  simp only [h1,e,decide_true,cond_true,Bool.not_false,obs,Ac]
  exact ⟨_,rfl,rfl⟩
 by_cases h2:(r.Ops.length:Int) > 3
 ·have e:inR (r.Ops.length:Int) 1 3 = false:=Bool.eq_false_iff.2 fun h=>by have:=DJ.1 h; omega
  simp only [h1,h2,e,decide_true,decide_false,cond_true,cond_false,Bool.not_false,obs,Ac]
  exact ⟨_,rfl,rfl⟩
 have e:inR (r.Ops.length:Int) 1 3 = true:=DJ.2 ⟨by omega,by omega⟩
 simp only [h1,h2,e,decide_false,cond_false,Bool.not_true,obs,Ac]
 rcases opsS r (by omega) with ⟨g,j,k1,k2⟩ | ⟨g,y,j,k1,k2⟩
 rotate_left
 ·rw [k1,k2]; exact ⟨_,rfl,rfl⟩
 rw [k1,k2]
 simp only [obs,Ac,if_true]
 by_cases hl:(r.Ops.length:Int) > 1
 rotate_left
 ·have hx:Ar (Fv r) NN (0,0) = some (.exit 2 (0,0)):=by
   refine Gx (by have:=Be (n:=0) (by omega); omega) ?_ rfl
   unfold Fv
   have h0:(0:Int) < (r.Ops.length:Int):=by omega
   simp only [h0,hl,decide_true,decide_false,cond_true,cond_false,obs,Ac]
  rw [hx]
  simp only [hl,decide_false,cond_false,obs,Ac,if_true]
  exact ⟨_,rfl,rfl⟩
 obtain ⟨s,hs⟩:=gR r (by omega) hl
 rw [hs]
 have e3:XV r.Ops (fun x0_=>some (Og x0_)) = some (r.Ops.any I8):=I0 (Be (by omega)) (B8 (by omega)) (fun o ho=>by
  congr 1
  have h0:EH o = 0:=by
   rw [List.any_eq_false] at g
   have:=g o ho
   unfold GB at this
   simpa using this
  have h1:=op3 o h0
  unfold Og I8
  by_cases e1:o.Kind = 1
  ·rw [e1]; rfl
  ·by_cases e2:o.Kind = 2
   ·rw [e2]; rfl
   ·have e4:(o.Kind == 1) = false:=by simpa using e1
    have e5:(o.Kind == 2) = false:=by simpa using e2
    rw [e4,e5]
    symm
    exact decide_eq_false (by omega))
 simp only [hl,decide_true,cond_true,e3,obs]
 cases r.Ops.any I8 <;> exact ⟨_,rfl,rfl⟩
noncomputable def Db (r:Af):Int:=(m68 r).getD 0
theorem fS (r:Af):m68 r = some (Db r):=by
 obtain ⟨y,h,_⟩:=Ug r
 unfold Db; rw [h]; rfl
theorem fR (r:Af):Rh r = some (Db r):=by
 obtain ⟨y,h,k⟩:=Ug r
 unfold Db; rw [h,k]; rfl
open Go Go.Rf
def FG (y x:Af):Bool:=(x.Client == y.Client) && (x.Number == y.Number)
theorem Nc {α:Type} {q:α→Bool} {xs:List α} {i:Nat} (h:i < xs.length) (hq:q xs[i] = true):(ixI (BB (pAt q xs) xs.length) != (i:Int)) = (xs.take i).any q:=by
 cases hm:(xs.take i).any q
 ·rw [List.any_eq_false] at hm
  rw [BK h (fun j hj=>by
   rw [AK (by omega)]
   have:=hm xs[j] (List.mem_iff_getElem.2 ⟨j,by rw [List.length_take]; omega,by rw [List.getElem_take]⟩)
   simpa using this) (by rw [AK h]; exact hq)]
  simp [ixI]
 ·rw [List.any_eq_true] at hm
  obtain ⟨x,hx,hqx⟩:=hm
  obtain ⟨j,hj,e⟩:=List.mem_iff_getElem.1 hx
  rw [List.length_take] at hj
  rw [List.getElem_take] at e
  rcases Cg (pAt q xs) xs.length with h' | ⟨k,h1,h2,h3⟩
  ·have:=h' j (by omega)
   rw [AK (by omega),e,hqx] at this
   cases this
  ·rw [BK h1 h2 h3]
   have hk:k≤j:=by
    rcases Nat.lt_or_ge j k with hlt | hge
    ·have:=h2 j hlt
     rw [AK (by omega),e,hqx] at this
     cases this
    ·exact hge
   simp only [ixI,bne_iff_ne,ne_eq]
   omega
theorem Nw (xs:List Af) (y:Af) (h:xs.length≤1048576):m69 xs y.Client y.Number = some (ixI (BB (pAt (FG y) xs) xs.length)):=by
 unfold m69
 rw [AG (f:=It xs y.Client y.Number) (s0:=(0,0)) (fun i=>(0,(i:Int))) xs.length (pAt (FG y) xs) (fun i=>.ret ((i:Int),(i:Int))) (.exit 0 (0,(xs.length:Int))) (fun i hi _ hp=>?_) (fun i hi _ hp=>?_) (fun _=>?_) (Be h) rfl]
 ·cases BB (pAt (FG y) xs) xs.length <;> rfl
 ·rw [AK hi] at hp
  unfold FG at hp
  have hc':(i:Int) < (xs.length:Int):=by omega
  unfold It
  simp only [hc',decide_true,cond_true,AS hi,obs]
  cases h1:xs[i].Client == y.Client
  ·simp only [cond_false,obs,Ac,wi1 (show i≤1099511627776 by omega)]
  ·rw [h1,Bool.true_and] at hp
   simp only [cond_true,hp,cond_false,obs,Ac,wi1 (show i≤1099511627776 by omega)]
 ·rw [AK hi] at hp
  unfold FG at hp
  rw [Bool.and_eq_true] at hp
  have hc':(i:Int) < (xs.length:Int):=by omega
  unfold It
  simp only [hc',decide_true,cond_true,AS hi,obs,hp.1,hp.2,Ac]
  exact ⟨trivial,rfl⟩
 ·unfold It
  simp only [Int.lt_irrefl,decide_false,cond_false]
  exact ⟨trivial,rfl⟩
theorem Mm (xs:List Af) (y:Af) (h:xs.length≤1048576):VH xs y = some (ixI (BB (pAt (FG y) xs) xs.length)):=by
 unfold VH
 rw [show XU xs (fun x0_=>some (Of x0_ y)) = some (ixI (BB (pAt (FG y) xs) xs.length)) from GV (Be h) (B8 h) (fun x _=>by
  congr 1
  unfold Of FG
  cases x.Client == y.Client <;> rfl)]
 rfl
noncomputable def Ef (xs:List Af) (i:Nat):Bool:=(xs[i]?).any fun x=>(Db x != 0) || (xs.take i).any (FG x)
noncomputable def J1 (xs:List Af) (i:Nat):Int:=match xs[i]? with
 | some x=>bif Db x != 0 then Db x else 6
 | none=>0
theorem Ea {xs:List Af} {i:Nat} (h:i < xs.length):Ef xs i = ((Db xs[i] != 0) || (xs.take i).any (FG xs[i])):=by
 unfold Ef; rw [List.getElem?_eq_getElem h]; rfl
theorem J0 {xs:List Af} {i:Nat} (h:i < xs.length):J1 xs i = (bif Db xs[i] != 0 then Db xs[i] else 6):=by
 unfold J1; rw [List.getElem?_eq_getElem h]
noncomputable def Hh (xs:List Af):Int:=orF (BB (Ef xs) xs.length) (J1 xs) 0
theorem Jy (x:Af):FG x x = true:=by simp [FG]
theorem Qm (c:Ae) (h:c.Requests.length≤12):(Ar (GN c) NN (0,0)).bind (Ac (fun _=>none) (fun i1 s2=>
      if i1 = 0 then
       some 0
      else
       none) (fun s2=>
      some s2.1)) = some (Hh c.Requests):=by
 rw [AG (f:=GN c) (s0:=(0,0)) (fun i=>(0,(i:Int))) c.Requests.length (Ef c.Requests) (fun i=>.ret (J1 c.Requests i,(i:Int))) (.exit 0 (0,(c.Requests.length:Int))) (fun i hi _ hp=>?_) (fun i hi _ hp=>?_) (fun _=>?_) (Be (by omega)) rfl]
 ·unfold Hh
  cases BB (Ef c.Requests) c.Requests.length <;> rfl
 ·rw [Ea hi,Bool.or_eq_false_iff] at hp
  have hc':(i:Int) < (c.Requests.length:Int):=by omega
  unfold GN
  simp only [hc',decide_true,cond_true,AS hi,obs,fS,hp.1,cond_false,Nw c.Requests c.Requests[i] (by omega),Nc hi (Jy _),hp.2,wi1 (show i≤1099511627776 by omega)]
 ·rw [Ea hi] at hp
  rw [J0 hi]
  have hc':(i:Int) < (c.Requests.length:Int):=by omega
  unfold GN
  simp only [hc',decide_true,cond_true,AS hi,obs,fS,Nw c.Requests c.Requests[i] (by omega),Nc hi (Jy _)]
  cases h1:Db c.Requests[i] != 0
  ·rw [h1,Bool.false_or] at hp
   rw [hp]; exact ⟨rfl,rfl⟩
  ·exact ⟨rfl,rfl⟩
 ·unfold GN
  simp only [Int.lt_irrefl,decide_false,cond_false]
  exact ⟨trivial,rfl⟩
theorem Qn (c:Ae) (h:c.Requests.length≤12):(Ar (GK c) NN (0,0)).bind (Ac (fun _=>none) (fun i4 s8=>
          if i4 = 4 then
           some 0
          else
           none) (fun s8=>
          some s8.1)) = some (Hh c.Requests):=by
 rw [AG (f:=GK c) (s0:=(0,0)) (fun i=>(0,(i:Int))) c.Requests.length (Ef c.Requests) (fun i=>.ret (J1 c.Requests i,(i:Int))) (.exit 4 (0,(c.Requests.length:Int))) (fun i hi _ hp=>?_) (fun i hi _ hp=>?_) (fun _=>?_) (Be (by omega)) rfl]
 ·unfold Hh
  cases BB (Ef c.Requests) c.Requests.length <;> rfl
 ·rw [Ea hi,Bool.or_eq_false_iff] at hp
  have hc':(i:Int) < (c.Requests.length:Int):=by omega
  unfold GK
  simp only [hc',decide_true,cond_true,AS hi,obs,fR,hp.1,cond_false,DF (Nat.le_of_lt hi),Mm (c.Requests.take i) c.Requests[i] (by rw [List.length_take]; omega),Iz,Cc,hp.2,wi1 (show i≤1099511627776 by omega)]
 ·rw [Ea hi] at hp
  rw [J0 hi]
  have hc':(i:Int) < (c.Requests.length:Int):=by omega
  unfold GK
  simp only [hc',decide_true,cond_true,AS hi,obs,fR,DF (Nat.le_of_lt hi),Mm (c.Requests.take i) c.Requests[i] (by rw [List.length_take]; omega),Iz,Cc]
  cases h1:Db c.Requests[i] != 0
  ·rw [h1,Bool.false_or] at hp
   rw [hp]; exact ⟨rfl,rfl⟩
  ·exact ⟨rfl,rfl⟩
 ·unfold GK
  simp only [Int.lt_irrefl,decide_false,cond_false]
  exact ⟨trivial,rfl⟩
noncomputable def D9 (c:Ae) (r:Ak):Bool:=Fi c.F c.Ledger r != 0
noncomputable def Eb (c:Ae) (i:Nat):Int:=((c.Replicas[i]?).map (Fi c.F c.Ledger)).getD 0
noncomputable def Lk (c:Ae):Option Nat:=BB (pAt (D9 c) c.Replicas) c.Replicas.length
theorem Qo (c:Ae) (H:Bv c.F c.Ledger) (hr:c.Replicas.length≤1048576):Ar (GM c) NN (0,0) = some (orF (Lk c) (fun i=>.ret (Eb c i,(i:Int))) (.exit 2 (0,(c.Replicas.length:Int)))):=by
 exact AG (f:=GM c) (s0:=(0,0)) (fun i=>(0,(i:Int))) c.Replicas.length (pAt (D9 c) c.Replicas) (fun i=>.ret (Eb c i,(i:Int))) (.exit 2 (0,(c.Replicas.length:Int))) (fun i hi _ hp=>by
  rw [AK hi] at hp
  unfold D9 at hp
  have hc':(i:Int) < (c.Replicas.length:Int):=by omega
  unfold GM
  simp only [hc',decide_true,cond_true,AS hi,obs,Mn H,hp,cond_false,wi1 (show i≤1099511627776 by omega)]) (fun i hi _ hp=>by
  rw [AK hi] at hp
  unfold D9 at hp
  have hc':(i:Int) < (c.Replicas.length:Int):=by omega
  unfold GM Eb
  rw [List.getElem?_eq_getElem hi]
  simp only [hc',decide_true,cond_true,AS hi,obs,Mn H,hp,Option.map_some,Option.getD_some]
  exact ⟨trivial,rfl⟩) (fun _=>by
  unfold GM
  simp only [Int.lt_irrefl,decide_false,cond_false]
  exact ⟨trivial,rfl⟩) (Be hr) rfl
theorem Qp (c:Ae) (H:Bv c.F c.Ledger) (hr:c.Replicas.length≤1048576):Ar (GL c (Ix c.F c.Ledger)) NN (0,0) = some (orF (Lk c) (fun i=>.ret (Eb c i,(i:Int))) (.exit 2 (0,(c.Replicas.length:Int)))):=by
 exact AG (f:=GL c (Ix c.F c.Ledger)) (s0:=(0,0)) (fun i=>(0,(i:Int))) c.Replicas.length (pAt (D9 c) c.Replicas) (fun i=>.ret (Eb c i,(i:Int))) (.exit 2 (0,(c.Replicas.length:Int))) (fun i hi _ hp=>by
  rw [AK hi] at hp
  unfold D9 at hp
  have hc':(i:Int) < (c.Replicas.length:Int):=by omega
  unfold GL
  simp only [hc',decide_true,cond_true,AS hi,obs,Mo H,hp,cond_false,wi1 (show i≤1099511627776 by omega)]) (fun i hi _ hp=>by
  rw [AK hi] at hp
  unfold D9 at hp
  have hc':(i:Int) < (c.Replicas.length:Int):=by omega
  unfold GL Eb
  rw [List.getElem?_eq_getElem hi]
  simp only [hc',decide_true,cond_true,AS hi,obs,Mo H,hp,Option.map_some,Option.getD_some]
  exact ⟨trivial,rfl⟩) (fun _=>by
  unfold GL
  simp only [Int.lt_irrefl,decide_false,cond_false]
  exact ⟨trivial,rfl⟩) (Be hr) rfl
theorem pM {L:List Int} {k:Int} (h:L.length≤1048576):Bu 8 L [k] = some (L++[k]):=by
 unfold Bu
 rw [if_pos (by simp; omega)]
theorem cI (c:Ae) (hr:c.Replicas.length≤1048576):Ar (Is c) NN (0,[]) = some (.exit 0 ((c.Replicas.length:Int),c.Replicas.map (·.Id))):=by
 rw [Cf (f:=Is c) (s0:=(0,[])) (fun i=>((i:Int),(c.Replicas.take i).map (·.Id))) c.Replicas.length (.exit 0 ((c.Replicas.length:Int),(c.Replicas.take c.Replicas.length).map (·.Id))) (fun i hi=>?_) ?_ rfl (Be hr) rfl]
 ·rw [List.take_length]
 ·unfold Is
  simp only [Int.lt_irrefl,decide_false,cond_false]
 ·have hc':(i:Int) < (c.Replicas.length:Int):=by omega
  unfold Is
  simp only [hc',decide_true,cond_true,AS hi,obs,pM (show ((c.Replicas.take i).map (·.Id)).length≤1048576 by simp; omega),wi1 (show i≤1099511627776 by omega)]
  rw [De hi,List.map_append]
  rfl
structure qG (c:Ae):Prop where
 led:Bv c.F c.Ledger
 badl:(c.Bad.length:Int)≤c.F
 reql:c.Requests.length≤12
 bad:FA c.F c.Bad = 0
 ids:c.Replicas.map (·.Id) = Hl c.F c.Bad
 reps:∀ r∈c.Replicas,Fi c.F c.Ledger r = 0
theorem Yz (c:Ae) (g:BJ c):∃ y,m38 c = some y∧m80 c = some y∧(y = 0→qG c):=by
 unfold m38 m80
 rw [Wb _ _ g.led g.msg,Wc _ _ g.led g.msg]
 simp only [obs]
 by_cases hl:HU c.F c.Ledger = 0
 rotate_left
 ·have e:(HU c.F c.Ledger != 0) = true:=by simpa using hl
  rw [e]
  exact ⟨_,rfl,rfl,fun h=>absurd h hl⟩
 have H:=WO hl
 have e:(HU c.F c.Ledger != 0) = false:=by simpa using hl
 rw [e,cond_false,cond_false,WY _ _ g.bad,Nt _ _ g.bad]
 by_cases hq:(c.Requests.length:Int) > 12
 ·simp only [hq,decide_true,cond_true,obs]
  cases decide ((c.Bad.length:Int) > c.F) <;> exact ⟨2,rfl,rfl,fun h=>by cases h⟩
 simp only [hq,decide_false,cond_false,obs]
 by_cases hb:(c.Bad.length:Int) > c.F
 ·simp only [hb,decide_true,cond_true,obs]
  exact ⟨2,rfl,rfl,fun h=>by cases h⟩
 simp only [hb,decide_false,cond_false,obs,Ac]
 by_cases hbc:FA c.F c.Bad = 0
 rotate_left
 ·have e:(FA c.F c.Bad != 0) = true:=by simpa using hbc
  rw [e]
  exact ⟨_,rfl,rfl,fun h=>absurd h hbc⟩
 have e:(FA c.F c.Bad != 0) = false:=by simpa using hbc
 rw [e,cond_false,cond_false,cI c g.rep]
 simp only [obs,Ac,if_true]
 rw [M3 H.f12 _ g.bad,obs,Py _ _ (by rw [List.length_map]; exact g.rep),obs]
 unfold m67
 rcases Qq c H.f12 g.bad g.rep with ⟨h1,j,h2⟩ | ⟨h1,h2⟩
 rotate_left
 ·rw [decide_eq_false h1]
  rcases h2 with ⟨a,j,h2,h3⟩ | ⟨s,h2,h3⟩
  ·rw [h2]
   have e:(a != (c.Replicas.length:Int)) = true:=by simpa using h3
   simp only [obs,Ac,if_true,e,cond_true]
   exact ⟨1,rfl,rfl,fun h=>by cases h⟩
  ·rw [h2]
   simp only [obs,Ac,h3]
   exact ⟨1,rfl,rfl,fun h=>by cases h⟩
 rw [decide_eq_true h1,h2]
 have e:((c.Replicas.length:Int) != (c.Replicas.length:Int)) = false:=by simp
 simp only [Bool.not_true,cond_false,obs,Ac,if_true,e]
 rw [VY H,obs,Qp c H g.rep,Qo c H g.rep]
 unfold Lk
 rcases Cg (pAt (D9 c) c.Replicas) c.Replicas.length with k | ⟨i,k1,k2,k3⟩
 rotate_left
 ·rw [BK k1 k2 k3]
  simp only [orF,obs,Ac]
  have hv:Eb c i≠0:=by
   rw [AK k1] at k3
   unfold D9 at k3
   unfold Eb
   rw [List.getElem?_eq_getElem k1]
   simpa using k3
  have e:(Eb c i != 0) = true:=by simpa using hv
  rw [e]
  exact ⟨_,rfl,rfl,fun h=>absurd h hv⟩
 rw [D5 k]
 simp only [orF,obs,Ac,if_true]
 have e0:((0:Int) != 0) = false:=rfl
 rw [e0,cond_false]
 rw [Qm c (by omega),Qn c (by omega)]
 refine ⟨_,rfl,rfl,fun _=>⟨H,by omega,by omega,hbc,h1,fun r hr=>?_⟩⟩
 obtain ⟨i,hi,rfl⟩:=List.mem_iff_getElem.1 hr
 have:=k i hi
 rw [AK hi] at this
 unfold D9 at this
 simpa using this
open Go Go.Rf
def Uh (c:Ae) (id:Int):Option Nat:=BB (pAt (fun r=>r.Id == id) c.Replicas) c.Replicas.length
end Go.Proofs.YtdlleiaejipncaaGreatDoor
