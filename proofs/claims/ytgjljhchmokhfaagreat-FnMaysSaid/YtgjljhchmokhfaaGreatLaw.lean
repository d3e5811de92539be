/- Replicas that may: what is needed first. -/
import Derived.Test.YtgjljhchmokhfaaGreatSort
import Derived.Test.YtgjljhchmokhfaaGreatRh3
import Derived.Test.YtgjljhchmokhfaaGreatRh6
import Derived.Test.YtgjljhchmokhfaaGreatRh10
namespace Go.Proofs.YtgjljhchmokhfaaGreat
open Go Go.Rf
set_option linter.unusedVariables false
set_option linter.unusedSimpArgs false
theorem Bq {n:Nat} (h:n≤1048576):n < NN:=by rw [CN]; omega
def AS (m:Ad):Prop:=m.Certs.length≤1048576∧m.Refs.length≤1048576
theorem CC {n:Nat} (h:n≤1048576):n≤big:=by unfold big; omega
open Go Go.Rf
def inR (n lo hi:Int):Bool:=decide (lo≤n∧n≤hi)
theorem in1 (n lo hi:Int):m74 n lo hi = inR n lo hi:=by
 unfold m74 inR
 by_cases h:n ≥ lo
 ·simp [h]
 ·simp [h]
theorem in2 (n lo hi:Int):m56 n lo hi = inR n lo hi:=in1 n lo hi
theorem I8 (k:Int):m80 k = inR k 1 3:=in1 _ _ _
theorem Kz (k:Int):m61 k = inR k 0 20:=in1 _ _ _
theorem G4 (k:Int):m42 k = inR k 1 30:=in1 _ _ _
theorem Fq (k:Int):m43 k = inR k 0 12:=in1 _ _ _
def CZ (f:Int):Int:=wi .i64 ((wi .i64 (3 * f)) + 1)
theorem TR (f:Int):m81 f = CZ f:=rfl
theorem Nw (f k:Int):m60 f k = inR k 1 (CZ f):=in1 _ _ _
theorem Vb (f k:Int):m73 f k = inR k 1 (CZ f):=in1 _ _ _
theorem Ph (a b c d e f g h:Bool):(bif !a then
    some (LO.norm true)
   else
    bif !b then
     bif c then
      some (LO.norm true)
     else
      bif d then
       some (LO.norm true)
      else
       bif e then
        bif f then
         some (LO.norm true)
        else
         bif g then
          some (LO.norm h)
         else
          some (LO.norm false)
       else
        bif g then
         some (LO.norm h)
        else
         some (LO.norm false)
    else
     bif e then
      bif f then
       some (LO.norm true)
      else
       bif g then
        some (LO.norm h)
       else
        some (LO.norm false)
     else
      bif g then
       some (LO.norm h)
      else
       some (LO.norm false)) = some (LO.norm (!((a && (b || (!c && !d))) && ((!e || !f) && (!g || !h))))):=by
 cases a <;> cases b <;> cases c <;> cases d <;> cases e <;> cases f <;> cases g <;> cases h <;> rfl
theorem Pg (a b c d e f g h:Bool):(bif a then
   bif b then
    bif e then
     bif g then
      some (LO.norm true)
     else
      some (LO.norm h)
    else
     bif f then
      bif g then
       some (LO.norm true)
      else
       some (LO.norm h)
     else
      some (LO.norm false)
   else
    bif c then
     bif d then
      bif e then
       bif g then
        some (LO.norm true)
       else
        some (LO.norm h)
      else
       bif f then
        bif g then
         some (LO.norm true)
        else
         some (LO.norm h)
       else
        some (LO.norm false)
     else
      some (LO.norm false)
    else
     some (LO.norm false)
  else
   some (LO.norm false)) = some (LO.norm ((a && (b || (c && d))) && ((e || f) && (g || h)))):=by
 cases a <;> cases b <;> cases c <;> cases d <;> cases e <;> cases f <;> cases g <;> cases h <;> rfl
theorem Pe (a b c d e:Bool):(bif !a then
      some (LO.norm true)
     else
      bif !b then
       some (LO.norm true)
      else
       bif c then
        bif !d then
         some (LO.norm true)
        else
         some (LO.norm (!e))
       else
        some (LO.norm false)) = some (LO.norm (!a || (!b || (c && (!d || !e))))):=by
 cases a <;> cases b <;> cases c <;> cases d <;> cases e <;> rfl
theorem G3 (a b c:Bool):(bif !a then
     some (LO.norm true)
    else
     bif !b then
      some (LO.norm true)
     else
      some (LO.norm (!c))) = some (LO.norm (!a || (!b || !c))):=by
 cases a <;> cases b <;> cases c <;> rfl
def HU (m:Ad):Bool:=(inR m.Kind 1 5 && (inR m.Kind 1 3 || ((m.Slot == 0) && (m.Value == 0)))) && (((m.Kind == 4) || ((m.Certs.length:Int) == 0)) && ((m.Kind == 5) || ((m.Refs.length:Int) == 0)))
def Gi (f:Int) (m:Ad):Bool:=!inR m.View 0 20 || (!inR m.From 1 (CZ f) || (inR m.Kind 1 3 && (!inR m.Slot 1 30 || !inR m.Value 0 12)))
def BZ (v:Int) (c:Ar):Bool:=!inR c.Slot 1 30 || (!inR c.View 0 (wi .i64 (v - 1)) || !inR c.Value 0 12)
def CM (xs:List Int) (i:Nat):Bool:=decide (0 < i) && decide (A xs i≤A xs (i - 1))
def Ds (xs:List Int):Bool:=(C7 (CM xs) xs.length).isNone
def Du (r:Int):Bool:=!inR r 0 239
noncomputable def DJ (f:Int) (m:Ad):Int:=bif HU m then bif Gi f m then 3 else bif decide ((m.Certs.length:Int) > 30) then 2 else bif decide ((m.Refs.length:Int) > CZ f) then 2 else bif Ds (m.Certs.map (·.Slot)) then bif Ds m.Refs then bif m.Certs.any (BZ m.View) then 3 else bif m.Refs.any Du then 3 else 0 else 1 else 1 else 1
theorem HY {α:Type} {g:α→Int} {cs:List α} {i:Nat} (h:i < cs.length):A (cs.map g) i = g cs[i]:=by simp [A,h]
theorem Ig {i:Nat} (h0:0 < i) (h:i≤big):wi .i64 ((i:Int) - 1) = ((i - 1:Nat):Int):=by
 unfold big at h
 rw [Bi (by omega) (by omega)]; omega
theorem JU {p:Nat→Bool} (n:Nat) (h0:p 0 = false):(C7 (fun i=>p (i + 1)) (n - 1)).isNone = (C7 p n).isNone:=by
 rw [Bool.eq_iff_iff,Option.isNone_iff_eq_none,Option.isNone_iff_eq_none,Ha,Ha]
 constructor
 ·intro h j hj
  cases j with
  | zero=>exact h0
  | succ j=>exact h j (by omega)
 ·intro h j hj; exact h (j + 1) (by omega)
theorem EB {β:Type} {x:Option Nat} {out:Nat→β} {fin:β} (h:x.isNone = true):orF x out fin = fin:=by
 cases x
 ·rfl
 ·cases h
theorem EA {β:Type} {x:Option Nat} {out:Nat→β} {fin:β} (h:x.isNone = false):∃ i,orF x out fin = out i:=by
 cases x
 ·cases h
 ·exact ⟨_,rfl⟩
theorem VA (m:Ad) (hg:AS m) (s:Int):∃ j,Aq (Gn m) NN (s,0) = some (bif Ds (m.Certs.map (·.Slot)) then .exit 1 (s,j) else .ret (1,j)):=by
 rw [AM (f:=Gn m) (s0:=(s,0)) (fun i=>(s,(i:Int))) m.Certs.length (CM (m.Certs.map (·.Slot))) (fun i=>.ret (1,(i:Int))) (.exit 1 (s,(m.Certs.length:Int))) (fun i hi _ hp=>?_) (fun i hi _ hp=>?_) (fun _=>?_) (Bq hg.1) rfl]
 ·unfold Ds
  rw [List.length_map]
  cases h:(C7 (CM (m.Certs.map (·.Slot))) m.Certs.length).isNone
  ·obtain ⟨i,hi⟩:=EA (out:=fun i=>LO.ret ((1:Int),(i:Int))) (fin:=.exit 1 (s,(m.Certs.length:Int))) h
   exact ⟨_,by rw [hi]; rfl⟩
  ·exact ⟨_,by rw [EB h]; rfl⟩
 ·have hc':(i:Int) < (m.Certs.length:Int):=by omega
  have hb:i≤big:=Nat.le_trans (Nat.le_of_lt hi) (CC hg.1)
  unfold Gn
  simp only [hc',decide_true,cond_true,Bn hi,obs]
  by_cases h0:0 < i
  ·have h0':(i:Int) > 0:=by omega
   unfold CM at hp
   rw [HY hi,HY (show i - 1 < m.Certs.length by omega),decide_eq_true h0,Bool.true_and] at hp
   simp only [h0',decide_true,cond_true,Ig h0 hb,Bn (show i - 1 < m.Certs.length by omega),obs,hp,cond_false,Ac,wi1 hb]
  ·have h0':¬ (i:Int) > 0:=by omega
   simp only [h0',decide_false,cond_false,obs,Ac,wi1 hb]
 ·have hc':(i:Int) < (m.Certs.length:Int):=by omega
  have hb:i≤big:=Nat.le_trans (Nat.le_of_lt hi) (CC hg.1)
  unfold Gn
  unfold CM at hp
  rw [Bool.and_eq_true,HY hi,HY (show i - 1 < m.Certs.length by omega)] at hp
  have h0:0 < i:=of_decide_eq_true hp.1
  have h0':(i:Int) > 0:=by omega
  simp only [hc',decide_true,cond_true,Bn hi,obs,h0',Ig h0 hb,Bn (show i - 1 < m.Certs.length by omega),hp.2,Ac]
  exact ⟨trivial,rfl⟩
 ·unfold Gn
  simp only [Int.lt_irrefl,decide_false,cond_false]
  exact ⟨trivial,rfl⟩
theorem V8 (m:Ad) (hg:AS m) (s:Int):∃ j,Aq (Gm m) NN (s,0) = some (bif Ds m.Refs then .exit 3 (s,j) else .ret (1,j)):=by
 rw [AM (f:=Gm m) (s0:=(s,0)) (fun i=>(s,(i:Int))) m.Refs.length (CM m.Refs) (fun i=>.ret (1,(i:Int))) (.exit 3 (s,(m.Refs.length:Int))) (fun i hi _ hp=>?_) (fun i hi _ hp=>?_) (fun _=>?_) (Bq hg.2) rfl]
 ·unfold Ds
  cases h:(C7 (CM m.Refs) m.Refs.length).isNone
  ·obtain ⟨i,hi⟩:=EA (out:=fun i=>LO.ret ((1:Int),(i:Int))) (fin:=.exit 3 (s,(m.Refs.length:Int))) h
   exact ⟨_,by rw [hi]; rfl⟩
  ·exact ⟨_,by rw [EB h]; rfl⟩
 ·have hc':(i:Int) < (m.Refs.length:Int):=by omega
  have hb:i≤big:=Nat.le_trans (Nat.le_of_lt hi) (CC hg.2)
  unfold Gm
  simp only [hc',decide_true,cond_true,Bn hi,obs]
  by_cases h0:0 < i
  ·have h0':(i:Int) > 0:=by omega
   unfold CM at hp
   rw [DD hi,DD (show i - 1 < m.Refs.length by omega),decide_eq_true h0,Bool.true_and] at hp
   simp only [h0',decide_true,cond_true,Ig h0 hb,Bn (show i - 1 < m.Refs.length by omega),obs,hp,cond_false,Ac,wi1 hb]
  ·have h0':¬ (i:Int) > 0:=by omega
   simp only [h0',decide_false,cond_false,obs,Ac,wi1 hb]
 ·have hc':(i:Int) < (m.Refs.length:Int):=by omega
  have hb:i≤big:=Nat.le_trans (Nat.le_of_lt hi) (CC hg.2)
  unfold Gm
  unfold CM at hp
  rw [Bool.and_eq_true,DD hi,DD (show i - 1 < m.Refs.length by omega)] at hp
  have h0:0 < i:=of_decide_eq_true hp.1
  have h0':(i:Int) > 0:=by omega
  simp only [hc',decide_true,cond_true,Bn hi,obs,h0',Ig h0 hb,Bn (show i - 1 < m.Refs.length by omega),hp.2,Ac]
  exact ⟨trivial,rfl⟩
 ·unfold Gm
  simp only [Int.lt_irrefl,decide_false,cond_false]
  exact ⟨trivial,rfl⟩
theorem OP {i:Nat} (h:i≤1048576):wi .i64 ((i:Int) + 1 + 1) = ((i + 1:Nat):Int) + 1:=by rw [Bi (by omega) (by omega)]; omega
theorem If {i:Nat} (h:i≤1048576):wi .i64 ((i:Int) + 1 - 1) = (i:Int):=by rw [Bi (by omega) (by omega)]; omega
theorem V9 (m:Ad) (hg:AS m) (s:Int):∃ j,Aq (EV m) NN (s,1) = some (bif Ds (m.Certs.map (·.Slot)) then .exit 0 (s,j) else .ret (1,j)):=by
 have hg1:=hg.1
 rw [AM (f:=EV m) (s0:=(s,1)) (fun i=>(s,(i:Int) + 1)) (m.Certs.length - 1) (fun i=>CM (m.Certs.map (·.Slot)) (i + 1)) (fun i=>.ret (1,(i:Int) + 1)) (.exit 0 (s,((m.Certs.length - 1:Nat):Int) + 1)) (fun i hi _ hp=>?_) (fun i hi _ hp=>?_) (fun _=>?_) (Bq (by omega)) rfl]
 ·unfold Ds
  rw [List.length_map,← JU m.Certs.length (p:=CM (m.Certs.map (·.Slot))) (by simp [CM])]
  cases h:(C7 (fun i=>CM (m.Certs.map (·.Slot)) (i + 1)) (m.Certs.length - 1)).isNone
  ·obtain ⟨i,hi⟩:=EA (out:=fun i=>LO.ret ((1:Int),(i:Int) + 1)) (fin:=.exit 0 (s,((m.Certs.length - 1:Nat):Int) + 1)) h
   exact ⟨_,by rw [hi]; rfl⟩
  ·exact ⟨_,by rw [EB h]; rfl⟩
 ·have hc':(i:Int) + 1 < (m.Certs.length:Int):=by omega
  have h1:i + 1 < m.Certs.length:=by omega
  have g1:Am m.Certs ((i:Int) + 1) = some m.Certs[i + 1]:=Bn (i:=i + 1) h1
  unfold EV
  unfold CM at hp
  rw [HY h1,HY (show i + 1 - 1 < m.Certs.length by omega)] at hp
  simp only [Nat.add_sub_cancel,Nat.zero_lt_succ,decide_true,Bool.true_and] at hp
  simp only [hc',decide_true,cond_true,g1,If (show i≤1048576 by omega),Bn (show i < m.Certs.length by omega),obs,hp,cond_false,OP (show i≤1048576 by omega)]
 ·have hc':(i:Int) + 1 < (m.Certs.length:Int):=by omega
  have h1:i + 1 < m.Certs.length:=by omega
  have g1:Am m.Certs ((i:Int) + 1) = some m.Certs[i + 1]:=Bn (i:=i + 1) h1
  unfold EV
  unfold CM at hp
  rw [HY h1,HY (show i + 1 - 1 < m.Certs.length by omega)] at hp
  simp only [Nat.add_sub_cancel,Nat.zero_lt_succ,decide_true,Bool.true_and] at hp
  simp only [hc',decide_true,cond_true,g1,If (show i≤1048576 by omega),Bn (show i < m.Certs.length by omega),obs,hp]
  exact ⟨trivial,rfl⟩
 ·have hc':¬ (((m.Certs.length - 1:Nat):Int) + 1 < (m.Certs.length:Int)):=by omega
  unfold EV
  simp only [hc',decide_false,cond_false]
  exact ⟨trivial,rfl⟩
theorem V7 (m:Ad) (hg:AS m) (s:Int):∃ j,Aq (EU m) NN (s,1) = some (bif Ds m.Refs then .exit 2 (s,j) else .ret (1,j)):=by
 have hg1:=hg.2
 rw [AM (f:=EU m) (s0:=(s,1)) (fun i=>(s,(i:Int) + 1)) (m.Refs.length - 1) (fun i=>CM m.Refs (i + 1)) (fun i=>.ret (1,(i:Int) + 1)) (.exit 2 (s,((m.Refs.length - 1:Nat):Int) + 1)) (fun i hi _ hp=>?_) (fun i hi _ hp=>?_) (fun _=>?_) (Bq (by omega)) rfl]
 ·unfold Ds
  rw [← JU m.Refs.length (p:=CM m.Refs) (by simp [CM])]
  cases h:(C7 (fun i=>CM m.Refs (i + 1)) (m.Refs.length - 1)).isNone
  ·obtain ⟨i,hi⟩:=EA (out:=fun i=>LO.ret ((1:Int),(i:Int) + 1)) (fin:=.exit 2 (s,((m.Refs.length - 1:Nat):Int) + 1)) h
   exact ⟨_,by rw [hi]; rfl⟩
  ·exact ⟨_,by rw [EB h]; rfl⟩
 ·have hc':(i:Int) + 1 < (m.Refs.length:Int):=by omega
  have h1:i + 1 < m.Refs.length:=by omega
  have g1:Am m.Refs ((i:Int) + 1) = some m.Refs[i + 1]:=Bn (i:=i + 1) h1
  unfold EU
  unfold CM at hp
  rw [DD h1,DD (show i + 1 - 1 < m.Refs.length by omega)] at hp
  simp only [Nat.add_sub_cancel,Nat.zero_lt_succ,decide_true,Bool.true_and] at hp
  simp only [hc',decide_true,cond_true,g1,If (show i≤1048576 by omega),Bn (show i < m.Refs.length by omega),obs,hp,cond_false,OP (show i≤1048576 by omega)]
 ·have hc':(i:Int) + 1 < (m.Refs.length:Int):=by omega
  have h1:i + 1 < m.Refs.length:=by omega
  have g1:Am m.Refs ((i:Int) + 1) = some m.Refs[i + 1]:=Bn (i:=i + 1) h1
  unfold EU
  unfold CM at hp
  rw [DD h1,DD (show i + 1 - 1 < m.Refs.length by omega)] at hp
  simp only [Nat.add_sub_cancel,Nat.zero_lt_succ,decide_true,Bool.true_and] at hp
  simp only [hc',decide_true,cond_true,g1,If (show i≤1048576 by omega),Bn (show i < m.Refs.length by omega),obs,hp]
  exact ⟨trivial,rfl⟩
 ·have hc':¬ (((m.Refs.length - 1:Nat):Int) + 1 < (m.Refs.length:Int)):=by omega
  unfold EU
  simp only [hc',decide_false,cond_false]
  exact ⟨trivial,rfl⟩
theorem LL {α:Type} (q:α→Bool) (xs:List α):(C7 (pAt q xs) xs.length).isNone = !xs.any q:=by
 rw [← D1]; cases C7 (pAt q xs) xs.length <;> rfl
theorem Xu (m:Ad) (hg:AS m) (s:Int):∃ j,Aq (ET m) NN (s,0) = some (bif m.Certs.any (BZ m.View) then .ret (3,j) else .exit 4 (s,j)):=by
 rw [AM (f:=ET m) (s0:=(s,0)) (fun i=>(s,(i:Int))) m.Certs.length (pAt (BZ m.View) m.Certs) (fun i=>.ret (3,(i:Int))) (.exit 4 (s,(m.Certs.length:Int))) (fun i hi _ hp=>?_) (fun i hi _ hp=>?_) (fun _=>?_) (Bq hg.1) rfl]
 ·have e:=LL (BZ m.View) m.Certs
  cases h:m.Certs.any (BZ m.View)
  ·rw [h] at e; exact ⟨_,by rw [EB e]; rfl⟩
  ·rw [h] at e
   obtain ⟨i,hi⟩:=EA (out:=fun i=>LO.ret ((3:Int),(i:Int))) (fin:=.exit 4 (s,(m.Certs.length:Int))) e
   exact ⟨_,by rw [hi]; rfl⟩
 ·have hc':(i:Int) < (m.Certs.length:Int):=by omega
  have hb:i≤big:=Nat.le_trans (Nat.le_of_lt hi) (CC hg.1)
  rw [Bf hi] at hp
  unfold ET
  simp only [hc',decide_true,cond_true,Bn hi,obs,in1,G3]
  unfold BZ at hp
  simp only [hp,cond_false,Ac,obs,wi1 hb]
 ·have hc':(i:Int) < (m.Certs.length:Int):=by omega
  rw [Bf hi] at hp
  unfold ET
  simp only [hc',decide_true,cond_true,Bn hi,obs,in1,G3]
  unfold BZ at hp
  simp only [hp,cond_true,Ac,obs]
  exact ⟨trivial,rfl⟩
 ·unfold ET
  simp only [Int.lt_irrefl,decide_false,cond_false]
  exact ⟨trivial,rfl⟩
theorem refL (m:Ad) (hg:AS m) (s:Int):∃ j,Aq (ES m) NN (s,0) = some (bif m.Refs.any Du then .ret (3,j) else .exit 6 (s,j)):=by
 rw [AM (f:=ES m) (s0:=(s,0)) (fun i=>(s,(i:Int))) m.Refs.length (pAt Du m.Refs) (fun i=>.ret (3,(i:Int))) (.exit 6 (s,(m.Refs.length:Int))) (fun i hi _ hp=>?_) (fun i hi _ hp=>?_) (fun _=>?_) (Bq hg.2) rfl]
 ·have e:=LL Du m.Refs
  cases h:m.Refs.any Du
  ·rw [h] at e; exact ⟨_,by rw [EB e]; rfl⟩
  ·rw [h] at e
   obtain ⟨i,hi⟩:=EA (out:=fun i=>LO.ret ((3:Int),(i:Int))) (fin:=.exit 6 (s,(m.Refs.length:Int))) e
   exact ⟨_,by rw [hi]; rfl⟩
 ·have hc':(i:Int) < (m.Refs.length:Int):=by omega
  have hb:i≤big:=Nat.le_trans (Nat.le_of_lt hi) (CC hg.2)
  rw [Bf hi] at hp
  unfold ES
  unfold Du at hp
  simp only [hc',decide_true,cond_true,Bn hi,obs,in1,hp,cond_false,wi1 hb]
 ·have hc':(i:Int) < (m.Refs.length:Int):=by omega
  rw [Bf hi] at hp
  unfold ES
  unfold Du at hp
  simp only [hc',decide_true,cond_true,Bn hi,obs,in1,hp]
  exact ⟨trivial,rfl⟩
 ·unfold ES
  simp only [Int.lt_irrefl,decide_false,cond_false]
  exact ⟨trivial,rfl⟩
theorem Rt (m:Ad) (hg:AS m):Rb m = some (bif Ds (m.Certs.map (·.Slot)) then bif Ds m.Refs then bif m.Certs.any (BZ m.View) then 3 else bif m.Refs.any Du then 3 else 0 else 1 else 1):=by
 unfold Rb
 obtain ⟨j1,e1⟩:=V9 m hg 0
 rw [e1]
 cases Ds (m.Certs.map (·.Slot))
 ·rfl
 simp only [cond_true,obs,Ac,if_true]
 obtain ⟨j2,e2⟩:=V7 m hg 0
 rw [e2]
 cases Ds m.Refs
 ·rfl
 simp only [cond_true,obs,Ac,if_true]
 obtain ⟨j3,e3⟩:=Xu m hg 0
 rw [e3]
 cases m.Certs.any (BZ m.View)
 rotate_left
 ·rfl
 simp only [cond_false,obs,Ac,if_true]
 obtain ⟨j4,e4⟩:=refL m hg 0
 rw [e4]
 cases m.Refs.any Du <;> rfl
theorem Us (m:Ad):Re m = some (HU m):=by
 unfold Re
 rw [Pg]
 simp only [in1,obs,Ac]
 rfl
theorem L8 (f:Int) (m:Ad) (hg:AS m):Rk f m = some (DJ f m):=by
 unfold Rk DJ
 rw [Us,obs,Pe]
 cases hb:HU m
 ·rfl
 have hk:decide (m.Kind≤3) = inR m.Kind 1 3:=by
  unfold HU at hb
  rw [Bool.and_eq_true,Bool.and_eq_true] at hb
  have:=hb.1.1
  unfold inR at this ⊢
  have h1:=of_decide_eq_true this
  exact decide_eq_decide.2 ⟨fun h=>⟨h1.1,h⟩,fun h=>h.2⟩
 simp only [in1,Vb,hk,Bool.not_true,cond_false,cond_true,obs,Ac]
 rw [show (!inR m.View 0 20 || (!inR m.From 1 (CZ f) || (inR m.Kind 1 3 && (!inR m.Slot 1 30 || !inR m.Value 0 12)))) = Gi f m from rfl]
 cases hr:Gi f m
 rotate_left
 ·rfl
 simp only [cond_false,obs,Ac]
 cases h1:decide ((m.Certs.length:Int) > 30)
 rotate_left
 ·rfl
 simp only [cond_false]
 cases h2:decide ((m.Refs.length:Int) > CZ f)
 rotate_left
 ·have h2':decide ((m.Refs.length:Int) > wi .i64 ((wi .i64 (3 * f)) + 1)) = true:=h2
  rw [h2']; rfl
 have h2':decide ((m.Refs.length:Int) > wi .i64 ((wi .i64 (3 * f)) + 1)) = false:=h2
 simp only [h2',cond_false,obs,Ac,Rt m hg]
theorem Xv (m:Ad) (c:Ar):m83 c m = some (BZ m.View c):=by
 unfold m83
 rw [G3]
 simp only [G4,Fq,in2,obs,Ac]
 rfl
theorem L9 (f:Int) (m:Ad) (hg:AS m):m53 f m = some (DJ f m):=by
 unfold m53 DJ
 rw [Ph,Pe]
 have hbare:(!((m56 m.Kind 1 5 && (m80 m.Kind || (!(m.Slot != 0) && !(m.Value != 0)))) && ((!(m.Kind != 4) || !decide ((m.Certs.length:Int) > 0)) && (!(m.Kind != 5) || !decide ((m.Refs.length:Int) > 0))))) = !HU m:=by
  have e1:∀ n:Nat,(!decide ((n:Int) > 0)) = ((n:Int) == 0):=fun n=>by
   cases n with
   | zero=>rfl
   | succ n=>
    have:((n + 1:Nat):Int) > 0:=by omega
    simp only [this,decide_true,Bool.not_true]
    symm
    simp; omega
  simp only [in2,I8,bne,Bool.not_not,e1]
  rfl
 rw [hbare]
 simp only [obs,Ac]
 cases hb:HU m
 ·rfl
 simp only [Bool.not_true,cond_false,cond_true,obs,Ac,Kz,Nw,I8,G4,Fq]
 rw [show (!inR m.View 0 20 || (!inR m.From 1 (CZ f) || (inR m.Kind 1 3 && (!inR m.Slot 1 30 || !inR m.Value 0 12)))) = Gi f m from rfl]
 cases hr:Gi f m
 rotate_left
 ·rfl
 simp only [cond_false,obs,Ac]
 cases h1:decide ((m.Certs.length:Int) > 30)
 rotate_left
 ·rfl
 simp only [cond_false]
 cases h2:decide ((m.Refs.length:Int) > CZ f)
 rotate_left
 ·have h2':decide ((m.Refs.length:Int) > m81 f) = true:=h2
  rw [h2']; rfl
 have h2':decide ((m.Refs.length:Int) > m81 f) = false:=h2
 simp only [h2',cond_false,obs,Ac]
 obtain ⟨j1,e1⟩:=VA m hg 0
 rw [e1]
 cases Ds (m.Certs.map (·.Slot))
 ·rfl
 simp only [cond_true,obs,Ac,if_true]
 obtain ⟨j2,e2⟩:=V8 m hg 0
 rw [e2]
 cases Ds m.Refs
 ·rfl
 simp only [cond_true,obs,Ac,if_true]
 rw [show m82 m.Certs (fun x0_=>m83 x0_ m) = some (m.Certs.any (BZ m.View)) from H9 (Bq hg.1) (CC hg.1) (fun x _=>Xv m x)]
 cases m.Certs.any (BZ m.View)
 rotate_left
 ·rfl
 simp only [cond_false,obs]
 rw [show m84 m.Refs (fun x0_=>some (m85 x0_)) = some (m.Refs.any Du) from H9 (Bq hg.2) (CC hg.2) (fun x _=>by unfold m85; rw [in2]; rfl)]
 cases m.Refs.any Du <;> rfl
open Go Go.Rf
def neC (x1 x2:Ar):Bool:=!(((x1.Slot == x2.Slot) && ((x1.View == x2.View) && ((x1.Value == x2.Value) && true))))
theorem QP (a b:Ar):neC a b = !decide (a = b):=by
 obtain ⟨a1,a2,a3⟩:=a
 obtain ⟨b1,b2,b3⟩:=b
 unfold neC
 congr 1
 rw [Bool.eq_iff_iff]
 simp
theorem QO (a b:Int):(a != b) = !decide (a = b):=by
 rw [Bool.eq_iff_iff]; simp
theorem Ud (xs ys:List Ar) (h:xs.length≤1048576):TT xs ys = some (decide (xs = ys)):=Vd (ne:=neC) QP (Bq h) (CC h)
theorem Uc (xs ys:List Int) (h:xs.length≤1048576):TS xs ys = some (decide (xs = ys)):=Vd (ne:=fun a b=>a != b) QO (Bq h) (CC h)
theorem OZ (a b c d e p q:Bool):(bif a then
   bif b then
    bif c then
     bif d then
      bif e then
       (some p).bind fun y1=>
       bif y1 then
        (some q).bind fun y2=>
        some (LO.norm y2)
       else
        some (LO.norm false)
      else
       some (LO.norm false)
     else
      some (LO.norm false)
    else
     some (LO.norm false)
   else
    some (LO.norm false)
  else
   some (LO.norm false)) = some (LO.norm (a && (b && (c && (d && (e && (p && q))))))):=by
 cases a <;> cases b <;> cases c <;> cases d <;> cases e <;> cases p <;> cases q <;> rfl
theorem OY (a b c d e f g:Bool):(bif a then
    some (LO.norm true)
   else
    bif b then
     some (LO.norm true)
    else
     bif c then
      some (LO.norm true)
     else
      bif d then
       some (LO.norm true)
      else
       bif e then
        some (LO.norm true)
       else
        bif f then
         some (LO.norm true)
        else
         some (LO.norm g)) = some (LO.norm (a || (b || (c || (d || (e || (f || g))))))):=by
 cases a <;> cases b <;> cases c <;> cases d <;> cases e <;> cases f <;> cases g <;> rfl
theorem VX (a b:Ad):decide (a = b) = ((a.Kind == b.Kind) && ((a.View == b.View) && ((a.From == b.From) && ((a.Slot == b.Slot) && ((a.Value == b.Value) && (decide (a.Certs = b.Certs) && decide (a.Refs = b.Refs))))))):=by
 obtain ⟨a1,a2,a3,a4,a5,a6,a7⟩:=a
 obtain ⟨b1,b2,b3,b4,b5,b6,b7⟩:=b
 rw [Bool.eq_iff_iff]
 simp
theorem Og (a b:Ad) (hg:AS a):m89 a b = some (decide (a = b)):=by
 unfold m89
 rw [Ud _ _ hg.1,Uc _ _ hg.2,OZ,VX]
 rfl
theorem Of (a b:Ad) (hg:AS a):Oy a b = some (decide (a = b)):=by
 unfold Oy
 rw [OY]
 simp only [obs,Ac]
 cases hx:(a.Kind != b.Kind || (a.View != b.View || (a.From != b.From || (a.Slot != b.Slot || (a.Value != b.Value || ((a.Certs.length:Int) != (b.Certs.length:Int) || (a.Refs.length:Int) != (b.Refs.length:Int)))))))
 rotate_left
 ·simp only [cond_true,obs,Ac]
  congr 1
  symm
  rw [decide_eq_false_iff_not]
  rintro rfl
  simp at hx
 simp only [cond_false,obs,Ac]
 simp only [Bool.or_eq_false_iff,bne_eq_false_iff_eq] at hx
 obtain ⟨h1,h2,h3,h4,h5,h6,h7⟩:=hx
 have hl1:a.Certs.length = b.Certs.length:=by omega
 have hl2:a.Refs.length = b.Refs.length:=by omega
 rcases Jd (ex:=0) (ne:=neC) (N:=NN) QP (Bq hg.1) (CC hg.1) hl1 with ⟨e1,j,k1⟩ | ⟨e1,j,k1⟩
 rotate_left
 ·rw [show Aq (Ir a b) NN (false,0) = some (.ret (false,j)) from k1]
  simp only [obs,Ac]
  congr 1
  symm
  rw [decide_eq_false_iff_not]
  rintro rfl
  exact e1 rfl
 rw [show Aq (Ir a b) NN (false,0) = some (.exit 0 (false,j)) from k1]
 simp only [obs,Ac,if_true]
 rcases Jd (ex:=2) (ne:=fun a b:Int=>a != b) (N:=NN) QO (Bq hg.2) (CC hg.2) hl2 with ⟨e2,j2,k2⟩ | ⟨e2,j2,k2⟩
 rotate_left
 ·rw [show Aq (Iq a b) NN (false,0) = some (.ret (false,j2)) from k2]
  simp only [obs,Ac]
  congr 1
  symm
  rw [decide_eq_false_iff_not]
  rintro rfl
  exact e2 rfl
 rw [show Aq (Iq a b) NN (false,0) = some (.exit 2 (false,j2)) from k2]
 simp only [obs,Ac,if_true]
 congr 1
 symm
 rw [decide_eq_true_eq]
 obtain ⟨a1,a2,a3,a4,a5,a6,a7⟩:=a
 obtain ⟨b1,b2,b3,b4,b5,b6,b7⟩:=b
 simp only at h1 h2 h3 h4 h5 e1 e2
 subst h1; subst h2; subst h3; subst h4; subst h5; subst e1; subst e2
 rfl
def atM (xs:List Ad) (m:Ad):Int:=ixI (C7 (pAt (fun x=>decide (x = m)) xs) xs.length)
theorem NR (xs:List Ad) (m:Ad) (h:xs.length≤1048576) (g:∀ x∈xs,AS x):m55 xs m = some (atM xs m):=by
 unfold m55
 rw [show m87 xs (fun x0_=>m88 x0_ m) = some (atM xs m) from KQ (Bq h) (CC h) (fun x hx=>by unfold m88; rw [Og x m (g x hx)]; rfl)]
 rfl
theorem I0 (xs:List Ad) (m:Ad) (h:xs.length≤1048576) (g:∀ x∈xs,AS x):O0 xs m = some (atM xs m):=KQ (f:=fun x=>Oy x m) (Bq h) (CC h) (fun x hx=>Of x m (g x hx))
def CQ (k:Int) (m:Ad):Bool:=m.Refs.any fun r=>decide (r ≥ k)
theorem J9 (m:Ad) (k:Int) (hg:AS m):m54 m k = some (!CQ k m):=by
 unfold m54
 rw [show m84 m.Refs (fun x0_=>some (m86 x0_ k)) = some (CQ k m) from H9 (Bq hg.2) (CC hg.2) (fun x _=>rfl)]
 rfl
theorem J8 (m:Ad) (k:Int) (hg:AS m):TU m k = some (!CQ k m):=Xh (q:=fun r=>decide (r ≥ k)) (Bq hg.2) (CC hg.2)
noncomputable def EX (f:Int) (xs:List Ad) (i:Nat):Bool:=(xs[i]?).any fun x=>(DJ f x != 0) || (CQ i x || decide (x∈xs.take i))
noncomputable def IY (f:Int) (xs:List Ad) (i:Nat):Int:=match xs[i]? with
 | some x=>bif DJ f x != 0 then DJ f x else bif CQ i x then 4 else 6
 | none=>0
noncomputable def Eb (f:Int) (xs:List Ad):Int:=bif !inR f 1 2 then 3 else bif decide ((xs.length:Int) > 240) then 2 else orF (C7 (EX f xs) xs.length) (IY f xs) 0
theorem DV {f:Int} {xs:List Ad} {i:Nat} (h:i < xs.length):EX f xs i = ((DJ f xs[i] != 0) || (CQ i xs[i] || decide (xs[i]∈xs.take i))):=by
 unfold EX; rw [List.getElem?_eq_getElem h]; rfl
theorem Gq {f:Int} {xs:List Ad} {i:Nat} (h:i < xs.length):IY f xs i = (bif DJ f xs[i] != 0 then DJ f xs[i] else bif CQ i xs[i] then 4 else 6):=by
 unfold IY; rw [List.getElem?_eq_getElem h]
theorem Fv {α:Type} {xs:List α} {i:Nat} (h:i≤xs.length):Ib xs 0 (i:Int) = some (xs.take i):=by
 unfold Ib
 rw [if_pos ⟨by omega,by omega,by omega⟩]
 simp
theorem LY {xs:List Ad} {i:Nat} (h:i < xs.length):decide (atM (xs.take i) xs[i] ≥ 0) = decide (xs[i]∈xs.take i):=by
 unfold atM
 rw [KL,D1,Bool.eq_iff_iff]
 simp
theorem Kq {xs:List Ad} {i:Nat} (h:i < xs.length):(atM xs xs[i] != (i:Int)) = decide (xs[i]∈xs.take i):=by
 unfold atM
 by_cases hm:xs[i]∈xs.take i
 ·rw [decide_eq_true hm]
  obtain ⟨j,hj,e⟩:=List.mem_iff_getElem.1 hm
  rw [List.length_take] at hj
  rw [List.getElem_take] at e
  rcases Dw (pAt (fun x=>decide (x = xs[i])) xs) xs.length with h' | ⟨k,h1,h2,h3⟩
  ·have:=h' j (by omega)
   rw [Bf (by omega)] at this
   simp [e] at this
  ·rw [Dx h1 h2 h3]
   have hk:k≤j:=by
    rcases Nat.lt_or_ge j k with hlt | hge
    ·have:=h2 j hlt
     rw [Bf (by omega)] at this
     simp [e] at this
    ·exact hge
   simp only [ixI,bne_iff_ne,ne_eq]
   omega
 ·rw [decide_eq_false hm]
  rw [Dx h (fun j hj=>by
   rw [Bf (by omega),decide_eq_false_iff_not]
   intro e
   exact hm (List.mem_iff_getElem.2 ⟨j,by rw [List.length_take]; omega,by rw [List.getElem_take]; exact e⟩)) (by rw [Bf h]; simp)]
  simp [ixI]
theorem IX (f:Int) (xs:List Ad) (h:xs.length≤1048576) (g:∀ x∈xs,AS x):m26 f xs = some (Eb f xs):=by
 unfold m26 Eb
 rw [show m52 f = inR f 1 2 from in1 _ _ _]
 cases inR f 1 2
 ·rfl
 simp only [Bool.not_true,cond_false]
 cases decide ((xs.length:Int) > 240)
 rotate_left
 ·rfl
 simp only [cond_false]
 rw [AM (f:=H4 f xs) (s0:=(0,0)) (fun i=>(0,(i:Int))) xs.length (EX f xs) (fun i=>.ret (IY f xs i,(i:Int))) (.exit 1 (0,(xs.length:Int))) (fun i hi _ hp=>?_) (fun i hi _ hp=>?_) (fun _=>?_) (Bq h) rfl]
 ·cases C7 (EX f xs) xs.length <;> rfl
 ·have hc':(i:Int) < (xs.length:Int):=by omega
  have gi:=g _ (List.getElem_mem hi)
  rw [DV hi,Bool.or_eq_false_iff,Bool.or_eq_false_iff] at hp
  obtain ⟨p1,p2,p3⟩:=hp
  unfold H4
  simp only [hc',decide_true,cond_true,Bn hi,obs,L9 f _ gi,p1,cond_false,J9 _ _ gi,p2,Bool.not_false,Bool.not_true,Fv (Nat.le_of_lt hi),NR (xs.take i) xs[i] (by rw [List.length_take]; omega) (fun x hx=>g x (List.mem_of_mem_take hx)),LY hi,p3,wi1 (show i≤1099511627776 by omega)]
 ·have hc':(i:Int) < (xs.length:Int):=by omega
  have gi:=g _ (List.getElem_mem hi)
  rw [DV hi] at hp
  rw [Gq hi]
  unfold H4
  simp only [hc',decide_true,cond_true,Bn hi,obs,L9 f _ gi,J9 _ _ gi,Fv (Nat.le_of_lt hi),NR (xs.take i) xs[i] (by rw [List.length_take]; omega) (fun x hx=>g x (List.mem_of_mem_take hx)),LY hi]
  cases e1:DJ f xs[i] != 0
  ·cases e2:CQ i xs[i]
   ·rw [e1,e2,Bool.false_or,Bool.false_or] at hp
    rw [hp]
    exact ⟨rfl,rfl⟩
   ·exact ⟨rfl,rfl⟩
  ·exact ⟨rfl,rfl⟩
 ·unfold H4
  simp only [Int.lt_irrefl,decide_false,cond_false]
  exact ⟨trivial,rfl⟩
theorem Ru (f:Int) (xs:List Ad) (h:xs.length≤1048576) (g:∀ x∈xs,AS x):m45 f xs = some (Eb f xs):=by
 unfold m45 m72 Eb
 rw [show m71 f = inR f 1 2 from in1 _ _ _]
 cases inR f 1 2
 ·rfl
 simp only [Bool.not_true,cond_false]
 cases decide ((xs.length:Int) > 240)
 rotate_left
 ·rfl
 simp only [cond_false]
 rw [AM (f:=Hz f xs) (s0:=(0,0)) (fun i=>(0,(i:Int))) xs.length (EX f xs) (fun i=>.ret (IY f xs i,(i:Int))) (.exit 0 (0,(xs.length:Int))) (fun i hi _ hp=>?_) (fun i hi _ hp=>?_) (fun _=>?_) (Bq h) rfl]
 ·cases C7 (EX f xs) xs.length <;> rfl
 ·have hc':(i:Int) < (xs.length:Int):=by omega
  have gi:=g _ (List.getElem_mem hi)
  rw [DV hi,Bool.or_eq_false_iff,Bool.or_eq_false_iff] at hp
  obtain ⟨p1,p2,p3⟩:=hp
  unfold Hz
  simp only [hc',decide_true,cond_true,Bn hi,obs,L8 f _ gi,p1,cond_false,J8 _ _ gi,p2,Bool.not_false,Bool.not_true,I0 xs xs[i] h g,Kq hi,p3,wi1 (show i≤1099511627776 by omega)]
 ·have hc':(i:Int) < (xs.length:Int):=by omega
  have gi:=g _ (List.getElem_mem hi)
  rw [DV hi] at hp
  rw [Gq hi]
  unfold Hz
  simp only [hc',decide_true,cond_true,Bn hi,obs,L8 f _ gi,J8 _ _ gi,I0 xs xs[i] h g,Kq hi]
  cases e1:DJ f xs[i] != 0
  ·cases e2:CQ i xs[i]
   ·rw [e1,e2,Bool.false_or,Bool.false_or] at hp
    rw [hp]
    exact ⟨rfl,rfl⟩
   ·exact ⟨rfl,rfl⟩
  ·exact ⟨rfl,rfl⟩
 ·unfold Hz
  simp only [Int.lt_irrefl,decide_false,cond_false]
  exact ⟨trivial,rfl⟩
structure Ta (f:Int) (m:Ad):Prop where
 kind:1≤m.Kind∧m.Kind≤5
 bare:4≤m.Kind→m.Slot = 0∧m.Value = 0
 certs0:m.Kind≠4→m.Certs = []
 refs0:m.Kind≠5→m.Refs = []
 view:0≤m.View∧m.View≤20
 frm:1≤m.From∧m.From≤CZ f
 slot:m.Kind≤3→1≤m.Slot∧m.Slot≤30
 value:m.Kind≤3→0≤m.Value∧m.Value≤12
 certsl:m.Certs.length≤30
 refsl:(m.Refs.length:Int)≤CZ f
 cert:∀ c∈m.Certs,(1≤c.Slot∧c.Slot≤30)∧(0≤c.View∧c.View≤m.View - 1)∧(0≤c.Value∧c.Value≤12)
 ref:∀ r∈m.Refs,0≤r∧r≤239
theorem CL {n lo hi:Int}:inR n lo hi = true ↔ lo≤n∧n≤hi:=by unfold inR; simp
theorem Sj {f:Int} {m:Ad} (h:DJ f m = 0):Ta f m:=by
 unfold DJ at h
 cases hb:HU m
 ·rw [hb] at h; cases h
 cases hr:Gi f m
 rotate_left
 ·rw [hb,hr] at h; cases h
 cases h1:decide ((m.Certs.length:Int) > 30)
 rotate_left
 ·rw [hb,hr,h1] at h; cases h
 cases h2:decide ((m.Refs.length:Int) > CZ f)
 rotate_left
 ·rw [hb,hr,h1,h2] at h; cases h
 rw [hb,hr,h1,h2] at h
 simp only [cond_true,cond_false] at h
 cases h3:Ds (m.Certs.map (·.Slot))
 ·rw [h3] at h; cases h
 cases h4:Ds m.Refs
 ·rw [h3,h4] at h; cases h
 cases h5:m.Certs.any (BZ m.View)
 rotate_left
 ·rw [h3,h4,h5] at h; cases h
 cases h6:m.Refs.any Du
 rotate_left
 ·rw [h3,h4,h5,h6] at h; cases h
 unfold HU at hb
 unfold Gi at hr
 simp only [Bool.and_eq_true,Bool.or_eq_true,CL,beq_iff_eq] at hb
 simp only [Bool.or_eq_false_iff,Bool.not_eq_false',Bool.and_eq_false_imp,CL] at hr
 obtain ⟨⟨b1,b2⟩,b3,b4⟩:=hb
 obtain ⟨r1,r2,r3⟩:=hr
 rw [decide_eq_false_iff_not] at h1 h2
 rw [List.any_eq_false] at h5 h6
 refine ⟨b1,fun hk=>?_,fun hk=>?_,fun hk=>?_,r1,r2,fun hk=>(r3 ⟨b1.1,hk⟩).1,fun hk=>(r3 ⟨b1.1,hk⟩).2,by omega,by omega,fun c hc=>?_,fun r hr=>?_⟩
 ·rcases b2 with b2 | b2
  ·omega
  ·exact b2
 ·rcases b3 with b3 | b3
  ·exact absurd b3 hk
  ·exact List.eq_nil_of_length_eq_zero (by omega)
 ·rcases b4 with b4 | b4
  ·exact absurd b4 hk
  ·exact List.eq_nil_of_length_eq_zero (by omega)
 ·have:=h5 c hc
  unfold BZ at this
  simp only [Bool.not_eq_true,Bool.or_eq_false_iff,Bool.not_eq_false',CL] at this
  obtain ⟨c1,c2,c3⟩:=this
  rw [Bi (by omega) (by omega)] at c2
  exact ⟨c1,c2,c3⟩
 ·have:=h6 r hr
  unfold Du at this
  simp only [Bool.not_eq_true,Bool.not_eq_false',CL] at this
  exact this
structure Be (f:Int) (xs:List Ad):Prop where
 f12:1≤f∧f≤2
 len:xs.length≤240
 msg:∀ x∈xs,Ta f x
 refs:∀ (i:Nat) (h:i < xs.length),∀ r∈xs[i].Refs,r < i
 nd:xs.Nodup
theorem F9 {f:Int} {xs:List Ad} (h:Eb f xs = 0):Be f xs:=by
 unfold Eb at h
 cases h1:inR f 1 2
 ·rw [h1] at h; cases h
 cases h2:decide ((xs.length:Int) > 240)
 rotate_left
 ·rw [h1,h2] at h; cases h
 rw [h1,h2] at h
 simp only [Bool.not_true,cond_false] at h
 have hall:∀ j,j < xs.length→EX f xs j = false:=by
  rcases Dw (EX f xs) xs.length with h' | ⟨i,k1,k2,k3⟩
  ·exact h'
  ·rw [Dx k1 k2 k3] at h
   simp only [orF] at h
   rw [Gq k1] at h
   cases e1:DJ f xs[i] != 0
   ·rw [e1] at h
    cases e2:CQ i xs[i] <;> rw [e2] at h <;> cases h
   ·rw [e1] at h
    simp only [cond_true] at h
    rw [h] at e1
    cases e1
 rw [CL] at h1
 rw [decide_eq_false_iff_not] at h2
 have hi:∀ (i:Nat) (h:i < xs.length),DJ f xs[i] = 0∧CQ i xs[i] = false∧xs[i] ∉ xs.take i:=fun i hl=>by
  have:=hall i hl
  rw [DV hl] at this
  simpa using this
 refine ⟨h1,by omega,fun x hx=>?_,fun i hl r hr=>?_,?_⟩
 ·obtain ⟨i,hl,rfl⟩:=List.mem_iff_getElem.1 hx
  exact Sj (hi i hl).1
 ·have:=(hi i hl).2.1
  unfold CQ at this
  rw [List.any_eq_false] at this
  have:=this r hr
  simp at this; omega
 ·rw [List.nodup_iff_pairwise_ne,List.pairwise_iff_getElem]
  intro i j hi1 hj1 hij e
  exact (hi j hj1).2.2 (List.mem_iff_getElem.2 ⟨i,by rw [List.length_take]; omega,by rw [List.getElem_take]; exact e⟩)
open Go Go.Rf
def Ho (n:Nat):List Int:=(List.range n).map fun (j:Nat)=>((j:Int) + 1)
theorem J0 (n:Nat):Ho (n + 1) = Ho n++[(n:Int) + 1]:=by simp [Ho,List.range_succ]
theorem OS (n:Nat) (k:Int):k∈Ho n ↔ 1≤k∧k≤n:=by
 simp only [Ho,List.mem_map,List.mem_range]
 constructor
 ·rintro ⟨j,h,rfl⟩; omega
 ·intro h; exact ⟨(k - 1).toNat,by omega,by omega⟩
theorem Tq (n:Nat):(Ho n).Pairwise (· < ·):=by
 unfold Ho
 rw [List.pairwise_map]
 exact List.pairwise_lt_range.imp fun h=>by omega
theorem Ht:∀ (xs ys:List Int),xs.Pairwise (· < ·)→ys.Pairwise (· < ·)→(∀ k,k∈xs ↔ k∈ys)→xs = ys
 | [],[],_,_,_=>rfl
 | [],y::ys,_,_,h=>by have:=(h y).2 (by simp); cases this
 | x::xs,[],_,_,h=>by have:=(h x).1 (by simp); cases this
 | x::xs,y::ys,hx,hy,h=>by
  rw [List.pairwise_cons] at hx hy
  have e:x = y:=by
   rcases List.mem_cons.1 ((h x).1 (by simp)) with e | e
   ·exact e
   ·rcases List.mem_cons.1 ((h y).2 (by simp)) with e' | e'
    ·exact e'.symm
    ·have:=hy.1 x e; have:=hx.1 y e'; omega
  subst e
  rw [Ht xs ys hx.2 hy.2 fun k=>?_]
  have:=h k
  simp only [List.mem_cons] at this
  constructor
  ·intro hk
   rcases this.1 (.inr hk) with e | e
   ·subst e; have:=hx.1 k hk; omega
   ·exact e
  ·intro hk
   rcases this.2 (.inr hk) with e | e
   ·subst e; have:=hy.1 k hk; omega
   ·exact e
theorem Md {L:List Int} {k:Int} (h:L.length≤1000):BV 8 L [k] = some (L++[k]):=by
 unfold BV
 rw [if_pos (by simp; omega)]
theorem D8 {f:Int} (h:1≤f∧f≤2):CZ f = 3 * f + 1:=by
 unfold CZ
 rw [Bi (x:=3 * f) (by omega) (by omega),Bi (by omega) (by omega)]
theorem Be.good {f:Int} {xs:List Ad} (h:Be f xs):∀ x∈xs,AS x:=fun x hx=>by
 have m:=h.msg x hx
 have:=m.refsl
 have:=D8 h.f12
 have:=h.f12
 exact ⟨Nat.le_trans m.certsl (by omega),by omega⟩
theorem Be.len' {f:Int} {xs:List Ad} (h:Be f xs):xs.length≤1048576:=Nat.le_trans h.len (by omega)
def Fb (k v s a:Int) (x:Ad):Bool:=(x.Kind == k) && ((x.View == v) && ((x.Slot == s) && (x.Value == a)))
def J6 (xs:List Ad) (k v s a id:Int):Bool:=xs.any fun x=>Fb k v s a x && (x.From == id)
def I3 (f:Int) (xs:List Ad) (k v s a:Int):List Int:=(Ho (3 * f + 1).toNat).filter (J6 xs k v s a)
theorem EI {f:Int} {x:Ad} (h:Ta f x) (hk:x.Kind≤3):x.Certs = []∧x.Refs = []:=⟨h.certs0 (by omega),h.refs0 (by omega)⟩
theorem Px {f:Int} {xs:List Ad} (H:Be f xs) {k v s a id:Int} (hk:k≤3):decide (atM xs (⟨k,v,id,s,a,[],[]⟩:Ad) ≥ 0) = J6 xs k v s a id:=by
 unfold atM J6
 rw [KL,D1,Bool.eq_iff_iff]
 simp only [List.any_eq_true,decide_eq_true_eq]
 constructor
 ·rintro ⟨x,hx,rfl⟩; exact ⟨_,hx,by simp [Fb]⟩
 ·rintro ⟨x,hx,hs⟩
  refine ⟨x,hx,?_⟩
  unfold Fb at hs
  simp only [Bool.and_eq_true,beq_iff_eq] at hs
  obtain ⟨⟨h1,h2,h3,h4⟩,h5⟩:=hs
  obtain ⟨e1,e2⟩:=EI (H.msg x hx) (by omega)
  obtain ⟨x1,x2,x3,x4,x5,x6,x7⟩:=x
  simp only at h1 h2 h3 h4 h5 e1 e2
  subst h1; subst h2; subst h3; subst h4; subst h5; subst e1; subst e2
  rfl
theorem Ia {f:Int} (hf:1≤f∧f≤2) {p:Int→Bool} {i:Nat} (hi:i≤7):((Ho i).filter p).length≤1000:=Nat.le_trans (List.length_filter_le _ _) (by simp [Ho]; omega)
theorem M5 {f:Int} {xs:List Ad} (H:Be f xs) {k:Int} (hk:k≤3) (c:Ar):m78 f xs k c = some (I3 f xs k c.View c.Slot c.Value):=by
 have hf:=H.f12
 have hm:=D8 hf
 unfold m78
 rw [Dj (f:=IN f xs k c) (s0:=(1,[])) (fun i=>((i:Int) + 1,(Ho i).filter (J6 xs k c.View c.Slot c.Value))) (3 * f + 1).toNat (.exit 0 (((3 * f + 1).toNat:Int) + 1,I3 f xs k c.View c.Slot c.Value)) (fun i hi=>?_) ?_ rfl (Bq (by omega)) rfl]
 ·rfl
 ·unfold IN
  have hc:¬ (((3 * f + 1).toNat:Int) + 1≤CZ f):=by omega
  have hc':decide ((((3 * f + 1).toNat:Int) + 1)≤wi .i64 ((wi .i64 (3 * f)) + 1)) = false:=decide_eq_false hc
  dsimp only
  rw [hc',cond_false]
  rfl
 ·unfold IN
  have hc:(i:Int) + 1≤CZ f:=by omega
  have hc':decide ((i:Int) + 1≤wi .i64 ((wi .i64 (3 * f)) + 1)) = true:=decide_eq_true hc
  dsimp only
  rw [hc',cond_true,I0 xs _ H.len' H.good,obs,Px H hk,J0,List.filter_append]
  have e:wi .i64 ((i:Int) + 1 + 1) = ((i + 1:Nat):Int) + 1:=by rw [Bi (by omega) (by omega)]; omega
  cases hs:J6 xs k c.View c.Slot c.Value ((i:Int) + 1)
  ·simp only [cond_false,obs,Ac,e]
   simp [hs]
  ·simp only [cond_true,Md (Ia hf (i:=i) (by omega)),obs,Ac,e]
   simp [hs]
theorem Tu (a b c d:Bool):(bif a then
     bif b then
      bif c then
       some (LO.norm d)
      else
       some (LO.norm false)
     else
      some (LO.norm false)
    else
     some (LO.norm false)) = some (LO.norm (a && (b && (c && d)))):=by
 cases a <;> cases b <;> cases c <;> rfl
theorem ME {f:Int} {xs:List Ad} (H:Be f xs) {k:Int} (hk:k≤3) (v s a:Int) (n:Nat):(((xs.take n).filter (Fb k v s a)).map (·.From)).length≤8:=by
 have hf:=H.f12
 have hm:=D8 hf
 refine IK ?_ ?_
 ·rw [List.Nodup,List.pairwise_map]
  have h1:((xs.take n).filter (Fb k v s a)).Nodup:=(H.nd.sublist (List.take_sublist _ _)).filter _
  refine List.Pairwise.imp_of_mem (fun {x y} hx hy hxy e=>hxy ?_) h1
  rw [List.mem_filter] at hx hy
  have mx:=H.msg x (List.mem_of_mem_take hx.1)
  have my:=H.msg y (List.mem_of_mem_take hy.1)
  have h2:=hx.2
  have h3:=hy.2
  unfold Fb at h2 h3
  simp only [Bool.and_eq_true,beq_iff_eq] at h2 h3
  obtain ⟨a1,a2⟩:=EI mx (by omega)
  obtain ⟨b1,b2⟩:=EI my (by omega)
  obtain ⟨x1,x2,x3,x4,x5,x6,x7⟩:=x
  obtain ⟨y1,y2,y3,y4,y5,y6,y7⟩:=y
  simp only at h2 h3 a1 a2 b1 b2 e
  obtain ⟨p1,p2,p3,p4⟩:=h2
  obtain ⟨q1,q2,q3,q4⟩:=h3
  subst p1; subst p2; subst p3; subst p4; subst q1; subst q2; subst q3; subst q4; subst a1; subst a2; subst b1; subst b2; subst e
  rfl
 ·intro z hz
  obtain ⟨x,hx,rfl⟩:=List.mem_map.1 hz
  have:=(H.msg x (List.mem_of_mem_take (List.mem_filter.1 hx).1)).frm
  omega
theorem M6 {f:Int} {xs:List Ad} (H:Be f xs) {k:Int} (hk:k≤3) (v s a:Int):m94 xs k v s a = some (I3 f xs k v s a):=by
 have hf:=H.f12
 have hm:=D8 hf
 have hlen:=ME H hk v s a
 unfold m94
 rw [Dj (f:=IM xs k v s a) (s0:=(0,[])) (fun i=>((i:Int),((xs.take i).filter (Fb k v s a)).map (·.From))) xs.length (.exit 0 ((xs.length:Int),((xs.take xs.length).filter (Fb k v s a)).map (·.From))) (fun i hi=>?_) ?_ rfl (Bq H.len') rfl]
 ·have hl:=hlen xs.length
  obtain ⟨ys,k1,k2,k3⟩:=Vj (xs:=((xs.take xs.length).filter (Fb k v s a)).map (·.From)) (by omega)
  simp only [obs,Ac,if_true,k1]
  rw [Yy (by rw [k2.length_eq]; omega),obs]
  congr 1
  refine Ht _ _ (Jn ys k3) ((Tq _).filter _) fun id=>?_
  rw [Jo,k2.mem_iff,List.take_length]
  unfold I3 J6
  simp only [List.mem_map,List.mem_filter,OS,List.any_eq_true,Bool.and_eq_true,beq_iff_eq]
  constructor
  ·rintro ⟨x,⟨hx,hs⟩,rfl⟩
   have:=(H.msg x hx).frm
   exact ⟨by omega,x,hx,hs,rfl⟩
  ·rintro ⟨_,x,hx,hs,rfl⟩
   exact ⟨x,⟨hx,hs⟩,rfl⟩
 ·unfold IM
  simp only [Int.lt_irrefl,decide_false,cond_false]
 ·have hc':(i:Int) < (xs.length:Int):=by omega
  have hil:i≤1099511627776:=by have:=H.len; omega
  unfold IM
  simp only [hc',decide_true,cond_true,Bn hi,obs,Tu,Ac]
  rw [CU hi,List.filter_append,List.map_append]
  have hl:=hlen i
  have e:(xs[i].Kind == k && (xs[i].View == v && (xs[i].Slot == s && (xs[i].Value == a)))) = Fb k v s a xs[i]:=rfl
  rw [e]
  cases hs:Fb k v s a xs[i]
  ·simp only [cond_false,obs,Ac,wi1 hil]
   simp [hs]
  ·simp only [cond_true,Md (L:=((xs.take i).filter (Fb k v s a)).map (·.From)) (by omega),obs,Ac,wi1 hil]
   simp [hs]
def JP (f:Int):Int:=wi .i64 ((wi .i64 (2 * f)) + 1)
def Dk (f:Int) (xs:List Ad) (k v s a:Int):Bool:=decide (((I3 f xs k v s a).length:Int) ≥ JP f)
theorem HN {f:Int} {xs:List Ad} (H:Be f xs) {k:Int} (hk:k≤3) (v s a:Int):m63 f xs k v s a = some (Dk f xs k v s a):=by
 unfold m63
 rw [M6 H hk]; rfl
theorem Eo {f:Int} {xs:List Ad} (H:Be f xs) {k:Int} (hk:k≤3) (c:Ar):m51 f xs k c = some (Dk f xs k c.View c.Slot c.Value):=by
 unfold m51
 rw [M5 H hk]; rfl
def HT (f:Int) (xs:List Ad) (c:Ar):Bool:=Dk f xs 2 c.View c.Slot c.Value
theorem HB {f:Int} {xs:List Ad} (H:Be f xs) (c:Ar) (h1:1≤c.Slot∧c.Slot≤30) (h2:0≤c.View∧c.View≤20) (h3:0≤c.Value∧c.Value≤12):m30 f xs c = some (HT f xs c):=by
 unfold m30
 rw [G4,Kz,Fq,CL.2 h1,CL.2 h2,CL.2 h3,HN H (by omega)]
 rfl
open Go Go.Rf
theorem Cm {α:Type} {xs:List α} {i:Int} {x:α} (h:Am xs i = some x):x∈xs:=by
 unfold Am at h
 split at h
 ·exact List.mem_of_getElem? h
 ·cases h
theorem KP {α:Type} {xs:List α} (hl:xs.length≤1048576) (i:Int):inR i 0 (wi .i64 ((xs.length:Int) - 1)) = (Am xs i).isSome:=by
 rw [Bi (by omega) (by omega)]
 unfold Am
 by_cases h:0≤i
 ·rw [if_pos h]
  by_cases h2:i.toNat < xs.length
  ·rw [List.getElem?_eq_getElem h2]
   exact CL.2 ⟨h,by omega⟩
  ·rw [List.getElem?_eq_none (by omega)]
   refine Bool.eq_false_iff.2 fun h3=>?_
   have:=CL.1 h3; omega
 ·rw [if_neg h]
  refine Bool.eq_false_iff.2 fun h3=>?_
  have:=CL.1 h3; omega
theorem UV {xs:List Ad} (hl:xs.length≤1048576) (i k:Int):m90 xs i k = some (match Am xs i with | some m=>(m,(m.Kind == k) && decide (m.View > 0)) | none=>((⟨0,0,0,0,0,[],[]⟩:Ad),false)):=by
 unfold m90
 rw [in2,KP hl]
 cases hg:Am xs i with
 | none=>rfl
 | some m=>
  simp only [Option.isSome_some,Bool.not_true,cond_false,obs]
  cases m.Kind == k <;> rfl
theorem Rz {xs:List Ad} (hl:xs.length≤1048576) (i k:Int):m77 xs i k = some (match Am xs i with | some m=>m.Kind == k | none=>false):=by
 unfold m77
 rw [in1,KP hl]
 cases hg:Am xs i with
 | none=>rfl
 | some m=>rfl
def KX (f:Int) (xs:List Ad) (m:Ad):Bool:=(m.Kind == 4) && (decide (m.View > 0) && !m.Certs.any fun c=>!HT f xs c)
def D3 (f:Int) (xs:List Ad) (i:Int):Bool:=match Am xs i with
 | some m=>KX f xs m
 | none=>false
theorem HS {f:Int} {xs:List Ad} (H:Be f xs) (i:Int):m91 f xs i = some (D3 f xs i):=by
 unfold m91 D3
 rw [UV H.len',obs]
 cases hg:Am xs i with
 | none=>rfl
 | some m=>
  have mo:=H.msg m (Cm hg)
  have mv:=mo.view
  dsimp only
  unfold KX
  rw [show m82 m.Certs (fun x0_=>MO x0_ f xs) = some (m.Certs.any fun c=>!HT f xs c) from H9 (Bq (Nat.le_trans mo.certsl (by omega))) (CC (Nat.le_trans mo.certsl (by omega))) (fun c hc=>by
   unfold MO
   obtain ⟨c1,c2,c3⟩:=mo.cert c hc
   rw [HB H c c1 ⟨c2.1,by omega⟩ c3]; rfl)]
  cases m.Kind == 4
  ·rfl
  ·cases decide (m.View > 0) <;> rfl
theorem HQ {f:Int} {xs:List Ad} (H:Be f xs) (i:Int):QZ f xs i = some (D3 f xs i):=by
 unfold QZ D3
 rw [Rz H.len',obs]
 cases hg:Am xs i with
 | none=>rfl
 | some m=>
  have mo:=H.msg m (Cm hg)
  have hcl:m.Certs.length≤1048576:=Nat.le_trans mo.certsl (by omega)
  dsimp only
  unfold KX
  cases m.Kind == 4
  ·rfl
  simp only [Bool.not_true,cond_false,obs]
  by_cases hv:m.View < 1
  ·have hv':¬ m.View > 0:=by omega
   simp only [hv,hv',decide_true,decide_false,cond_true,obs,Ac,Bool.true_and,Bool.false_and]
  have hv':m.View > 0:=by omega
  simp only [hv,hv',decide_true,decide_false,cond_false,obs,Ac,Bool.true_and]
  rw [AM (f:=FQ f xs i) (s0:=(false,0)) (fun j=>(false,(j:Int))) m.Certs.length (pAt (fun c=>!HT f xs c) m.Certs) (fun j=>.ret (false,(j:Int))) (.exit 0 (false,(m.Certs.length:Int))) (fun j hj _ hp=>?_) (fun j hj _ hp=>?_) (fun _=>?_) (Bq hcl) rfl]
  ·rw [← D1]
   cases C7 (pAt (fun c=>!HT f xs c) m.Certs) m.Certs.length <;> rfl
  ·rw [Bf hj] at hp
   have hc':(j:Int) < (m.Certs.length:Int):=by omega
   unfold FQ
   simp only [hg,hc',decide_true,cond_true,Bn hj,obs,Eo H (show (2:Int)≤3 by omega)]
   unfold HT at hp
   simp only [hp,cond_false,wi1 (show j≤1099511627776 by omega)]
  ·rw [Bf hj] at hp
   have hc':(j:Int) < (m.Certs.length:Int):=by omega
   unfold FQ
   simp only [hg,hc',decide_true,cond_true,Bn hj,obs,Eo H (show (2:Int)≤3 by omega)]
   unfold HT at hp
   simp only [hp]
   exact ⟨rfl,rfl⟩
  ·unfold FQ
   simp only [hg,obs,Int.lt_irrefl,decide_false,cond_false]
   exact ⟨trivial,rfl⟩
def D6 (f v:Int):Int:=wi .i64 (1 + v.tmod (CZ f))
theorem FL {f:Int} (hf:1≤f∧f≤2) (v:Int):m57 f v = some (D6 f v):=by
 have hm:=D8 hf
 unfold m57
 rw [TR]
 unfold G6
 rw [if_neg (by omega)]; rfl
theorem FK {f:Int} (hf:1≤f∧f≤2) (v:Int):m32 f v = some (D6 f v):=(rfl:m32 f v = m57 f v).trans (FL hf v)
def CE (xs:List Ad) (r:Int):Int:=((Am xs r).map (·.View)).getD 0
def Bz (xs:List Ad) (r:Int):Int:=((Am xs r).map (·.From)).getD 0
def Gl (f:Int) (xs:List Ad) (m:Ad) (i:Nat):Bool:=(m.Refs[i]?).any fun r=>!D3 f xs r || (CE xs r != m.View || decide (Bz xs r∈(m.Refs.take i).map (Bz xs)))
theorem ER {f:Int} {xs:List Ad} {m:Ad} {i:Nat} (h:i < m.Refs.length):Gl f xs m i = (!D3 f xs m.Refs[i] || (CE xs m.Refs[i] != m.View || decide (Bz xs m.Refs[i]∈(m.Refs.take i).map (Bz xs)))):=by
 unfold Gl; rw [List.getElem?_eq_getElem h]; rfl
def VV (f:Int) (xs:List Ad) (m:Ad):Bool:=((m.Kind == 5) && decide (m.View > 0)) && ((m.From == D6 f m.View) && (!decide ((m.Refs.length:Int) < JP f) && (C7 (Gl f xs m) m.Refs.length).isNone))
def FY (f:Int) (xs:List Ad) (i:Int):Bool:=match Am xs i with
 | some m=>VV f xs m
 | none=>false
theorem Es {f:Int} {xs:List Ad} {r:Int} (h:D3 f xs r = true):∃ x,Am xs r = some x∧CE xs r = x.View∧Bz xs r = x.From:=by
 unfold D3 at h
 cases hg:Am xs r with
 | none=>rw [hg] at h; cases h
 | some x=>exact ⟨x,rfl,by simp [CE,hg],by simp [Bz,hg]⟩
theorem L6 {f:Int} {xs:List Ad} (H:Be f xs) (i:Int):m58 f xs i = some (FY f xs i):=by
 unfold m58 FY
 have hf:=H.f12
 have hm:=D8 hf
 rw [UV H.len',obs]
 cases hg:Am xs i with
 | none=>rfl
 | some m=>
  have mo:=H.msg m (Cm hg)
  have hrl:m.Refs.length≤7:=by have:=mo.refsl; omega
  dsimp only
  unfold VV
  cases e1:(m.Kind == 5 && decide (m.View > 0))
  ·rfl
  simp only [Bool.not_true,cond_false,FL hf,obs,Bool.true_and]
  cases e2:m.From == D6 f m.View
  ·have:(m.From != D6 f m.View) = true:=by unfold bne; rw [e2]; rfl
   rw [this]; rfl
  have:(m.From != D6 f m.View) = false:=by unfold bne; rw [e2]; rfl
  rw [this]
  simp only [cond_false,obs,Ac,Bool.true_and]
  rw [show decide ((m.Refs.length:Int) < wi .i64 ((wi .i64 (2 * f)) + 1)) = decide ((m.Refs.length:Int) < JP f) from rfl]
  cases decide ((m.Refs.length:Int) < JP f)
  rotate_left
  ·rfl
  simp only [cond_false,obs,Ac,Bool.not_false,Bool.true_and]
  rw [AM (f:=H3 f xs (m,true)) (s0:=(false,0,[])) (fun j=>(false,(j:Int),(m.Refs.take j).map (Bz xs))) m.Refs.length (Gl f xs m) (fun j=>.ret (false,(j:Int),(m.Refs.take j).map (Bz xs))) (.exit 0 (false,(m.Refs.length:Int),(m.Refs.take m.Refs.length).map (Bz xs))) (fun j hj _ hp=>?_) (fun j hj _ hp=>?_) (fun _=>?_) (Bq (by omega)) rfl]
  ·cases C7 (Gl f xs m) m.Refs.length <;> rfl
  ·have hc':(j:Int) < (m.Refs.length:Int):=by omega
   rw [ER hj,Bool.or_eq_false_iff,Bool.or_eq_false_iff] at hp
   obtain ⟨p1,p2,p3⟩:=hp
   rw [Bool.not_eq_false'] at p1
   obtain ⟨x,g1,g2,g3⟩:=Es p1
   rw [g2] at p2
   rw [g3] at p3
   have hfl:((m.Refs.take j).map (Bz xs)).length≤1000:=by simp; omega
   unfold H3
   simp only [hc',decide_true,cond_true,Bn hj,obs,HS H,p1,Bool.not_true,cond_false,g1,p2]
   rw [show m92 ((m.Refs.take j).map (Bz xs)) x.From = some (decide (x.From∈(m.Refs.take j).map (Bz xs))) from MQ (Bq (by omega)) (CC (by omega)),p3]
   simp only [obs,Ac,cond_false,g1,Md hfl,wi1 (show j≤1099511627776 by omega)]
   rw [CU hj,List.map_append]
   simp [g3]
  ·have hc':(j:Int) < (m.Refs.length:Int):=by omega
   rw [ER hj] at hp
   have hfl:((m.Refs.take j).map (Bz xs)).length≤1000:=by simp; omega
   unfold H3
   simp only [hc',decide_true,cond_true,Bn hj,obs,HS H]
   cases p1:D3 f xs m.Refs[j]
   ·exact ⟨rfl,rfl⟩
   obtain ⟨x,g1,g2,g3⟩:=Es p1
   rw [p1,g2,g3] at hp
   simp only [Bool.not_true,cond_false,g1,obs]
   cases p2:x.View != m.View
   rotate_left
   ·exact ⟨rfl,rfl⟩
   rw [p2] at hp
   rw [show m92 ((m.Refs.take j).map (Bz xs)) x.From = some (decide (x.From∈(m.Refs.take j).map (Bz xs))) from MQ (Bq (by omega)) (CC (by omega))]
   simp only [Bool.not_true,Bool.false_or] at hp
   rw [hp]
   exact ⟨rfl,rfl⟩
  ·unfold H3
   simp only [Int.lt_irrefl,decide_false,cond_false]
   exact ⟨trivial,rfl⟩
theorem JV {xs:List Ad} {rs:List Int} (hl:rs.length≤1048576) (hr:∀ r∈rs,∃ x,Am xs r = some x) (v:Int):QY xs rs v = some (decide (v∈rs.map (Bz xs))):=by
 unfold QY
 rw [AM (f:=FP xs rs v) (s0:=(false,0)) (fun j=>(false,(j:Int))) rs.length (pAt (fun r=>Bz xs r == v) rs) (fun j=>.ret (true,(j:Int))) (.exit 0 (false,(rs.length:Int))) (fun j hj _ hp=>?_) (fun j hj _ hp=>?_) (fun _=>?_) (Bq hl) rfl]
 ·have e:decide (v∈rs.map (Bz xs)) = rs.any fun r=>Bz xs r == v:=by
   rw [Bool.eq_iff_iff]
   simp
  rw [e,← D1]
  cases C7 (pAt (fun r=>Bz xs r == v) rs) rs.length <;> rfl
 ·rw [Bf hj] at hp
  have hc':(j:Int) < (rs.length:Int):=by omega
  obtain ⟨x,g⟩:=hr _ (List.getElem_mem hj)
  have g3:Bz xs rs[j] = x.From:=by simp [Bz,g]
  rw [g3] at hp
  unfold FP
  simp only [hc',decide_true,cond_true,Bn hj,obs,g,hp,cond_false,wi1 (show j≤1099511627776 by omega)]
 ·rw [Bf hj] at hp
  have hc':(j:Int) < (rs.length:Int):=by omega
  obtain ⟨x,g⟩:=hr _ (List.getElem_mem hj)
  have g3:Bz xs rs[j] = x.From:=by simp [Bz,g]
  rw [g3] at hp
  unfold FP
  simp only [hc',decide_true,cond_true,Bn hj,obs,g,hp]
  exact ⟨trivial,rfl⟩
 ·unfold FP
  simp only [Int.lt_irrefl,decide_false,cond_false]
  exact ⟨trivial,rfl⟩
theorem Be.ref_in {f:Int} {xs:List Ad} (H:Be f xs) {m:Ad} (hm:m∈xs):∀ r∈m.Refs,∃ x,Am xs r = some x:=fun r hr=>by
 have h1:=(H.msg m hm).ref r hr
 obtain ⟨i,hi,rfl⟩:=List.mem_iff_getElem.1 hm
 have h2:=H.refs i hi r hr
 refine ⟨xs[r.toNat]'(by omega),?_⟩
 unfold Am
 rw [if_pos h1.1,List.getElem?_eq_getElem]
theorem L1 {f:Int} {xs:List Ad} (H:Be f xs) (i:Int):Rj f xs i = some (FY f xs i):=by
 unfold Rj FY
 have hf:=H.f12
 have hm:=D8 hf
 rw [Rz H.len',obs]
 cases hg:Am xs i with
 | none=>rfl
 | some m=>
  have mo:=H.msg m (Cm hg)
  have hrl:m.Refs.length≤7:=by have:=mo.refsl; omega
  have hri:=H.ref_in (Cm hg)
  dsimp only
  unfold VV
  cases e1:(m.Kind == 5)
  ·rfl
  simp only [Bool.not_true,cond_false,FK hf,obs,Bool.true_and]
  by_cases hv:m.View < 1
  ·have hv':¬ m.View > 0:=by omega
   simp only [hv,hv',decide_true,decide_false,cond_true,obs,Ac,Bool.true_and,Bool.false_and]
  have hv':m.View > 0:=by omega
  simp only [hv,hv',decide_true,decide_false,cond_false,obs,Ac,Bool.true_and]
  cases e2:m.From == D6 f m.View
  ·have:(m.From != D6 f m.View) = true:=by unfold bne; rw [e2]; rfl
   rw [this]; rfl
  have:(m.From != D6 f m.View) = false:=by unfold bne; rw [e2]; rfl
  rw [this]
  simp only [cond_false,obs,Ac,Bool.true_and]
  rw [show decide ((m.Refs.length:Int) < m79 f) = decide ((m.Refs.length:Int) < JP f) from rfl]
  cases decide ((m.Refs.length:Int) < JP f)
  rotate_left
  ·rfl
  simp only [cond_false,obs,Ac,Bool.not_false,Bool.true_and]
  rw [AM (f:=FS f xs m) (s0:=(false,0)) (fun j=>(false,(j:Int))) m.Refs.length (Gl f xs m) (fun j=>.ret (false,(j:Int))) (.exit 0 (false,(m.Refs.length:Int))) (fun j hj _ hp=>?_) (fun j hj _ hp=>?_) (fun _=>?_) (Bq (by omega)) rfl]
  ·cases C7 (Gl f xs m) m.Refs.length <;> rfl
  ·have hc':(j:Int) < (m.Refs.length:Int):=by omega
   rw [ER hj,Bool.or_eq_false_iff,Bool.or_eq_false_iff] at hp
   obtain ⟨p1,p2,p3⟩:=hp
   rw [Bool.not_eq_false'] at p1
   obtain ⟨x,g1,g2,g3⟩:=Es p1
   rw [g2] at p2
   rw [g3] at p3
   unfold FS
   simp only [hc',decide_true,cond_true,Bn hj,obs,HQ H,p1,Bool.not_true,cond_false,g1,p2,Fv (Nat.le_of_lt hj)]
   rw [JV (by rw [List.length_take]; omega) (fun r hr=>hri r (List.mem_of_mem_take hr)),p3]
   simp only [obs,Ac,cond_false,wi1 (show j≤1099511627776 by omega)]
  ·have hc':(j:Int) < (m.Refs.length:Int):=by omega
   rw [ER hj] at hp
   unfold FS
   simp only [hc',decide_true,cond_true,Bn hj,obs,HQ H]
   cases p1:D3 f xs m.Refs[j]
   ·exact ⟨rfl,rfl⟩
   obtain ⟨x,g1,g2,g3⟩:=Es p1
   rw [p1,g2,g3] at hp
   simp only [Bool.not_true,cond_false,g1,obs]
   cases p2:x.View != m.View
   rotate_left
   ·exact ⟨rfl,rfl⟩
   rw [p2] at hp
   simp only [cond_false,Fv (Nat.le_of_lt hj),obs]
   rw [JV (by rw [List.length_take]; omega) (fun r hr=>hri r (List.mem_of_mem_take hr))]
   simp only [Bool.not_true,Bool.false_or] at hp
   rw [hp]
   exact ⟨rfl,rfl⟩
  ·unfold FS
   simp only [Int.lt_irrefl,decide_false,cond_false]
   exact ⟨trivial,rfl⟩
open Go Go.Rf
def Ff (n:Nat):List Int:=(List.range n).map fun (j:Nat)=>(j:Int)
theorem MS (n:Nat):Ff (n + 1) = Ff n++[(n:Int)]:=by simp [Ff,List.range_succ]
theorem O5 (n:Nat) (k:Int):k∈Ff n ↔ 0≤k∧k < n:=by
 simp only [Ff,List.mem_map,List.mem_range]
 constructor
 ·rintro ⟨j,h,rfl⟩; omega
 ·intro h; exact ⟨k.toNat,by omega,by omega⟩
theorem RE (n:Nat):(Ff n).Pairwise (· < ·):=by
 unfold Ff
 rw [List.pairwise_map]
 exact List.pairwise_lt_range.imp fun h=>by omega
def HO (f:Int) (xs:List Ad) (s v:Int) (x:Ad):Bool:=((x.Kind == 3) && ((x.Slot == s) && (x.Value == v))) && Dk f xs 3 x.View s v
def Jy (f:Int) (xs:List Ad) (s v:Int):Bool:=xs.any (HO f xs s v)
def EH (f:Int) (xs:List Ad) (s:Int):List Int:=(Ff 13).filter (Jy f xs s)
theorem Tv (a b c:Bool):(bif a then
     bif b then
      some (LO.norm c)
     else
      some (LO.norm false)
    else
     some (LO.norm false)) = some (LO.norm (a && (b && c))):=by
 cases a <;> cases b <;> rfl
theorem SI {α:Type} {xs:List α} {q:α→Bool} {i:Nat} (h:i < xs.length):(xs.take (i + 1)).any q = ((xs.take i).any q || q xs[i]):=by
 rw [CU h,List.any_append]; simp
theorem O6 {f:Int} {xs:List Ad} (H:Be f xs) (s v:Int) (L:List Int):∃ j,Aq (GX f xs s (v,L)) NN (false,0) = some (.exit 2 (Jy f xs s v,j)):=by
 obtain ⟨o,h1,j,rfl⟩:=BL (f:=GX f xs s (v,L)) (fun i t=>t = ((xs.take i).any (HO f xs s v),(i:Int))) xs.length (fun o=>∃ j,o = .exit 2 (Jy f xs s v,j)) (fun i t hi ht=>by
  subst ht
  unfold GX
  dsimp only
  by_cases hc:i < xs.length
  ·have hc':(i:Int) < (xs.length:Int):=by omega
   simp only [hc',decide_true,cond_true,obs,Ac]
   cases hf:(xs.take i).any (HO f xs s v)
   ·simp only [Bool.not_false,cond_true,obs,Ac,Bn hc,Tv]
    have e:=SI (q:=HO f xs s v) hc
    rw [hf,Bool.false_or] at e
    rw [Eo H (show (3:Int)≤3 by omega)]
    refine .inl ⟨hc,((xs.take (i + 1)).any (HO f xs s v),((i + 1:Nat):Int)),?_,rfl⟩
    rw [e]
    unfold HO
    cases (xs[i].Kind == 3 && (xs[i].Slot == s && (xs[i].Value == v)))
    ·simp only [cond_false,obs,Ac,wi1 (show i≤1099511627776 by have:=H.len; omega),Bool.false_and]
    ·simp only [cond_true,obs,Ac,wi1 (show i≤1099511627776 by have:=H.len; omega),Bool.true_and]
   ·simp only [Bool.not_true,cond_false,obs,Ac]
    refine .inr (.inl ⟨_,_,rfl,(i:Int),?_⟩)
    have:Jy f xs s v = true:=by
     unfold Jy
     rw [List.any_eq_true] at hf ⊢
     obtain ⟨x,hx,hq⟩:=hf
     exact ⟨x,List.mem_of_mem_take hx,hq⟩
    rw [this]
  ·have hc':¬ (i:Int) < (xs.length:Int):=by omega
   have:i = xs.length:=by omega
   subst this
   simp only [hc',decide_false,cond_false,obs,Ac,List.take_length]
   exact .inr (.inl ⟨_,_,rfl,_,rfl⟩)) NN 0 (false,0) (Nat.zero_le _) (Bq H.len') rfl
 exact ⟨j,h1⟩
theorem RG (p:Int→Bool) {i:Nat} (hi:i≤13):((Ff i).filter p).length≤1000:=Nat.le_trans (List.length_filter_le _ _) (by simp [Ff]; omega)
theorem LR {f:Int} {xs:List Ad} (H:Be f xs) (s:Int):Ri f xs s = some (EH f xs s):=by
 unfold Ri
 rw [Dj (f:=GV f xs s) (s0:=(0,[])) (fun i=>((i:Int),(Ff i).filter (Jy f xs s))) 13 (.exit 0 (13,EH f xs s)) (fun i hi=>?_) ?_ rfl (Bq (by omega)) rfl]
 ·rfl
 ·unfold GV
  rfl
 ·unfold GV
  have hc:(i:Int)≤12:=by omega
  have e:wi .i64 ((i:Int) + 1) = ((i + 1:Nat):Int):=wi1 (by omega)
  obtain ⟨j,hj⟩:=O6 H s (i:Int) ((Ff i).filter (Jy f xs s))
  simp only [hc,decide_true,cond_true,hj,obs,Ac,if_true]
  rw [MS,List.filter_append]
  cases hd:Jy f xs s (i:Int)
  ·simp only [cond_false,obs,Ac,e]
   simp [hd]
  ·simp only [cond_true,Md (RG (Jy f xs s) (i:=i) (by omega)),obs,Ac,e]
   simp [hd]
def DI (p:Ad→Bool) (L:List Int) (x:Ad):List Int:=if (p x && !decide (x.Value∈L)) = true then L++[x.Value] else L
theorem Pm (p:Ad→Bool) (L:List Int) (x:Ad):DI p L x = bif (p x && !decide (x.Value∈L)) then L++[x.Value] else L:=by
 unfold DI; rw [Un]
theorem Jf (p:Ad→Bool):∀ (l:List Ad) (L:List Int) (v:Int),v∈l.foldl (DI p) L ↔ v∈L∨∃ x∈l,p x = true∧x.Value = v
 | [],L,v=>by simp
 | x::l,L,v=>by
  rw [List.foldl_cons,Jf p l]
  unfold DI
  by_cases h:(p x && !decide (x.Value∈L)) = true
  ·rw [if_pos h,List.mem_append,List.mem_singleton]
   rw [Bool.and_eq_true] at h
   constructor
   ·rintro ((h1 | rfl) | ⟨y,hy,h2⟩)
    ·exact .inl h1
    ·exact .inr ⟨x,by simp,h.1,rfl⟩
    ·exact .inr ⟨y,by simp [hy],h2⟩
   ·rintro (h1 | ⟨y,hy,h2,h3⟩)
    ·exact .inl (.inl h1)
    ·rcases List.mem_cons.1 hy with rfl | hy
     ·exact .inl (.inr h3.symm)
     ·exact .inr ⟨y,hy,h2,h3⟩
  ·rw [if_neg h]
   constructor
   ·rintro (h1 | ⟨y,hy,h2⟩)
    ·exact .inl h1
    ·exact .inr ⟨y,by simp [hy],h2⟩
   ·rintro (h1 | ⟨y,hy,h2,h3⟩)
    ·exact .inl h1
    ·rcases List.mem_cons.1 hy with rfl | hy
     ·left
      rw [h2] at h
      simp at h
      rw [← h3]; exact h
     ·exact .inr ⟨y,hy,h2,h3⟩
theorem KU (p:Ad→Bool):∀ (l:List Ad) (L:List Int),L.Nodup→(l.foldl (DI p) L).Nodup
 | [],L,h=>h
 | x::l,L,h=>by
  rw [List.foldl_cons]
  refine KU p l _ ?_
  unfold DI
  by_cases hc:(p x && !decide (x.Value∈L)) = true
  ·rw [if_pos hc]
   rw [Bool.and_eq_true] at hc
   have h2:=hc.2
   simp at h2
   rw [List.nodup_append]
   refine ⟨h,by simp,fun a ha b hb e=>?_⟩
   rw [List.mem_singleton] at hb
   subst hb; subst e
   exact h2 ha
  ·rw [if_neg hc]; exact h
def Ea (f:Int) (xs:List Ad) (s:Int) (x:Ad):Bool:=(x.Kind == 3) && ((x.Slot == s) && Dk f xs 3 x.View s x.Value)
theorem RF {f:Int} {xs:List Ad} (H:Be f xs) (s:Int) (n:Nat):((xs.take n).foldl (DI (Ea f xs s)) []).length≤13:=by
 refine IK (KU _ _ _ List.nodup_nil) fun v hv=>?_
 rw [Jf] at hv
 rcases hv with hv | ⟨x,hx,hp,rfl⟩
 ·cases hv
 ·unfold Ea at hp
  rw [Bool.and_eq_true,beq_iff_eq] at hp
  have:=(H.msg x (List.mem_of_mem_take hx)).value (by omega)
  omega
theorem V4 (a b c d:Bool):(bif a then
     bif b then
      (some c).bind fun y1=>
      bif !y1 then
       (some d).bind fun y2=>
       some (LO.norm y2)
      else
       some (LO.norm false)
     else
      some (LO.norm false)
    else
     some (LO.norm false)) = some (LO.norm ((a && (b && d)) && !c)):=by
 cases a <;> cases b <;> cases c <;> cases d <;> rfl
theorem LS {f:Int} {xs:List Ad} (H:Be f xs) (s:Int):m62 f xs s = some (EH f xs s):=by
 have hlen:=RF H s
 unfold m62
 rw [Dj (f:=IT f xs s) (s0:=(0,[])) (fun i=>((i:Int),(xs.take i).foldl (DI (Ea f xs s)) [])) xs.length (.exit 0 ((xs.length:Int),(xs.take xs.length).foldl (DI (Ea f xs s)) [])) (fun i hi=>?_) ?_ rfl (Bq H.len') rfl]
 ·have hl:=hlen xs.length
  obtain ⟨ys,k1,k2,k3⟩:=Vj (xs:=(xs.take xs.length).foldl (DI (Ea f xs s)) []) (by omega)
  simp only [obs,Ac,if_true,k1]
  congr 1
  have hnd:ys.Nodup:=k2.nodup_iff.2 (KU _ _ _ List.nodup_nil)
  refine Ht _ _ ?_ ((RE _).filter _) fun v=>?_
  ·rw [List.Nodup] at hnd
   exact (List.pairwise_and_iff.2 ⟨k3,hnd⟩).imp fun h=>by omega
  ·rw [k2.mem_iff,List.take_length,Jf]
   unfold EH
   rw [List.mem_filter,O5]
   unfold Jy
   rw [List.any_eq_true]
   constructor
   ·rintro (h | ⟨x,hx,hp,rfl⟩)
    ·cases h
    ·unfold Ea at hp
     simp only [Bool.and_eq_true,beq_iff_eq] at hp
     have:=(H.msg x hx).value (by omega)
     refine ⟨by omega,x,hx,?_⟩
     unfold HO
     simp only [Bool.and_eq_true,beq_iff_eq]
     exact ⟨⟨hp.1,hp.2.1,trivial⟩,hp.2.2⟩
   ·rintro ⟨_,x,hx,hp⟩
    unfold HO at hp
    simp only [Bool.and_eq_true,beq_iff_eq] at hp
    obtain ⟨⟨h1,h2,h3⟩,h4⟩:=hp
    refine .inr ⟨x,hx,?_,h3⟩
    unfold Ea
    simp only [Bool.and_eq_true,beq_iff_eq]
    subst h3
    exact ⟨h1,h2,h4⟩
 ·unfold IT
  simp only [Int.lt_irrefl,decide_false,cond_false]
 ·have hc':(i:Int) < (xs.length:Int):=by omega
  have hil:i≤1099511627776:=by have:=H.len; omega
  have hl:=hlen i
  unfold IT
  simp only [hc',decide_true,cond_true,Bn hi,obs]
  rw [show m92 ((xs.take i).foldl (DI (Ea f xs s)) []) xs[i].Value = some (decide (xs[i].Value∈(xs.take i).foldl (DI (Ea f xs s)) [])) from MQ (Bq (by omega)) (CC (by omega)),HN H (show (3:Int)≤3 by omega),V4]
  rw [CU hi,List.foldl_append,List.foldl_cons,List.foldl_nil]
  have e:((xs[i].Kind == 3 && (xs[i].Slot == s && Dk f xs 3 xs[i].View s xs[i].Value)) && !decide (xs[i].Value∈(xs.take i).foldl (DI (Ea f xs s)) [])) = (Ea f xs s xs[i] && !decide (xs[i].Value∈(xs.take i).foldl (DI (Ea f xs s)) [])):=rfl
  rw [e]
  rw [Pm]
  cases hs:(Ea f xs s xs[i] && !decide (xs[i].Value∈(xs.take i).foldl (DI (Ea f xs s)) []))
  ·simp only [obs,Ac,cond_false,wi1 hil]
  ·simp only [obs,Ac,cond_true,Md (show ((xs.take i).foldl (DI (Ea f xs s)) []).length≤1000 by omega),wi1 hil]
def Gu (f:Int) (xs:List Ad) (i:Nat):List Int:=(Ho i).map fun s=>(EH f xs s).headD 0
def EQ (f:Int) (xs:List Ad) (i:Nat):Bool:=(EH f xs ((i:Int) + 1)).isEmpty
def IW (f:Int) (xs:List Ad):List Int:=orF (C7 (EQ f xs) 30) (Gu f xs) (Gu f xs 30)
theorem NK (f:Int) (xs:List Ad) (i:Nat):(Gu f xs i).length = i:=by simp [Gu,Ho]
theorem LK (f:Int) (xs:List Ad) (i:Nat):Gu f xs (i + 1) = Gu f xs i++[(EH f xs ((i:Int) + 1)).headD 0]:=by
 unfold Gu; rw [J0,List.map_append]; rfl
theorem GA {l:List Int}:((l.length:Int) == 0) = l.isEmpty:=by
 cases l with
 | nil=>rfl
 | cons x r=>
  rw [Bool.eq_iff_iff]
  simp; omega
theorem LJ {l:List Int} (h:l.isEmpty = false):Am l 0 = some (l.headD 0):=by
 cases l with
 | nil=>cases h
 | cons x r=>rfl
theorem Ky {i:Nat} (h:i≤1048576):wi .i64 ((i:Int) + 1 + 1) = ((i + 1:Nat):Int) + 1:=by rw [Bi (by omega) (by omega)]; omega
theorem Rq {f:Int} {xs:List Ad} (H:Be f xs):m29 f xs = some (IW f xs):=by
 unfold m29 IW
 rw [AM (f:=IU f xs) (s0:=(1,[])) (fun i=>((i:Int) + 1,Gu f xs i)) 30 (EQ f xs) (fun i=>.exit 0 ((i:Int) + 1,Gu f xs i)) (.exit 0 (31,Gu f xs 30)) (fun i hi _ hp=>?_) (fun i hi _ hp=>?_) (fun _=>?_) (Bq (by omega)) rfl]
 ·cases C7 (EQ f xs) 30 <;> rfl
 ·have hc:(i:Int) + 1≤30:=by omega
  unfold IU
  unfold EQ at hp
  have hl:=NK f xs i
  simp only [hc,decide_true,cond_true,LS H,obs,GA,hp,cond_false,LJ hp,Md (show (Gu f xs i).length≤1000 by omega),Ky (show i≤1048576 by omega),LK]
 ·have hc:(i:Int) + 1≤30:=by omega
  unfold IU
  unfold EQ at hp
  simp only [hc,decide_true,cond_true,LS H,obs,GA,hp]
  exact ⟨trivial,rfl⟩
 ·exact ⟨rfl,rfl⟩
theorem Ro {f:Int} {xs:List Ad} (H:Be f xs):m76 f xs = some (IW f xs):=by
 unfold m76 IW
 rw [AM (f:=IO f xs) (s0:=(false,1,[])) (fun i=>(false,(i:Int) + 1,Gu f xs i)) 30 (EQ f xs) (fun i=>.ret (true,(i:Int) + 1,Gu f xs i)) (.exit 0 (false,31,Gu f xs 30)) (fun i hi _ hp=>?_) (fun i hi _ hp=>?_) (fun _=>?_) (Bq (by omega)) rfl]
 ·cases C7 (EQ f xs) 30 <;> rfl
 ·have hc:(i:Int) + 1≤30:=by omega
  unfold IO
  unfold EQ at hp
  have hl:=NK f xs i
  simp only [hc,decide_true,cond_true,LR H,obs,GA,hp,cond_false,LJ hp,Md (show (Gu f xs i).length≤1000 by omega),Ky (show i≤1048576 by omega),LK]
 ·have hc:(i:Int) + 1≤30:=by omega
  unfold IO
  unfold EQ at hp
  simp only [hc,decide_true,cond_true,cond_false,LR H,obs,GA,hp]
  exact ⟨trivial,rfl⟩
 ·exact ⟨rfl,rfl⟩
open Go Go.Rf
def Fz (f:Int) (xs:List Ad) (r:Aj):Bool:=(r.Start != (-1)) && ((r.View == 0) || (!FY f xs r.Start || (CE xs r.Start != r.View)))
def EK (f:Int) (r:Aj):Bool:=!inR r.Id 1 (CZ f) || (!inR r.View 0 20 || !inR r.Done 0 30)
def Dz (f:Int) (xs:List Ad) (r:Aj):Int:=bif EK f r then 3 else bif Fz f xs r then 1 else bif decide (r.Done > ((IW f xs).length:Int)) then 8 else 0
theorem F4 {f:Int} {xs:List Ad} {r:Int} (h:FY f xs r = true):∃ x,Am xs r = some x∧CE xs r = x.View:=by
 unfold FY at h
 cases hg:Am xs r with
 | none=>rw [hg] at h; cases h
 | some x=>exact ⟨x,rfl,by simp [CE,hg]⟩
theorem Qy {f:Int} {xs:List Ad} (H:Be f xs) (r:Aj):m28 f xs r ((IW f xs).length:Int) = some (Dz f xs r):=by
 unfold m28 Dz
 rw [Nw,Kz,in2,G3]
 simp only [obs,Ac]
 rw [show (!inR r.Id 1 (CZ f) || (!inR r.View 0 20 || !inR r.Done 0 30)) = EK f r from rfl]
 cases EK f r
 rotate_left
 ·rfl
 simp only [cond_false,L6 H,obs]
 unfold Fz
 cases r.Start != (-1)
 ·simp only [cond_false,obs,Ac,Bool.false_and]
  cases decide (r.Done > ((IW f xs).length:Int)) <;> rfl
 simp only [cond_true,Bool.true_and]
 cases r.View == 0
 rotate_left
 ·rfl
 simp only [cond_false,Bool.false_or]
 cases hn:FY f xs r.Start
 ·rfl
 obtain ⟨x,g1,g2⟩:=F4 hn
 simp only [Bool.not_true,cond_false,Bool.false_or,g1,obs,g2,Ac]
 cases x.View != r.View
 rotate_left
 ·rfl
 cases decide (r.Done > ((IW f xs).length:Int)) <;> rfl
theorem M8 {f:Int} {xs:List Ad} (H:Be f xs) (v i:Int) (hv:(v == 0) = false):m75 f xs v i = some (FY f xs i && (CE xs i == v)):=by
 unfold m75
 rw [hv,cond_false,L1 H,obs]
 cases hn:FY f xs i
 ·rfl
 obtain ⟨x,g1,g2⟩:=F4 hn
 rw [g1,g2]; rfl
theorem Qx {f:Int} {xs:List Ad} (H:Be f xs) (r:Aj):m46 f xs r = some (Dz f xs r):=by
 unfold m46 Dz
 rw [Vb,in1,in1,G3]
 simp only [obs,Ac]
 rw [show (!inR r.Id 1 (CZ f) || (!inR r.View 0 20 || !inR r.Done 0 30)) = EK f r from rfl]
 cases hb:EK f r
 rotate_left
 ·rfl
 have hd:0≤r.Done:=by
  unfold EK at hb
  simp only [Bool.or_eq_false_iff,Bool.not_eq_false',CL] at hb
  exact hb.2.2.1
 have tail:((bif decide (r.Done > 0) then
     (m76 f xs).bind fun y2=>
     bif decide (r.Done > (y2.length:Int)) then
      some (LO.ret 8)
     else
      some (LO.norm (0:Int))
    else
     some (LO.norm 0)).bind (Ac (fun s10=>
    some (0:Int)) (fun i5 s10=>
    none) (fun s10=>
    some s10))) = some (bif decide (r.Done > ((IW f xs).length:Int)) then 8 else 0):=by
  rw [Ro H]
  by_cases h0:r.Done > 0
  ·simp only [h0,decide_true,cond_true,obs]
   cases decide (r.Done > ((IW f xs).length:Int)) <;> rfl
  ·have h1:¬ r.Done > ((IW f xs).length:Int):=by omega
   simp only [h0,h1,decide_false,cond_false,obs,Ac]
 simp only [cond_false,obs,Ac]
 unfold Fz
 cases r.Start != (-1)
 ·simp only [cond_false,obs,Ac,Bool.false_and]
  exact tail
 simp only [cond_true,Bool.true_and]
 cases hv:r.View == 0
 rotate_left
 ·rfl
 simp only [cond_false,Bool.false_or,M8 H _ _ hv,obs,Ac]
 have e:(!(FY f xs r.Start && (CE xs r.Start == r.View))) = (!FY f xs r.Start || (CE xs r.Start != r.View)):=by
  unfold bne; rw [Bool.not_and]
 rw [e]
 cases (!FY f xs r.Start || (CE xs r.Start != r.View))
 rotate_left
 ·rfl
 simp only [cond_false,obs,Ac]
 exact tail
theorem Qw {f:Int} {xs:List Ad} {r:Aj} (h:Dz f xs r = 0):0≤r.View∧r.View≤20:=by
 unfold Dz at h
 cases h1:EK f r
 rotate_left
 ·rw [h1] at h; cases h
 unfold EK at h1
 simp only [Bool.or_eq_false_iff,Bool.not_eq_false',CL] at h1
 exact h1.2.1
open Go Go.Rf
def F7 (m:Ad):List (Int×Int×Int):=m.Certs.map fun c=>(c.Slot,c.View,c.Value)
def Cb (s:Int) (x:Int×Int) (c:Int×Int×Int):Int×Int:=bif (c.1 == s) && decide (c.2.1 > x.1) then (c.2.1,c.2.2) else x
def bV (o:Option (Int×Int×Int)):Int×Int:=match o with
 | none=>(-1,0)
 | some c=>(c.2.1,c.2.2)
theorem bst (s:Int):∀ (cs:List (Int×Int×Int)) (st:(Int→Option (Int×Int×Int))×Int),(∀ c∈cs,0≤c.2.1)→cs.foldl (Cb s) (bV (st.1 s)) = bV ((cs.foldl Br st).1 s)
 | [],st,_=>rfl
 | c::cs,st,h=>by
  have h0:=h c (by simp)
  rw [List.foldl_cons,List.foldl_cons,← bst s cs (Br st c) (fun x hx=>h x (by simp [hx]))]
  congr 1
  unfold Cb Br GB I4
  by_cases e:c.1 = s
  ·subst e
   cases hs:st.1 c.1 with
   | none=>
    have:decide (c.2.1 > (bV none).1) = true:=decide_eq_true (by show c.2.1 > -1; omega)
    rw [this]
    simp [bV]
   | some o=>
    by_cases hn:c.2.1 > o.2.1
    ·simp [bV,hn]
    ·simp [bV,hn,hs]
  ·have e1:(c.1 == s) = false:=by simpa using e
   have e2:¬ s = c.1:=fun q=>e q.symm
   cases hs:st.1 c.1 with
   | none=>simp [e1,e2]
   | some o=>by_cases hn:c.2.1 > o.2.1 <;> simp [e1,e2,hn]
structure OJ (st:(Int→Option (Int×Int×Int))×Int):Prop where
 lo:0≤st.2∧st.2≤30
 sm:∀ s c,st.1 s = some c→(1≤s∧s≤st.2)∧0≤c.2.1
 top:st.2 = 0∨(st.1 st.2).isSome = true
def R7 (c:Int×Int×Int):Prop:=(1≤c.1∧c.1≤30)∧0≤c.2.1
theorem Oi {st:(Int→Option (Int×Int×Int))×Int} {c:Int×Int×Int} (h:OJ st) (hc:R7 c):OJ (Br st c):=by
 obtain ⟨h1,h2,h3⟩:=h
 obtain ⟨c1,c2⟩:=hc
 have hsome:((Br st c).1 c.1).isSome = true:=by
  unfold Br GB
  cases hs:st.1 c.1 with
  | none=>simp [I4]
  | some o=>by_cases hn:c.2.1 > o.2.1 <;> simp [I4,hn,hs]
 have e2:(Br st c).2 = if c.1 > st.2 then c.1 else st.2:=rfl
 refine ⟨by rw [e2]; split <;> omega,fun s x hx=>?_,?_⟩
 ·have hor:(s = c.1∧x = c)∨st.1 s = some x:=by
   unfold Br at hx
   cases hn:GB st.1 c
   ·rw [hn] at hx; exact .inr hx
   ·rw [hn] at hx
    have hx:I4 st.1 c s = some x:=hx
    unfold I4 at hx
    by_cases e:s = c.1
    ·rw [if_pos e] at hx
     injection hx with hx
     exact .inl ⟨e,hx.symm⟩
    ·rw [if_neg e] at hx; exact .inr hx
  rw [e2]
  rcases hor with ⟨rfl,rfl⟩ | hx
  ·exact ⟨⟨c1.1,by split <;> omega⟩,c2⟩
  ·obtain ⟨⟨k1,k2⟩,k3⟩:=h2 s x hx
   exact ⟨⟨k1,by split <;> omega⟩,k3⟩
 ·rw [e2]
  by_cases e:c.1 > st.2
  ·rw [if_pos e]; exact .inr hsome
  ·rw [if_neg e]
   rcases h3 with h3 | h3
   ·exact .inl h3
   ·refine .inr ?_
    unfold Br
    cases GB st.1 c
    ·exact h3
    ·show (I4 st.1 c st.2).isSome = true
     unfold I4
     split
     ·rfl
     ·exact h3
theorem JE:∀ (cs:List (Int×Int×Int)) {st:(Int→Option (Int×Int×Int))×Int},(∀ c∈cs,R7 c)→OJ st→OJ (cs.foldl Br st)
 | [],st,_,h=>h
 | c::cs,st,hc,h=>JE cs (fun x hx=>hc x (by simp [hx])) (Oi h (hc c (by simp)))
def K0 (b:Int→Option (Int×Int×Int)):Nat→Nat
 | 0=>0
 | i + 1=>bif (b ((i:Int) + 1)).isSome then i + 1 else K0 b i
theorem Np {st:(Int→Option (Int×Int×Int))×Int} (h:OJ st):∀ k,K0 st.1 (st.2.toNat + k) = st.2.toNat
 | 0=>by
  have h0:=h.lo
  rw [Nat.add_zero]
  cases hm:st.2.toNat with
  | zero=>rfl
  | succ M=>
   rcases h.top with h3 | h3
   ·omega
   ·have e:((M:Int) + 1) = st.2:=by omega
    unfold K0
    rw [e,h3]; rfl
 | k + 1=>by
  have ih:=Np h k
  have h0:=h.lo
  show (bif (st.1 (((st.2.toNat + k:Nat):Int) + 1)).isSome then st.2.toNat + k + 1 else K0 st.1 (st.2.toNat + k)) = _
  cases hs:st.1 (((st.2.toNat + k:Nat):Int) + 1) with
  | none=>exact ih
  | some c=>
   have:=(h.sm _ c hs).1.2
   omega
theorem M7 (b:Int→Option (Int×Int×Int)) {M n:Nat} (h:M≤n):(CJ b n).take M = CJ b M:=by
 unfold CJ
 rw [← List.map_take]
 congr 1
 apply List.ext_getElem?
 intro i
 rw [List.getElem?_take]
 by_cases hi:i < M
 ·rw [if_pos hi,List.getElem?_range (by omega),List.getElem?_range hi]
 ·rw [if_neg hi,List.getElem?_eq_none (by simp; omega)]
theorem Uo (s:Int) (x:Ad) (p:Int×Int) (h:x.Certs.length≤1048576):Aq (Hy s x) NN (p.1,p.2,0) = some (.exit 2 (((F7 x).foldl (Cb s) p).1,((F7 x).foldl (Cb s) p).2,(x.Certs.length:Int))):=by
 have hlen:(F7 x).length = x.Certs.length:=by simp [F7]
 rw [Dj (f:=Hy s x) (s0:=(p.1,p.2,0)) (fun i=>((((F7 x).take i).foldl (Cb s) p).1,(((F7 x).take i).foldl (Cb s) p).2,(i:Int))) x.Certs.length (.exit 2 (((F7 x).foldl (Cb s) p).1,((F7 x).foldl (Cb s) p).2,(x.Certs.length:Int))) (fun i hi=>?_) ?_ rfl (Bq h) rfl]
 ·unfold Hy
  simp only [Int.lt_irrefl,decide_false,cond_false]
  rw [← hlen,List.take_length]
 ·have hc':(i:Int) < (x.Certs.length:Int):=by omega
  have e:((F7 x).take (i + 1)).foldl (Cb s) p = Cb s (((F7 x).take i).foldl (Cb s) p) (x.Certs[i].Slot,x.Certs[i].View,x.Certs[i].Value):=by
   rw [CU (by omega),List.foldl_append]
   simp [F7]
  rw [e]
  generalize ((F7 x).take i).foldl (Cb s) p = q
  unfold Hy Cb
  simp only [hc',decide_true,cond_true,Bn hi,obs,wi1 (show i≤1099511627776 by omega)]
  cases x.Certs[i].Slot == s <;> cases decide (x.Certs[i].View > q.1) <;> rfl
def B9 (xs:List Ad) (rs:List Int):List (List (Int×Int×Int)):=rs.map fun r=>((Am xs r).map F7).getD []
theorem OC (xs:List Ad) (rs:List Int) (s:Int) (hr:∀ r∈rs,∃ x,Am xs r = some x) (hx:∀ x∈xs,x.Certs.length≤1048576) (hl:rs.length≤1048576):m97 xs rs s = some (((B9 xs rs).flatten.foldl (Cb s) (-1,0)).2,decide (((B9 xs rs).flatten.foldl (Cb s) (-1,0)).1 ≥ 0)):=by
 have hlen:(B9 xs rs).length = rs.length:=by simp [B9]
 unfold m97
 rw [Dj (f:=IL xs rs s) (s0:=((-1),0,0)) (fun i=>((((B9 xs rs).take i).flatten.foldl (Cb s) (-1,0)).1,(((B9 xs rs).take i).flatten.foldl (Cb s) (-1,0)).2,(i:Int))) rs.length (.exit 0 (((B9 xs rs).flatten.foldl (Cb s) (-1,0)).1,((B9 xs rs).flatten.foldl (Cb s) (-1,0)).2,(rs.length:Int))) (fun i hi=>?_) ?_ rfl (Bq hl) rfl]
 ·rfl
 ·unfold IL
  simp only [Int.lt_irrefl,decide_false,cond_false]
  rw [← hlen,List.take_length]
 ·have hc':(i:Int) < (rs.length:Int):=by omega
  obtain ⟨x,gx⟩:=hr _ (List.getElem_mem hi)
  have e:((B9 xs rs).take (i + 1)).flatten.foldl (Cb s) (-1,0) = (F7 x).foldl (Cb s) (((B9 xs rs).take i).flatten.foldl (Cb s) (-1,0)):=by
   rw [CU (by omega),List.flatten_append,List.foldl_append]
   simp [B9,gx]
  rw [e]
  generalize ((B9 xs rs).take i).flatten.foldl (Cb s) (-1,0) = q
  unfold IL
  simp only [hc',decide_true,cond_true,Bn hi,gx,obs,Uo s x q (hx x (Cm gx)),Ac,if_true,wi1 (show i≤1099511627776 by omega)]
structure Ju (xs:List Ad) (rs:List Int):Prop where
 get:∀ r∈rs,∃ x,Am xs r = some x
 len:rs.length≤1000
theorem Hg {f:Int} {xs:List Ad} (H:Be f xs) {rs:List Int} (R:Ju xs rs):(∀ cs∈B9 xs rs,cs.length≤1000∧∀ c∈cs,R7 c):=by
 intro cs hcs
 unfold B9 at hcs
 obtain ⟨r,hr,rfl⟩:=List.mem_map.1 hcs
 obtain ⟨x,gx⟩:=R.get r hr
 rw [gx]
 have M:=H.msg x (Cm gx)
 have hcl:=M.certsl
 refine ⟨by simp [F7]; omega,fun c hc=>?_⟩
 simp only [Option.map_some,Option.getD_some,F7] at hc
 obtain ⟨d,hd,rfl⟩:=List.mem_map.1 hc
 obtain ⟨k1,k2,k3⟩:=M.cert d hd
 exact ⟨k1,k2.1⟩
theorem QF {f:Int} {xs:List Ad} (H:Be f xs) {rs:List Int} (R:Ju xs rs):OJ (DZ (B9 xs rs)):=by
 refine JE _ (fun c hc=>?_) ⟨⟨Int.le_refl _,by decide⟩,fun s c h=>(by cases h),.inl rfl⟩
 obtain ⟨cs,h1,h2⟩:=List.mem_flatten.1 hc
 exact (Hg H R cs h1).2 c h2
theorem JF {f:Int} {xs:List Ad} (H:Be f xs) {rs:List Int} (R:Ju xs rs):m67 xs rs = some (D7 (B9 xs rs)):=by
 have I:=QF H R
 have hlo:=I.lo
 have hbest:∀ s,m97 xs rs s = some ((bV ((DZ (B9 xs rs)).1 s)).2,decide ((bV ((DZ (B9 xs rs)).1 s)).1 ≥ 0)):=fun s=>by
  have hb:(B9 xs rs).flatten.foldl (Cb s) (-1,0) = bV ((DZ (B9 xs rs)).1 s):=bst s _ (fun _=>none,0) (fun c hc=>by
   obtain ⟨cs,h1,h2⟩:=List.mem_flatten.1 hc
   exact ((Hg H R cs h1).2 c h2).2)
  rw [OC xs rs s R.get (fun x hx=>Nat.le_trans (H.msg x hx).certsl (by omega)) (Nat.le_trans R.len (by omega)),hb]
 unfold m67
 generalize hF:DZ (B9 xs rs) = F at I hlo hbest
 have hv:∀ i,(CJ F.1 i).length = i:=fun i=>by simp [CJ]
 rw [Dj (f:=KE xs rs) (s0:=(0,1,[])) (fun i=>((K0 F.1 i:Int),(i:Int) + 1,CJ F.1 i)) 30 (.exit 0 ((K0 F.1 30:Int),31,CJ F.1 30)) (fun i hi=>?_) ?_ rfl (Bq (by omega)) rfl]
 ·have htop:K0 F.1 30 = F.2.toNat:=by
   have:=Np I (30 - F.2.toNat)
   rwa [show F.2.toNat + (30 - F.2.toNat) = 30 by omega] at this
  simp only [obs,Ac,if_true,htop]
  rw [Fv (by rw [hv]; omega),M7 F.1 (by omega)]
  unfold D7
  rw [hF]; rfl
 ·rfl
 ·have hc:(i:Int) + 1≤30:=by omega
  have eval:CJ F.1 (i + 1) = CJ F.1 i++[(bV (F.1 ((i:Int) + 1))).2]:=by
   unfold CJ
   rw [List.range_succ,List.map_append]
   simp only [List.map_cons,List.map_nil]
   cases F.1 ((i:Int) + 1) <;> rfl
  have hap:BV 8 (CJ F.1 i) [(bV (F.1 ((i:Int) + 1))).2] = some (CJ F.1 (i + 1)):=by
   rw [eval]; exact Md (by rw [hv]; omega)
  have eok:decide ((bV (F.1 ((i:Int) + 1))).1 ≥ 0) = (F.1 ((i:Int) + 1)).isSome:=by
   cases hs:F.1 ((i:Int) + 1) with
   | none=>rfl
   | some c=>exact decide_eq_true ((I.sm _ c hs).2)
  unfold KE
  simp only [hc,decide_true,cond_true,hbest,obs,hap,eok,hv]
  rw [show wi .i64 (((i:Int) + 1) + 1) = ((i + 1:Nat):Int) + 1 from by rw [Bi (by omega) (by omega)]; omega]
  rw [show K0 F.1 (i + 1) = bif (F.1 ((i:Int) + 1)).isSome then i + 1 else K0 F.1 i from rfl]
  cases (F.1 ((i:Int) + 1)).isSome <;> simp [Ac]
theorem LU {α β:Type} {f:α→Option β} {g:α→β}:∀ {xs:List α},(∀ x∈xs,f x = some (g x))→EY f xs = some (xs.map g)
 | [],_=>rfl
 | x::xs,h=>by simp only [EY,h x (by simp),LU (xs:=xs) (fun y hy=>h y (List.mem_cons_of_mem _ hy)),List.map_cons]
theorem JG {f:Int} {xs:List Ad} (H:Be f xs) {rs:List Int} (R:Ju xs rs):m59 xs rs = some (D7 (B9 xs rs)):=by
 unfold m59
 rw [LU (g:=fun r=>((Am xs r).map F7).getD []) (fun r hr=>by
  obtain ⟨x,gx⟩:=R.get r hr
  rw [gx]; rfl)]
 show JH rs (some (B9 xs rs)) = _
 unfold JH
 dsimp only
 have hg:QK (B9 xs rs):=fun cs hcs=>⟨fun c hc=>by
  have:=((Hg H R cs hcs).2 c hc).1
  omega,(Hg H R cs hcs).1⟩
 rw [if_pos ⟨R.len,hg⟩]
theorem Ih {f:Int} {xs:List Ad} (H:Be f xs) {i:Int} {x:Ad} (hx:Am xs i = some x):Ju xs x.Refs:=by
 have M:=H.msg x (Cm hx)
 have hm:=D8 H.f12
 have hf:=H.f12
 have hl:=H.len
 have hrl:=M.refsl
 obtain ⟨h0,h1,h2⟩:=Em hx
 have hxe:xs[i.toNat] = x:=by
  rw [List.getElem?_eq_getElem h1] at h2
  injection h2
 refine ⟨fun r hr=>?_,by omega⟩
 have hr2:=H.refs i.toNat h1 r (by rw [hxe]; exact hr)
 have hr1:=M.ref r hr
 obtain ⟨q,rfl⟩:∃ q:Nat,r = q:=⟨r.toNat,by omega⟩
 exact ⟨_,Bn (show q < xs.length by omega)⟩
def DT (xs:List Ad) (st:Int):List Int:=((Am xs st).map (·.Refs)).getD []
def OR (xs:List Ad) (st s v:Int):Bool:=bif decide (s≤((D7 (B9 xs (DT xs st))).length:Int)) then v == ((Am (D7 (B9 xs (DT xs st))) (s - 1)).getD 0) else decide (v > 0)
def Ls (f:Int) (xs:List Ad) (m:Ad) (st:Int):Bool:=(m.Kind == 1) && ((m.From == D6 f m.View) && bif m.View == 0 then (st == -1) && decide (m.Value > 0) else FY f xs st && ((CE xs st == m.View) && OR xs st m.Slot m.Value))
def Gf (f:Int) (xs:List Ad) (i st:Int):Bool:=match Am xs i with
 | some m=>Ls f xs m st
 | none=>false
theorem Ix {ys:List Int} {s:Int} (h1:1≤s∧s≤30) (h2:s≤(ys.length:Int)):Am ys (wi .i64 (s - 1)) = some ((Am ys (s - 1)).getD 0):=by
 rw [Bi (by omega) (by omega)]
 obtain ⟨q,hq⟩:∃ q:Nat,s - 1 = q:=⟨(s - 1).toNat,by omega⟩
 rw [hq,Bn (show q < ys.length by omega)]; rfl
theorem JB {f:Int} {xs:List Ad} (H:Be f xs) (i st:Int):m27 f xs i st = some (Gf f xs i st):=by
 unfold m27 Gf
 rw [in2,KP H.len']
 cases hg:Am xs i with
 | none=>rfl
 | some m=>
  have M:=H.msg m (Cm hg)
  simp only [Option.isSome_some,Bool.not_true,cond_false,obs,FL H.f12]
  unfold Ls
  cases e1:m.Kind == 1
  ·have:(m.Kind != 1) = true:=by unfold bne; rw [e1]; rfl
   rw [this]; rfl
  have:(m.Kind != 1) = false:=by unfold bne; rw [e1]; rfl
  rw [this]
  have hk:m.Kind = 1:=by simpa using e1
  have hs:=M.slot (by omega)
  cases e2:m.From == D6 f m.View
  ·have:(m.From != D6 f m.View) = true:=by unfold bne; rw [e2]; rfl
   rw [this]; rfl
  have:(m.From != D6 f m.View) = false:=by unfold bne; rw [e2]; rfl
  rw [this]
  simp only [cond_false,obs,Ac,Bool.true_and]
  cases e3:m.View == 0
  rotate_left
  ·cases st == -1 <;> rfl
  simp only [cond_false,L6 H,obs]
  cases e4:FY f xs st
  ·rfl
  obtain ⟨x,gx,_⟩:=F4 e4
  have ev:CE xs st = x.View:=by simp [CE,gx]
  have er:DT xs st = x.Refs:=by simp [DT,gx]
  rw [ev]
  cases e5:x.View == m.View
  ·have:(x.View != m.View) = true:=by unfold bne; rw [e5]; rfl
   simp only [gx,this,Bool.not_true,cond_false,cond_true,obs,Ac,Bool.false_and,Bool.and_false]
  have:(x.View != m.View) = false:=by unfold bne; rw [e5]; rfl
  unfold OR
  rw [er]
  simp only [gx,this,Bool.not_true,cond_false,obs,Ac,JG H (Ih H gx),Bool.true_and]
  by_cases hl:m.Slot≤((D7 (B9 xs x.Refs)).length:Int)
  ·simp only [hl,decide_true,cond_true,Ix hs hl,obs]
  ·simp only [hl,decide_false,cond_false]
theorem Oh {f:Int} {xs:List Ad} (H:Be f xs) (i st:Int):m47 f xs i st = some (Gf f xs i st):=by
 unfold m47 Gf
 rw [Rz H.len',obs]
 cases hg:Am xs i with
 | none=>rfl
 | some m=>
  have M:=H.msg m (Cm hg)
  dsimp only
  unfold Ls
  cases e1:m.Kind == 1
  ·rfl
  have hk:m.Kind = 1:=by simpa using e1
  have hs:=M.slot (by omega)
  simp only [Bool.not_true,cond_false,obs,FK H.f12,Bool.true_and]
  cases e2:m.From == D6 f m.View
  ·rfl
  unfold m75 m66
  simp only [cond_true,obs,Bool.true_and]
  cases e3:m.View == 0
  rotate_left
  ·cases e4:st == -1
   ·rfl
   ·have:st = -1:=by simpa using e4
    subst this
    simp [Ac]
  simp only [cond_false,L1 H,obs]
  cases e4:FY f xs st
  ·rfl
  obtain ⟨x,gx,_⟩:=F4 e4
  have h0:¬ st < 0:=by
   obtain ⟨h0,_⟩:=Em gx
   omega
  have ev:CE xs st = x.View:=by simp [CE,gx]
  have er:DT xs st = x.Refs:=by simp [DT,gx]
  rw [ev]
  simp only [gx,cond_true,obs,Bool.true_and]
  cases e5:x.View == m.View
  ·rfl
  unfold OR
  rw [er]
  simp only [cond_true,h0,decide_false,cond_false,gx,obs,JF H (Ih H gx),Bool.true_and]
  by_cases hl:m.Slot≤((D7 (B9 xs x.Refs)).length:Int)
  ·simp only [hl,decide_true,cond_true,Ix hs hl,obs,Ac]
  ·simp only [hl,decide_false,cond_false,obs,Ac]
open Go Go.Rf
def Cf (r:Aj) (k s:Int) (m:Ad):Bool:=(m.From == r.Id) && ((m.Kind == k) && ((m.View == r.View) && (m.Slot == s)))
theorem FH (xs:List Ad) (r:Aj) (k s:Int) (h:xs.length≤1048576):m41 r xs k s = some (xs.any (Cf r k s)):=by
 unfold m41 m64
 rw [show m95 xs (fun x0_=>m96 x0_ r k s) = some (xs.any (Cf r k s)) from H9 (Bq h) (CC h) (fun x _=>by
  unfold m96 m70 Cf
  cases x.From == r.Id <;> cases x.Kind == k <;> cases x.View == r.View <;> rfl)]
 rfl
theorem J4 (xs:List Ad) (r:Aj) (k s:Int) {i:Nat} (hi:i < xs.length) (hs:(s == 0) = false):Ez xs r k s (-1) (false,(i:Int)) = some (bif Cf r k s xs[i] then .ret (true,(i:Int)) else .norm (false,wi .i64 ((i:Int) + 1))):=by
 have hc':(i:Int) < (xs.length:Int):=by omega
 unfold Ez Cf
 simp only [hc',decide_true,cond_true,Bn hi,obs,hs]
 cases xs[i].From == r.Id <;> cases xs[i].Kind == k <;> cases xs[i].View == r.View <;> cases xs[i].Slot == s <;> rfl
theorem FG (xs:List Ad) (r:Aj) (k s:Int) (h:xs.length≤1048576) (hs:(s == 0) = false):m48 xs r k s (-1) = some (xs.any (Cf r k s)):=by
 unfold m48
 rw [AM (f:=Ez xs r k s (-1)) (s0:=(false,0)) (fun i=>(false,(i:Int))) xs.length (pAt (Cf r k s) xs) (fun i=>.ret (true,(i:Int))) (.exit 0 (false,(xs.length:Int))) (fun i hi _ hp=>?_) (fun i hi _ hp=>?_) (fun _=>?_) (Bq h) rfl]
 ·rw [← D1]
  cases C7 (pAt (Cf r k s) xs) xs.length <;> rfl
 ·rw [Bf hi] at hp
  rw [J4 xs r k s hi hs,hp]
  simp only [cond_false,wi1 (show i≤1099511627776 by omega)]
 ·rw [Bf hi] at hp
  rw [J4 xs r k s hi hs,hp]
  exact ⟨rfl,rfl⟩
 ·unfold Ez
  simp only [Int.lt_irrefl,decide_false,cond_false]
  exact ⟨trivial,rfl⟩
noncomputable def Hh (f:Int) (xs:List Ad) (r:Aj) (s v:Int):Int:=bif !(inR s 1 30 && inR v 0 12) then 3 else bif !m44 r then 8 else bif !Dk f xs 2 r.View s v then 10 else bif xs.any (Cf r 3 s) then 6 else 0
theorem RZ {f:Int} {xs:List Ad} (H:Be f xs) (r:Aj) (s v:Int):m25 f xs r s v = some (Hh f xs r s v):=by
 have hl:=H.len
 unfold m25 Hh m49
 rw [in1,in1,show m50 r = m44 r from rfl,Eo H (by decide)]
 cases e1:inR s 1 30
 ·rfl
 have hs:(s == 0) = false:=by
  have:=CL.1 e1
  rw [beq_eq_false_iff_ne]; omega
 rw [FG xs r 3 s (by omega) hs]
 cases inR v 0 12 <;> cases m44 r <;> cases Dk f xs 2 r.View s v <;> cases xs.any (Cf r 3 s) <;> rfl
theorem Si {f:Int} {xs:List Ad} (H:Be f xs) (r:Aj) (s v:Int) (hv:0≤r.View∧r.View≤20):m22 r f xs s v = some (Hh f xs r s v):=by
 have hl:=H.len
 unfold m22 Hh
 rw [G4,Fq,FH xs r 3 s (by omega)]
 cases e1:inR s 1 30
 ·rfl
 cases e2:inR v 0 12
 ·rfl
 rw [HB H ⟨s,r.View,v⟩ (CL.1 e1) hv (CL.1 e2)]
 unfold HT
 cases m44 r <;> cases Dk f xs 2 r.View s v <;> cases xs.any (Cf r 3 s) <;> rfl
noncomputable def G8 (f:Int) (xs:List Ad) (r:Aj) (i:Int):Int:=bif !Gf f xs i r.Start then 1 else match Am xs i with
 | some m=>bif m.View != r.View then 1 else bif xs.any (Cf r 2 m.Slot) then 6 else 0
 | none=>1
theorem Hv {f:Int} {xs:List Ad} {i st:Int} (h:Gf f xs i st = true):∃ m,Am xs i = some m∧m.Kind = 1:=by
 unfold Gf at h
 cases hg:Am xs i with
 | none=>rw [hg] at h; cases h
 | some m=>
  rw [hg] at h
  refine ⟨m,rfl,?_⟩
  have h:Ls f xs m st = true:=h
  unfold Ls at h
  simp only [Bool.and_eq_true,beq_iff_eq] at h
  exact h.1
theorem Q6 {f:Int} {xs:List Ad} (H:Be f xs) (r:Aj) (i:Int):m24 f xs r i = some (G8 f xs r i):=by
 have hl:=H.len
 unfold m24 G8
 rw [Oh H]
 simp only [obs]
 cases hp:Gf f xs i r.Start
 ·rfl
 obtain ⟨m,gm,hk⟩:=Hv hp
 have hs:=(H.msg m (Cm gm)).slot (by omega)
 have hs0:(m.Slot == 0) = false:=by
  rw [beq_eq_false_iff_ne]; omega
 simp only [Bool.not_true,cond_false,gm,obs]
 cases m.View != r.View
 ·simp only [cond_false,obs,Ac,FG xs r 2 m.Slot (by omega) hs0]
  cases xs.any (Cf r 2 m.Slot) <;> rfl
 ·rfl
theorem Q7 {f:Int} {xs:List Ad} (H:Be f xs) (r:Aj) (i:Int):m20 r f xs i = some (G8 f xs r i):=by
 have hl:=H.len
 unfold m20 G8
 rw [JB H]
 simp only [obs]
 cases hp:Gf f xs i r.Start
 ·rfl
 obtain ⟨m,gm,hk⟩:=Hv hp
 simp only [Bool.not_true,cond_false,gm,obs]
 cases m.View != r.View
 ·simp only [cond_false,obs,Ac,FH xs r 2 m.Slot (by omega)]
  cases xs.any (Cf r 2 m.Slot) <;> rfl
 ·rfl
def HZ (r:Aj) (v:Int) (m:Ad):Bool:=(m.From == r.Id) && ((m.Kind == 1) && ((m.View == r.View) && (m.Value == v)))
theorem MC (xs:List Ad) (r:Aj) (v:Int) (h:xs.length≤1048576):IV r xs 1 v = some (xs.any (HZ r v)):=by
 unfold IV
 rw [show m95 xs (fun x0_=>Gp x0_ r 1 v) = some (xs.any (HZ r v)) from H9 (Bq h) (CC h) (fun x _=>by
  unfold Gp m65 HZ
  cases x.From == r.Id <;> cases x.Kind == 1 <;> cases x.View == r.View <;> rfl)]
 rfl
theorem IA (xs:List Ad) (r:Aj) (v:Int) {i:Nat} (hi:i < xs.length) (hv:¬ v < 0):Ez xs r 1 0 v (false,(i:Int)) = some (bif HZ r v xs[i] then .ret (true,(i:Int)) else .norm (false,wi .i64 ((i:Int) + 1))):=by
 have hc':(i:Int) < (xs.length:Int):=by omega
 unfold Ez HZ
 simp only [hc',decide_true,cond_true,Bn hi,obs,hv,decide_false]
 cases xs[i].From == r.Id <;> cases xs[i].Kind == 1 <;> cases xs[i].View == r.View <;> cases xs[i].Value == v <;> rfl
theorem MB (xs:List Ad) (r:Aj) (v:Int) (h:xs.length≤1048576) (hv:¬ v < 0):m48 xs r 1 0 v = some (xs.any (HZ r v)):=by
 unfold m48
 rw [AM (f:=Ez xs r 1 0 v) (s0:=(false,0)) (fun i=>(false,(i:Int))) xs.length (pAt (HZ r v) xs) (fun i=>.ret (true,(i:Int))) (.exit 0 (false,(xs.length:Int))) (fun i hi _ hp=>?_) (fun i hi _ hp=>?_) (fun _=>?_) (Bq h) rfl]
 ·rw [← D1]
  cases C7 (pAt (HZ r v) xs) xs.length <;> rfl
 ·rw [Bf hi] at hp
  rw [IA xs r v hi hv,hp]
  simp only [cond_false,wi1 (show i≤1099511627776 by omega)]
 ·rw [Bf hi] at hp
  rw [IA xs r v hi hv,hp]
  exact ⟨rfl,rfl⟩
 ·unfold Ez
  simp only [Int.lt_irrefl,decide_false,cond_false]
  exact ⟨trivial,rfl⟩
noncomputable def I6 (xs:List Ad) (r:Aj):List Int:=bif r.Start != -1 then D7 (B9 xs (DT xs r.Start)) else []
noncomputable def Ij (f:Int) (xs:List Ad) (r:Aj) (s v:Int):Int:=bif !(inR s 1 30 && inR v 0 12) then 3 else bif !m44 r || r.Id != D6 f r.View then 8 else bif xs.any (Cf r 1 s) then 6 else bif decide (s > 1) && !xs.any (Cf r 1 (s - 1)) then 4 else bif decide (s≤((I6 xs r).length:Int)) then (bif v != ((Am (I6 xs r) (s - 1)).getD 0) then 1 else 0) else bif (v == 0) || xs.any (HZ r v) then 1 else 0
theorem J1 {f:Int} {xs:List Ad} {r:Aj} (h:Dz f xs r = 0):r.Start = -1∨∃ x,Am xs r.Start = some x:=by
 unfold Dz at h
 cases h1:EK f r
 rotate_left
 ·rw [h1] at h; cases h
 cases h2:Fz f xs r
 rotate_left
 ·rw [h1,h2] at h; cases h
 unfold Fz at h2
 cases e:r.Start != -1
 ·left; simpa using e
 ·rw [e] at h2
  simp only [Bool.true_and,Bool.or_eq_false_iff,Bool.not_eq_false'] at h2
  obtain ⟨x,gx,_⟩:=F4 h2.2.1
  exact .inr ⟨x,gx⟩
theorem Q9 {f:Int} {xs:List Ad} (H:Be f xs) {r:Aj} (hr:r.Start = -1∨∃ x,Am xs r.Start = some x) (s v:Int):m35 r f xs s v = some (Ij f xs r s v):=by
 have hl:=H.len
 unfold m35 Ij
 rw [G4,Fq,FH xs r 1 s (by omega),FL H.f12]
 cases e1:inR s 1 30
 ·rfl
 have hs:=CL.1 e1
 rw [show wi .i64 (s - 1) = s - 1 from Bi (by omega) (by omega),FH xs r 1 (s - 1) (by omega),MC xs r v (by omega)]
 cases inR v 0 12
 ·rfl
 cases m44 r
 ·rfl
 simp only [Bool.not_true,cond_false,obs,Bool.false_or,Bool.and_self]
 cases r.Id != D6 f r.View
 rotate_left
 ·rfl
 cases xs.any (Cf r 1 s)
 rotate_left
 ·rfl
 have hb:∀ L:List Int,s≤(L.length:Int)→Am L (s - 1) = some ((Am L (s - 1)).getD 0):=fun L h=>by
  have:=Ix hs h
  rwa [show wi .i64 (s - 1) = s - 1 from Bi (by omega) (by omega)] at this
 have tail:∀ z:Int,(((bif r.Start != -1 then (Am xs r.Start).bind fun x1=>(m59 xs x1.Refs).bind fun y4=>some (LO.norm y4) else some (LO.norm [])):Option (LO (List Int))) = some (.norm (I6 xs r))):=fun z=>by
  unfold I6
  rcases hr with hr | ⟨x,gx⟩
  ·rw [hr]; rfl
  ·have er:DT xs r.Start = x.Refs:=by simp [DT,gx]
   rw [er,gx]
   cases r.Start != -1
   ·rfl
   ·simp only [cond_true,obs,JG H (Ih H gx)]
 cases e2:decide (s > 1) && !xs.any (Cf r 1 (s - 1))
 rotate_left
 ·rw [Bool.and_eq_true] at e2
  simp only [e2.1,e2.2,cond_true,cond_false,obs,Ac]
 have e3:((bif decide (s > 1) then (bif !xs.any (Cf r 1 (s - 1)) then some (LO.ret 4) else some (LO.norm 0)) else some (LO.norm 0)):Option (LO Int)) = some (.norm 0):=by
  cases h1:decide (s > 1)
  ·rfl
  ·rw [h1] at e2
   simp only [Bool.true_and] at e2
   rw [e2]; rfl
 simp only [cond_false,obs,e3,Ac,tail 0]
 by_cases hL:s≤((I6 xs r).length:Int)
 ·obtain ⟨z,hz⟩:∃ z,Am (I6 xs r) (s - 1) = some z:=⟨_,hb _ hL⟩
  simp only [hL,decide_true,cond_true,hz,Option.getD_some,obs]
  cases v != z <;> rfl
 ·simp only [hL,decide_false,cond_false]
  cases v == 0 <;> cases xs.any (HZ r v) <;> rfl
theorem Q8 {f:Int} {xs:List Ad} (H:Be f xs) {r:Aj} (hr:r.Start = -1∨∃ x,Am xs r.Start = some x) (s v:Int):m36 f xs r s v = some (Ij f xs r s v):=by
 have hl:=H.len
 unfold m36 Ij m49
 rw [in1,in1,show m50 r = m44 r from rfl,FK H.f12]
 cases e1:inR s 1 30
 ·rfl
 have hs:=CL.1 e1
 have hs0:(s == 0) = false:=by rw [beq_eq_false_iff_ne]; omega
 cases e0:inR v 0 12
 ·rfl
 have hv:=CL.1 e0
 rw [show wi .i64 (s - 1) = s - 1 from Bi (by omega) (by omega),FG xs r 1 s (by omega) hs0,MB xs r v (by omega) (by omega)]
 cases m44 r
 ·rfl
 simp only [Bool.not_true,cond_false,obs,Bool.false_or,Bool.and_self]
 cases r.Id != D6 f r.View
 rotate_left
 ·rfl
 simp only [cond_false,obs,Ac]
 cases xs.any (Cf r 1 s)
 rotate_left
 ·rfl
 have hb:∀ L:List Int,s≤(L.length:Int)→Am L (s - 1) = some ((Am L (s - 1)).getD 0):=fun L h=>by
  have:=Ix hs h
  rwa [show wi .i64 (s - 1) = s - 1 from Bi (by omega) (by omega)] at this
 have e3:((bif decide (s > 1) then (m48 xs r 1 (s - 1) (-1)).bind fun y3=>(bif !y3 then some (LO.ret 4) else some (LO.norm 0)) else some (LO.norm 0)):Option (LO Int)) = some (bif decide (s > 1) && !xs.any (Cf r 1 (s - 1)) then .ret 4 else .norm 0):=by
  by_cases h1:s > 1
  ·rw [FG xs r 1 (s - 1) (by omega) (by rw [beq_eq_false_iff_ne]; omega)]
   simp only [h1,decide_true,cond_true,obs,Bool.true_and]
   cases xs.any (Cf r 1 (s - 1)) <;> rfl
  ·simp only [h1,decide_false,cond_false,Bool.false_and]
 simp only [cond_false,e3,obs]
 cases decide (s > 1) && !xs.any (Cf r 1 (s - 1))
 rotate_left
 ·rfl
 simp only [cond_false,Ac]
 unfold m66 I6
 rcases hr with hr | ⟨x,gx⟩
 ·rw [hr]
  have h1:¬ s≤(([]:List Int).length:Int):=by simp; omega
  have h2:decide ((-1:Int) < 0) = true:=rfl
  have h3:decide ((-1:Int) ≥ 0) = false:=rfl
  have h4:(((-1:Int)) != -1) = false:=rfl
  simp only [h2,h3,h4,cond_true,cond_false,h1,decide_false,obs,Ac]
  by_cases h5:v > 0
  ·have h6:(v == 0) = false:=by rw [beq_eq_false_iff_ne]; omega
   simp only [h5,decide_true,Bool.not_true,cond_false,h6,Bool.false_or]
   cases xs.any (HZ r v) <;> rfl
  ·have h6:(v == 0) = true:=by rw [beq_iff_eq]; omega
   simp only [h5,decide_false,Bool.not_false,Bool.not_true,cond_true,cond_false,h6,Bool.true_or]
 ·have er:DT xs r.Start = x.Refs:=by simp [DT,gx]
  obtain ⟨g0,g1,g2⟩:=Em gx
  have h2:¬ r.Start < 0:=by omega
  have h3:r.Start ≥ 0:=by omega
  have h4:(r.Start != -1) = true:=by
   rw [bne_iff_ne]; omega
  simp only [er,h2,h3,h4,decide_true,decide_false,cond_true,cond_false,gx,obs,JF H (Ih H gx)]
  by_cases hL:s≤((D7 (B9 xs x.Refs)).length:Int)
  ·simp only [hL,decide_true,cond_true,show wi .i64 (s - 1) = s - 1 from Bi (by omega) (by omega)]
   obtain ⟨z,hz⟩:∃ z,Am (D7 (B9 xs x.Refs)) (s - 1) = some z:=⟨_,hb _ hL⟩
   simp only [hz,Option.getD_some,obs,Ac]
   unfold bne
   cases v == z <;> rfl
  ·simp only [hL,decide_false,cond_false,obs,Ac]
   by_cases h5:v > 0
   ·have h6:(v == 0) = false:=by rw [beq_eq_false_iff_ne]; omega
    simp only [h5,decide_true,Bool.not_true,cond_false,h6,Bool.false_or]
    cases xs.any (HZ r v) <;> rfl
   ·have h6:(v == 0) = true:=by rw [beq_iff_eq]; omega
    simp only [h5,decide_false,Bool.not_false,Bool.not_true,cond_true,cond_false,h6,Bool.true_or]
noncomputable def CS (f:Int) (xs:List Ad) (r:Aj):Int:=bif Eb f xs != 0 then Eb f xs else Dz f xs r
theorem K5 {f:Int} {xs:List Ad} (h:xs.length≤1048576) (g:∀ x∈xs,AS x) (r:Aj):m12 f xs r = some (CS f xs r):=by
 unfold m12 CS
 rw [IX f xs h g]
 simp only [obs]
 by_cases hc:Eb f xs = 0
 ·have H:=F9 hc
  rw [hc,Rq H,obs,Qy H]; rfl
 ·have e:(Eb f xs != 0) = true:=by simpa using hc
  simp only [e,cond_true]
theorem K4 {f:Int} {xs:List Ad} (h:xs.length≤1048576) (g:∀ x∈xs,AS x) (r:Aj):m23 f xs r = some (CS f xs r):=by
 unfold m23 CS
 rw [Ru f xs h g]
 simp only [obs]
 by_cases hc:Eb f xs = 0
 ·have H:=F9 hc
  rw [hc,Qx H]; rfl
 ·have e:(Eb f xs != 0) = true:=by simpa using hc
  simp only [e,cond_true]
theorem H7 {f:Int} {xs:List Ad} {r:Aj} (h:CS f xs r = 0):Eb f xs = 0∧Dz f xs r = 0:=by
 unfold CS at h
 by_cases hc:Eb f xs = 0
 ·rw [hc] at h; exact ⟨hc,h⟩
 ·have e:(Eb f xs != 0) = true:=by simpa using hc
  rw [e] at h
  exact absurd h hc
theorem TP {f:Int} {xs:List Ad} (h:xs.length≤1048576) (g:∀ x∈xs,AS x) (r:Aj) (i:Int):∃ k,m6 f xs r i = some k∧m9 f xs r i = some k∧(k = 0→∃ m,m11 f xs i r.Start = some true∧Am xs i = some m∧m.View = r.View∧m12 f xs r = some 0):=by
 unfold m6 m9
 rw [K5 h g,K4 h g]
 simp only [obs]
 by_cases hz:CS f xs r = 0
 rotate_left
 ·have e:(CS f xs r != 0) = true:=by simpa using hz
  simp only [e,cond_true]
  exact ⟨_,rfl,rfl,fun h0=>absurd h0 hz⟩
 obtain ⟨hc,hr⟩:=H7 hz
 have H:=F9 hc
 rw [hz]
 simp only [bne_self_eq_false,cond_false,Q7 H,Q6 H,obs]
 refine ⟨_,rfl,rfl,fun h0=>?_⟩
 unfold G8 at h0
 cases hp:Gf f xs i r.Start
 ·rw [hp] at h0; cases h0
 obtain ⟨m,gm,_⟩:=Hv hp
 rw [hp,gm] at h0
 have hv:m.View = r.View:=by
  cases e:m.View != r.View
  ·simpa using e
  ·simp [e] at h0
 refine ⟨m,?_,gm,hv,trivial⟩
 unfold m11
 rw [IX f xs h g,hc,obs,JB H,hp]; rfl
theorem Wa {f:Int} {xs:List Ad} (h:xs.length≤1048576) (g:∀ x∈xs,AS x) (r:Aj) (s v:Int):∃ k,m8 f xs r s v = some k∧m10 f xs r s v = some k∧(k = 0→m13 f xs ⟨s,r.View,v⟩ = some true):=by
 unfold m8 m10
 rw [K5 h g,K4 h g]
 simp only [obs]
 by_cases hz:CS f xs r = 0
 rotate_left
 ·have e:(CS f xs r != 0) = true:=by simpa using hz
  simp only [e,cond_true]
  exact ⟨_,rfl,rfl,fun h0=>absurd h0 hz⟩
 obtain ⟨hc,hr⟩:=H7 hz
 have H:=F9 hc
 have hv:=Qw hr
 rw [hz]
 simp only [bne_self_eq_false,cond_false,Si H _ _ _ hv,RZ H,obs]
 refine ⟨_,rfl,rfl,fun h0=>?_⟩
 unfold Hh at h0
 cases e1:inR s 1 30
 ·rw [e1] at h0; cases h0
 cases e2:inR v 0 12
 ·rw [e1,e2] at h0; cases h0
 cases e3:m44 r
 ·rw [e1,e2,e3] at h0; cases h0
 cases e4:Dk f xs 2 r.View s v
 ·rw [e1,e2,e3,e4] at h0; cases h0
 unfold m13
 rw [IX f xs h g,hc,obs,HB H ⟨s,r.View,v⟩ (CL.1 e1) hv (CL.1 e2)]
 show some (Dk f xs 2 r.View s v) = _
 rw [e4]
theorem VZ {f:Int} {xs:List Ad} (h:xs.length≤1048576) (g:∀ x∈xs,AS x) (r:Aj) (s v:Int):∃ k,m15 f xs r s v = some k∧m16 f xs r s v = some k:=by
 unfold m15 m16
 rw [K5 h g,K4 h g]
 simp only [obs]
 by_cases hz:CS f xs r = 0
 rotate_left
 ·have e:(CS f xs r != 0) = true:=by simpa using hz
  simp only [e,cond_true]
  exact ⟨_,rfl,rfl⟩
 obtain ⟨hc,hr⟩:=H7 hz
 have H:=F9 hc
 rw [hz]
 simp only [bne_self_eq_false,cond_false,Q9 H (J1 hr),Q8 H (J1 hr),obs]
 exact ⟨_,rfl,rfl⟩
open Go Go.Rf
theorem Mc {α:Type} {b:Nat} {L ys:List α} (h:L.length + ys.length≤2097152) (hb:b≤1000):BV b L ys = some (L++ys):=by
 unfold BV
 rw [if_pos (Nat.le_trans (Nat.mul_le_mul h (show b + 1≤1001 by omega)) (by decide))]
def U4 (id s v:Int) (m:Ad):Bool:=(m.Kind == 3) && ((m.From == id) && ((m.Slot == s) && decide (m.View < v)))
def Sv (id s v:Int) (b:Int×Int) (m:Ad):Int×Int:=bif U4 id s v m && decide (m.View > b.1) then (m.View,m.Value) else b
def Ed (xs:List Ad) (id s v:Int):Int×Int:=xs.foldl (Sv id s v) (-1,0)
theorem Ni (xs:List Ad) (id s v:Int) {i:Nat} (h:i < xs.length):Ed (xs.take (i + 1)) id s v = Sv id s v (Ed (xs.take i) id s v) xs[i]:=by
 unfold Ed
 rw [CU h,List.foldl_append]; rfl
theorem TX (xs:List Ad) (id v:Int) (s1:Int×List Ar) (h:xs.length≤1048576):Aq (FT xs id v s1) NN (0,(-1),0) = some (.exit 2 ((xs.length:Int),(Ed xs id s1.1 v).1,(Ed xs id s1.1 v).2)):=by
 rw [Dj (f:=FT xs id v s1) (s0:=(0,(-1),0)) (fun i=>((i:Int),(Ed (xs.take i) id s1.1 v).1,(Ed (xs.take i) id s1.1 v).2)) xs.length (.exit 2 ((xs.length:Int),(Ed xs id s1.1 v).1,(Ed xs id s1.1 v).2)) (fun i hi=>?_) ?_ rfl (Bq h) rfl]
 ·unfold FT
  simp only [Int.lt_irrefl,decide_false,cond_false,List.take_length]
 ·have hc':(i:Int) < (xs.length:Int):=by omega
  unfold FT
  simp only [hc',decide_true,cond_true,Bn hi,obs,Ni xs id s1.1 v hi,wi1 (show i≤1099511627776 by omega)]
  unfold Sv U4
  cases xs[i].Kind == 3 <;> cases xs[i].From == id <;> cases xs[i].Slot == s1.1 <;> cases decide (xs[i].View < v) <;> cases decide (xs[i].View > (Ed (xs.take i) id s1.1 v).1) <;> rfl
def EZ (xs:List Ad) (id v:Int):Nat→List Ar
 | 0=>[]
 | i + 1=>EZ xs id v i++(bif decide ((Ed xs id ((i:Int) + 1) v).1 ≥ 0) then [(⟨(i:Int) + 1,(Ed xs id ((i:Int) + 1) v).1,(Ed xs id ((i:Int) + 1) v).2⟩:Ar)] else [])
theorem Ec (xs:List Ad) (id v:Int):∀ i,(EZ xs id v i).length≤i
 | 0=>Nat.le_refl _
 | i + 1=>by
  have:=Ec xs id v i
  unfold EZ
  cases decide ((Ed xs id ((i:Int) + 1) v).1 ≥ 0) <;> simp <;> omega
theorem Yg {L:List Ar} {k:Ar} (h:L.length≤1000):BV 24 L [k] = some (L++[k]):=by
 unfold BV; rw [if_pos (by simp; omega)]
theorem MZ (xs:List Ad) (id v:Int) (h:xs.length≤1048576):O1 xs id v = some (EZ xs id v 30):=by
 unfold O1
 rw [Dj (f:=It xs id v) (s0:=(1,[])) (fun i=>((i:Int) + 1,EZ xs id v i)) 30 (.exit 0 (31,EZ xs id v 30)) (fun i hi=>?_) ?_ rfl (Bq (by omega)) rfl]
 ·rfl
 ·rfl
 ·have hc:(i:Int) + 1≤30:=by omega
  have hl:=Ec xs id v i
  unfold It
  simp only [hc,decide_true,cond_true,TX xs id v _ h,obs,Ac,if_true,Yg (show (EZ xs id v i).length≤1000 by omega),Ky (show i≤1048576 by omega)]
  show _ = some (LO.norm (_,EZ xs id v i++_))
  cases decide ((Ed xs id ((i:Int) + 1) v).1 ≥ 0) <;> simp [Ac]
def Src (code:List U8) (s:Af) (k:Nat):Prop:=s.Code = code∧0≤s.At∧s.At≤k
def CB (code:List U8):Prop:=code.length≤1048576∧∀ x∈code,0≤x.v∧x.v≤255
theorem Bm {code:List U8} (H:CB code) {s:Af} {k:Nat} (hs:Src code s k) (hk:k≤1000000) {n:Int} (hn:1≤n∧n≤1000000):∃ r s',m34 s n = some (r,s')∧(0≤r∧r < n)∧Src code s' (k + 1):=by
 obtain ⟨rfl,h0,h1⟩:=hs
 obtain ⟨hl,hb⟩:=H
 have e1:¬ n < 1:=by omega
 have e2:wi .i64 (s.At + 1) = s.At + 1:=Bi (by omega) (by omega)
 have e3:wi .i64 (s.At + 1 - 1) = s.At:=by rw [Bi (by omega) (by omega)]; omega
 have hn0:n≠0:=by omega
 have hs':Src s.Code ⟨s.Code,s.At + 1⟩ (k + 1):=⟨rfl,by show 0≤s.At + 1; omega,by show s.At + 1≤((k + 1:Nat):Int); omega⟩
 unfold m34
 simp only [e1,decide_false,cond_false,e2,e3]
 cases hc:((s.Code.length:Int) == 0)
 rotate_left
 ·simp only [cond_true,G6,if_neg hn0,obs]
  exact ⟨_,_,rfl,⟨Int.tmod_nonneg _ (by rw [Bi (by omega) (by omega)]; omega),Int.tmod_lt_of_pos _ (by omega)⟩,hs'⟩
 have hp:0 < (s.Code.length:Int):=by
  have:(s.Code.length:Int)≠0:=by simpa using hc
  omega
 have hp0:(s.Code.length:Int)≠0:=by omega
 have hx:∀ a:Int,0≤a→∃ x∈s.Code,Am s.Code (Int.tmod a (s.Code.length:Int)) = some x:=fun a ha=>by
  have q1:=Int.tmod_nonneg (a:=a) (s.Code.length:Int) ha
  have q2:=Int.tmod_lt_of_pos a hp
  have hi:(Int.tmod a (s.Code.length:Int)).toNat < s.Code.length:=by omega
  refine ⟨s.Code[(Int.tmod a (s.Code.length:Int)).toNat],List.getElem_mem hi,?_⟩
  unfold Am
  rw [if_pos q1,List.getElem?_eq_getElem hi]
 obtain ⟨x,hxm,hx1⟩:=hx s.At h0
 obtain ⟨y,hym,hy1⟩:=hx (s.At + 1) (by omega)
 have hxb:=hb x hxm
 have hyb:=hb y hym
 have t1:0≤Int.tdiv s.At (s.Code.length:Int):=Int.tdiv_nonneg h0 (by omega)
 have t2:Int.tdiv s.At (s.Code.length:Int)≤s.At:=Int.tdiv_le_self _ h0
 have e4:IntKind.i64.wrap (Int.tdiv s.At (s.Code.length:Int)) = Int.tdiv s.At (s.Code.length:Int):=Bi (by omega) (by omega)
 simp only [cond_false,G6,MG,if_neg hp0,if_neg hn0,obs,hx1,hy1,e2,e4]
 have e6:wi .i64 (wi .i64 x.v + wi .i64 (Int.tdiv s.At (s.Code.length:Int) * 37)) = x.v + Int.tdiv s.At (s.Code.length:Int) * 37:=by
  rw [Bi (x:=x.v) (by omega) (by omega),Bi (x:=Int.tdiv s.At (s.Code.length:Int) * 37) (by omega) (by omega),Bi (by omega) (by omega)]
 rw [e6]
 generalize Int.tdiv s.At (s.Code.length:Int) = d at t1 t2
 by_cases h5:n > 200
 ·have e7:wi .i64 (wi .i64 (wi .i64 ((x.v + d * 37) * 251) + wi .i64 (wi .i64 y.v * 13)) + s.At) = (x.v + d * 37) * 251 + y.v * 13 + s.At:=by
   rw [Bi (x:=y.v) (by omega) (by omega),Bi (x:=y.v * 13) (by omega) (by omega),Bi (x:=(x.v + d * 37) * 251) (by omega) (by omega),Bi (x:=(x.v + d * 37) * 251 + y.v * 13) (by omega) (by omega),Bi (by omega) (by omega)]
  simp only [h5,decide_true,cond_true,Ac,obs,e7,if_neg hn0]
  exact ⟨_,_,rfl,⟨Int.tmod_nonneg _ (by omega),Int.tmod_lt_of_pos _ (by omega)⟩,hs'⟩
 ·simp only [h5,decide_false,cond_false,Ac,obs,if_neg hn0]
  exact ⟨_,_,rfl,⟨Int.tmod_nonneg _ (by omega),Int.tmod_lt_of_pos _ (by omega)⟩,hs'⟩
theorem BC {code:List U8} (H:CB code) {s:Af} {k:Nat} (hs:Src code s k) (hk:k≤1000000) {l:List Int} (hn:1≤l.length∧l.length≤200):∃ r s',m21 s l = some (r,s')∧Src code s' (k + 1):=by
 obtain ⟨r,s',h1,⟨h2,h3⟩,h4⟩:=Bm H hs hk (n:=(l.length:Int)) (by omega)
 have hi:r.toNat < l.length:=by omega
 refine ⟨l[r.toNat],s',?_,h4⟩
 unfold m21
 rw [h1,obs]
 show (Am l r).bind _ = _
 unfold Am
 rw [if_pos h2,List.getElem?_eq_getElem hi]; rfl
theorem BX {code:List U8} (H:CB code) {s:Af} {k:Nat} (hs:Src code s k) (hk:k≤1000000) {n:Int} (hn:1≤n∧n≤1000000):∃ b s',m31 s n = some (b,s')∧Src code s' (k + 1):=by
 obtain ⟨r,s',h1,_,h2⟩:=Bm H hs hk hn
 exact ⟨r == 0,s',by unfold m31; rw [h1]; rfl,h2⟩
theorem Src.mono {code:List U8} {s:Af} {k k':Nat} (h:Src code s k) (hk:k≤k'):Src code s k':=⟨h.1,h.2.1,by have:=h.2.2; omega⟩
theorem Sr {code:List U8} (H:CB code) {y2:Int×Af} (hy:0≤y2.1∧y2.1≤3) {s:Af} {k:Nat} (hs:Src code s k) (hk:k + 9≤1000):∃ j cs s',Aq (GR y2) NN (1,[],s.Code,s.At) = some (.exit 1 (j,cs,s'.Code,s'.At))∧cs.length≤3∧Src code s' (k + 9):=by
 obtain ⟨o,h1,j,cs,s',rfl,h2,h3⟩:=BL (f:=GR y2) (fun i t=>∃ (cs:List Ar) (u:Af),t = (((1 + i:Nat):Int),cs,u.Code,u.At)∧cs.length≤i∧Src code u (k + 3 * i)) 3 (fun o=>∃ (j:Int) (cs:List Ar) (s':Af),o = .exit 1 (j,cs,s'.Code,s'.At)∧cs.length≤3∧Src code s' (k + 9)) (fun i t hi ht=>by
  obtain ⟨cs,u,rfl,h1,h2⟩:=ht
  unfold GR
  dsimp only
  by_cases hc:i < 3
  ·have hc':((1 + i:Nat):Int) < 4:=by omega
   simp only [hc',decide_true,cond_true,obs]
   cases hv:decide (y2.1 > 0)
   ·simp only [Ac,cond_false,obs]
    exact .inr (.inl ⟨_,_,rfl,_,_,u,rfl,by omega,h2.mono (by omega)⟩)
   ·obtain ⟨b,s1,a1,a2⟩:=BX H h2 (by omega) (n:=3) (by omega)
    have a1:m31 (⟨u.Code,u.At⟩:Af) 3 = some (b,s1):=a1
    simp only [Ac,cond_true,obs,a1]
    have e1:wi .i64 (((1 + i:Nat):Int) + 1) = ((1 + (i + 1):Nat):Int):=by rw [Bi (by omega) (by omega)]; omega
    cases b
    ·simp only [cond_false,obs,Ac,e1]
     exact .inl ⟨hc,_,rfl,cs,s1,rfl,by omega,a2.mono (by omega)⟩
    ·have hv':y2.1 > 0:=by simpa using hv
     obtain ⟨r2,s2,b1,_,b2⟩:=Bm H a2 (by omega) (n:=y2.1) (by omega)
     obtain ⟨r3,s3,c1,_,c2⟩:=Bm H b2 (by omega) (n:=3) (by omega)
     simp only [cond_true,b1,c1,obs,Mc (show cs.length + [(⟨((1 + i:Nat):Int),r2,r3⟩:Ar)].length≤2097152 by simp; omega) (show 24≤1000 by decide),Ac,e1]
     exact .inl ⟨hc,_,rfl,_,s3,rfl,by simp; omega,c2.mono (by omega)⟩
  ·have hc':¬ ((1 + i:Nat):Int) < 4:=by omega
   simp only [hc',decide_false,cond_false,obs,Ac]
   exact .inr (.inl ⟨_,_,rfl,_,_,u,rfl,by omega,h2.mono (by omega)⟩)) NN 0 (1,[],s.Code,s.At) (by omega) (Bq (by omega)) ⟨[],s,rfl,by simp,hs.mono (by omega)⟩
 exact ⟨j,cs,s',h1,h2,h3⟩
theorem RL {code:List U8} (H:CB code) {n:Int} (hn:n≤20) {s:Af} {k:Nat} (hs:Src code s k) (hk:k + 20≤1000):∃ j rs s',Aq (GQ n) NN (0,[],s.Code,s.At) = some (.exit 3 (j,rs,s'.Code,s'.At))∧rs.length≤4∧Src code s' (k + 20):=by
 obtain ⟨o,h1,j,cs,s',rfl,h2,h3⟩:=BL (f:=GQ n) (fun i t=>∃ (rs:List Int) (u:Af),t = ((i:Int),rs,u.Code,u.At)∧rs.length≤4∧Src code u (k + i)) 20 (fun o=>∃ (j:Int) (rs:List Int) (s':Af),o = .exit 3 (j,rs,s'.Code,s'.At)∧rs.length≤4∧Src code s' (k + 20)) (fun i t hi ht=>by
  obtain ⟨rs,u,rfl,h1,h2⟩:=ht
  unfold GQ
  dsimp only
  by_cases hc:(i:Int) < n
  ·simp only [hc,decide_true,cond_true,obs]
   by_cases hv:(rs.length:Int) < 4
   ·obtain ⟨b,s1,a1,a2⟩:=BX H h2 (by omega) (n:=3) (by omega)
    have a1:m31 (⟨u.Code,u.At⟩:Af) 3 = some (b,s1):=a1
    simp only [hv,decide_true,Ac,cond_true,obs,a1]
    have e1:wi .i64 ((i:Int) + 1) = ((i + 1:Nat):Int):=wi1 (by omega)
    cases b
    ·simp only [cond_false,obs,Ac,e1]
     exact .inl ⟨by omega,_,rfl,rs,s1,rfl,h1,a2.mono (by omega)⟩
    ·simp only [cond_true,obs,Mc (show rs.length + [(i:Int)].length≤2097152 by simp; omega) (show 8≤1000 by decide),Ac,e1]
     exact .inl ⟨by omega,_,rfl,_,s1,rfl,by simp; omega,a2.mono (by omega)⟩
   ·simp only [hv,decide_false,Ac,cond_false,obs]
    exact .inr (.inl ⟨_,_,rfl,_,_,u,rfl,h1,h2.mono (by omega)⟩)
  ·simp only [hc,decide_false,cond_false,obs,Ac]
   exact .inr (.inl ⟨_,_,rfl,_,_,u,rfl,h1,h2.mono (by omega)⟩)) NN 0 (0,[],s.Code,s.At) (by omega) (Bq (by omega)) ⟨[],s,rfl,by simp,hs.mono (by omega)⟩
 exact ⟨j,cs,s',h1,h2,h3⟩
def I7 (m:Ad):Prop:=m.Certs.length≤4∧m.Refs.length≤4
theorem I7.good {m:Ad} (h:I7 m):AS m:=⟨Nat.le_trans h.1 (by omega),Nat.le_trans h.2 (by omega)⟩
theorem Iz {code:List U8} (H:CB code) {n:Int} (hn:n≤20) {s:Af} {k:Nat} (hs:Src code s k) (hk:k + 23≤1000):∃ m s',KG s n = some (m,s')∧(m.Certs.length≤3∧m.Refs.length≤4)∧Src code s' (k + 23):=by
 obtain ⟨r1,s1,a1,a2⟩:=BC H hs (by omega) (l:=[1,2,2,3,3,4,5]) (by simp)
 obtain ⟨r2,s2,b1,b0,b2⟩:=Bm H a2 (by omega) (n:=3) (by omega)
 obtain ⟨r3,s3,c1,_,c2⟩:=Bm H b2 (by omega) (n:=4) (by omega)
 unfold KG
 simp only [a1,b1,c1,obs]
 cases r1 == 4
 ·cases r1 == 5
  ·obtain ⟨r4,s4,d1,_,d2⟩:=Bm H c2 (by omega) (n:=2) (by omega)
   obtain ⟨r5,s5,e1,_,e2⟩:=Bm H d2 (by omega) (n:=3) (by omega)
   simp only [cond_false,d1,e1,obs,Ac]
   exact ⟨_,s5,rfl,⟨by simp,by simp⟩,e2.mono (by omega)⟩
  ·obtain ⟨j,rs,s4,d1,d2,d3⟩:=RL H hn c2 (by omega)
   simp only [cond_false,cond_true,d1,obs,Ac,if_true]
   exact ⟨_,s4,rfl,⟨by simp,d2⟩,d3.mono (by omega)⟩
 ·obtain ⟨j,cs,s4,d1,d2,d3⟩:=Sr H (y2:=(r2,s2)) (by show 0≤r2∧r2≤3; omega) c2 (by omega)
  simp only [cond_true,d1,obs,Ac,if_true]
  exact ⟨_,s4,rfl,⟨d2,by simp⟩,d3.mono (by omega)⟩
theorem Ur {code:List U8} (H:CB code) {s:Af} {k:Nat} (hs:Src code s k) (hk:k + 25≤1000):∃ m s',m99 s = some (m,s')∧I7 m∧Src code s' (k + 25):=by
 obtain ⟨m,s1,a1,⟨a3,a4⟩,a2⟩:=Iz H (n:=6) (by omega) hs (by omega)
 obtain ⟨r,s2,b1,_,b2⟩:=Bm H a2 (by omega) (n:=12) (by omega)
 obtain ⟨p1,t1,c1,d1⟩:=BC H b2 (by omega) (l:=[0,1,4,6]) (by simp)
 obtain ⟨p2,t2,c2,d2⟩:=BC H b2 (by omega) (l:=[-1,20,21]) (by simp)
 obtain ⟨p3,t3,c3,d3⟩:=BC H b2 (by omega) (l:=[0,4,7,8]) (by simp)
 obtain ⟨p4,t4,c4,d4⟩:=BC H b2 (by omega) (l:=[0,30,31]) (by simp)
 obtain ⟨p5,t5,c5,d5⟩:=BC H b2 (by omega) (l:=[-1,12,13]) (by simp)
 unfold m99
 simp only [a1,b1,c1,c2,c3,c4,c5,obs,Mc (show m.Certs.length + [(⟨1,0,1⟩:Ar)].length≤2097152 by simp; omega) (show 24≤1000 by decide)]
 cases r == 0
 rotate_left
 ·exact ⟨_,t1,rfl,⟨by show m.Certs.length≤4; omega,a4⟩,d1⟩
 cases r == 1
 rotate_left
 ·exact ⟨_,t2,rfl,⟨by show m.Certs.length≤4; omega,a4⟩,d2⟩
 cases r == 2
 rotate_left
 ·exact ⟨_,t3,rfl,⟨by show m.Certs.length≤4; omega,a4⟩,d3⟩
 cases r == 3
 rotate_left
 ·exact ⟨_,t4,rfl,⟨by show m.Certs.length≤4; omega,a4⟩,d4⟩
 cases r == 4
 rotate_left
 ·exact ⟨_,t5,rfl,⟨by show m.Certs.length≤4; omega,a4⟩,d5⟩
 cases r == 5
 rotate_left
 ·exact ⟨_,s2,rfl,⟨by show (m.Certs++[_]).length≤4; simp; omega,a4⟩,b2.mono (by omega)⟩
 ·exact ⟨_,s2,rfl,⟨by show m.Certs.length≤4; omega,a4⟩,b2.mono (by omega)⟩
theorem TQ {code:List U8} (H:CB code) {s:Af} {k:Nat} (hs:Src code s k) (hk:k + 400≤1000):∃ xs s',m98 s = some (xs,s')∧(xs.length≤16∧∀ x∈xs,I7 x)∧Src code s' (k + 400):=by
 obtain ⟨r,s1,a1,⟨a3,a4⟩,a2⟩:=Bm H hs (by omega) (n:=16) (by omega)
 obtain ⟨J,rfl⟩:∃ j:Nat,r = j:=⟨r.toNat,by omega⟩
 unfold m98
 rw [a1,obs]
 obtain ⟨o,h1,xs,s',j,rfl,h2,h3⟩:=BL (f:=KD) (fun i t=>∃ (xs:List Ad) (u:Af),t = ((J:Int) - i,xs,u.Code,u.At)∧(xs.length≤i∧∀ x∈xs,I7 x)∧Src code u (k + 1 + 23 * i)) J (fun o=>∃ (xs:List Ad) (s':Af) (j:Int),o = .exit 0 (j,xs,s'.Code,s'.At)∧(xs.length≤16∧∀ x∈xs,I7 x)∧Src code s' (k + 400)) (fun i t hi ht=>by
  obtain ⟨xs,u,rfl,⟨h1,h2⟩,h3⟩:=ht
  unfold KD
  dsimp only
  by_cases hc:i < J
  ·have hc':(J:Int) - i > 0:=by omega
   obtain ⟨m,s2,b1,b3,b2⟩:=Iz H (n:=(xs.length:Int)) (by omega) h3 (by omega)
   have b1:KG (⟨u.Code,u.At⟩:Af) (xs.length:Int) = some (m,s2):=b1
   have e1:wi .i64 ((J:Int) - i - 1) = (J:Int) - ((i + 1:Nat):Int):=by rw [Bi (by omega) (by omega)]; omega
   simp only [hc',decide_true,cond_true,b1,obs,I0 xs m (by omega) (fun x hx=>(h2 x hx).good),Mc (show xs.length + [m].length≤2097152 by simp; omega) (show 88≤1000 by decide)]
   cases decide (atM xs m < 0)
   ·simp only [cond_false,obs,Ac,e1]
    exact .inl ⟨hc,_,rfl,xs,s2,rfl,⟨by omega,h2⟩,b2.mono (by omega)⟩
   ·simp only [cond_true,obs,Ac,e1]
    refine .inl ⟨hc,_,rfl,_,s2,rfl,⟨by simp; omega,fun x hx=>?_⟩,b2.mono (by omega)⟩
    rcases List.mem_append.1 hx with hx | hx
    ·exact h2 x hx
    ·rw [List.mem_singleton.1 hx]; exact ⟨by omega,b3.2⟩
  ·have hc':¬ (J:Int) - i > 0:=by omega
   simp only [hc',decide_false,cond_false]
   exact .inr (.inl ⟨_,_,rfl,xs,u,_,rfl,⟨by omega,h2⟩,h3.mono (by omega)⟩)) NN 0 ((J:Int),[],s1.Code,s1.At) (by omega) (Bq (by omega)) ⟨[],s1,by simp,⟨by simp,fun x hx=>by cases hx⟩,a2.mono (by omega)⟩
 dsimp only
 rw [h1]
 simp only [obs,Ac,if_true]
 exact ⟨xs,s',rfl,h2,h3⟩
theorem ON {code:List U8} (H:CB code) {s:Af} {k:Nat} (hs:Src code s k) (hk:k + 426≤1000):∃ xs s',m68 s = some (xs,s')∧(xs.length≤241∧∀ x∈xs,I7 x)∧Src code s' (k + 426):=by
 obtain ⟨xs,s1,a1,⟨a3,a4⟩,a2⟩:=TQ H hs (by omega)
 obtain ⟨r,s2,b1,_,b2⟩:=Bm H a2 (by omega) (n:=12) (by omega)
 unfold m68
 simp only [a1,b1,obs]
 cases r == 0
 ·cases r == 1
  ·exact ⟨xs,s2,rfl,⟨by omega,a4⟩,b2.mono (by omega)⟩
  ·rw [show mkO 88 241 (⟨0,0,0,0,0,[],[]⟩:Ad) = some (List.replicate 241 ⟨0,0,0,0,0,[],[]⟩) from by unfold mkO; rw [if_pos ⟨by omega,by decide⟩]; rfl]
   refine ⟨_,s2,rfl,⟨by rw [List.length_replicate]; omega,fun x hx=>?_⟩,b2.mono (by omega)⟩
   rw [(List.mem_replicate.1 hx).2]
   exact ⟨by simp,by simp⟩
 ·obtain ⟨m,s3,c1,c2,c3⟩:=Ur H b2 (by omega)
  simp only [cond_true,c1,obs,Mc (show xs.length + [m].length≤2097152 by simp; omega) (show 88≤1000 by decide),Ac]
  refine ⟨_,s3,rfl,⟨by simp; omega,fun x hx=>?_⟩,c3.mono (by omega)⟩
  rcases List.mem_append.1 hx with hx | hx
  ·exact a4 x hx
  ·rw [List.mem_singleton.1 hx]; exact c2
def okL (n:Nat) (xs:List Ad):Prop:=xs.length≤n∧∀ x∈xs,AS x
theorem okL.snoc {n k:Nat} {xs:List Ad} {m:Ad} (h:okL n xs) (hm:AS m) (hk:n + 1≤k):okL k (xs++[m]):=by
 refine ⟨by have:=h.1; simp; omega,fun x hx=>?_⟩
 rcases List.mem_append.1 hx with hx | hx
 ·exact h.2 x hx
 ·rw [List.mem_singleton.1 hx]; exact hm
theorem okL.mono {n k:Nat} {xs:List Ad} (h:okL n xs) (hk:n≤k):okL k xs:=⟨Nat.le_trans h.1 hk,h.2⟩
theorem OG {n:Nat} {xs:List Ad} {m:Ad} (h:okL n xs) (hn:n≤1000):BV 88 xs [m] = some (xs++[m]):=Mc (by have:=h.1; simp; omega) (by decide)
theorem Vu {code:List U8} (H:CB code) (s1:Int×List Ad×List U8×Int) (y1:Int×Af) {n:Nat} {xs:List Ad} (hx:okL n xs) (hn:n≤100) {s:Af} {k:Nat} (hs:Src code s k) (hk:k≤900000):∃ j xs' s',Aq (H2 s1 y1) NN (1,s.Code,s.At,xs) = some (.exit 2 (j,s'.Code,s'.At,xs'))∧okL (n + 8) xs'∧Src code s' (k + 8):=by
 obtain ⟨o,h1,j,xs',s',rfl,h2,h3⟩:=BL (f:=H2 s1 y1) (fun i t=>∃ (ys:List Ad) (u:Af),t = (((1 + i:Nat):Int),u.Code,u.At,ys)∧okL (n + 2 * i) ys∧Src code u (k + 2 * i)) 4 (fun o=>∃ (j:Int) (ys:List Ad) (u:Af),o = .exit 2 (j,u.Code,u.At,ys)∧okL (n + 8) ys∧Src code u (k + 8)) (fun i t hi ht=>by
  obtain ⟨ys,u,rfl,h1,h2⟩:=ht
  unfold H2
  dsimp only
  by_cases hc:i < 4
  ·have hc':((1 + i:Nat):Int)≤4:=by omega
   have e1:wi .i64 (((1 + i:Nat):Int) + 1) = ((1 + (i + 1):Nat):Int):=by rw [Bi (by omega) (by omega)]; omega
   obtain ⟨b,s1',a1,a2⟩:=BX H h2 (by omega) (n:=8) (by omega)
   have a1:m31 (⟨u.Code,u.At⟩:Af) 8 = some (b,s1'):=a1
   obtain ⟨b2,s2',c1,c2⟩:=BX H a2 (by omega) (n:=2) (by omega)
   have c1:m31 (⟨s1'.Code,s1'.At⟩:Af) 2 = some (b2,s2'):=c1
   simp only [hc',decide_true,cond_true,a1,obs]
   have key:∀ zs:List Ad,okL (n + 2 * i + 1) zs→∀ m:Ad,AS m→∃ ws,((bif b2 then (BV 88 zs [m]).bind fun z2=>some (LO.norm (s2'.Code,s2'.At,z2)) else some (LO.norm (s2'.Code,s2'.At,zs))):Option (LO (List U8×Int×List Ad))) = some (.norm (s2'.Code,s2'.At,ws))∧okL (n + 2 * (i + 1)) ws:=fun zs hz m gm=>by
    cases b2
    ·exact ⟨zs,rfl,hz.mono (by omega)⟩
    ·simp only [cond_true,OG hz (by omega),obs]
     exact ⟨_,rfl,hz.snoc gm (by omega)⟩
   cases b
   ·simp only [Bool.not_false,cond_true,OG h1 (show n + 2 * i≤1000 by omega),obs,Ac,c1]
    obtain ⟨ws,k1,k2⟩:=key _ (h1.snoc (m:=(⟨2,0,((1 + i:Nat):Int),s1.1,wi .i64 (1 + y1.1),[],[]⟩:Ad)) ⟨Nat.zero_le _,Nat.zero_le _⟩ (Nat.le_refl _)) (⟨3,0,((1 + i:Nat):Int),s1.1,wi .i64 (1 + y1.1),[],[]⟩:Ad) ⟨Nat.zero_le _,Nat.zero_le _⟩
    rw [k1]
    simp only [obs,e1]
    exact .inl ⟨hc,_,rfl,ws,s2',rfl,k2,c2.mono (by omega)⟩
   ·simp only [Bool.not_true,cond_false,obs,Ac,c1]
    obtain ⟨ws,k1,k2⟩:=key ys (h1.mono (by omega)) (⟨3,0,((1 + i:Nat):Int),s1.1,wi .i64 (1 + y1.1),[],[]⟩:Ad) ⟨Nat.zero_le _,Nat.zero_le _⟩
    rw [k1]
    simp only [obs,e1]
    exact .inl ⟨hc,_,rfl,ws,s2',rfl,k2,c2.mono (by omega)⟩
  ·have hc':¬ ((1 + i:Nat):Int)≤4:=by omega
   simp only [hc',decide_false,cond_false]
   exact .inr (.inl ⟨_,_,rfl,_,ys,u,rfl,h1.mono (by omega),h2.mono (by omega)⟩)) NN 0 (1,s.Code,s.At,xs) (by omega) (Bq (by omega)) ⟨xs,s,rfl,hx,hs⟩
 exact ⟨j,xs',s',h1,h2,h3⟩
theorem Vt {code:List U8} (H:CB code) {s:Af} {k:Nat} (hs:Src code s k) (hk:k≤800000):∃ j xs' s',Aq IS NN (1,[],s.Code,s.At) = some (.exit 0 (j,xs',s'.Code,s'.At))∧okL 16 xs'∧Src code s' (k + 18):=by
 obtain ⟨o,h1,j,xs',s',rfl,h2,h3⟩:=BL (f:=IS) (fun i t=>∃ (ys:List Ad) (u:Af),t = (((1 + i:Nat):Int),ys,u.Code,u.At)∧okL (8 * i) ys∧Src code u (k + 9 * i)) 2 (fun o=>∃ (j:Int) (ys:List Ad) (u:Af),o = .exit 0 (j,ys,u.Code,u.At)∧okL 16 ys∧Src code u (k + 18)) (fun i t hi ht=>by
  obtain ⟨ys,u,rfl,h1,h2⟩:=ht
  unfold IS
  dsimp only
  by_cases hc:i < 2
  ·have hc':((1 + i:Nat):Int)≤2:=by omega
   have e1:wi .i64 (((1 + i:Nat):Int) + 1) = ((1 + (i + 1):Nat):Int):=by rw [Bi (by omega) (by omega)]; omega
   obtain ⟨r,s1',a1,_,a2⟩:=Bm H h2 (by omega) (n:=2) (by omega)
   have a1:m34 (⟨u.Code,u.At⟩:Af) 2 = some (r,s1'):=a1
   simp only [hc',decide_true,cond_true,a1,obs]
   obtain ⟨j,zs,s2',b1,b2,b3⟩:=Vu H ((((1 + i:Nat):Int),ys,u.Code,u.At)) (r,s1') h1 (by omega) a2 (by omega)
   have b1:Aq (H2 ((((1 + i:Nat):Int),ys,u.Code,u.At)) (r,s1')) NN (1,s1'.Code,s1'.At,ys) = some (.exit 2 (j,s2'.Code,s2'.At,zs)):=b1
   rw [b1]
   simp only [obs,Ac,if_true,e1]
   exact .inl ⟨hc,_,rfl,zs,s2',rfl,b2.mono (by omega),b3.mono (by omega)⟩
  ·have hc':¬ ((1 + i:Nat):Int)≤2:=by omega
   simp only [hc',decide_false,cond_false]
   exact .inr (.inl ⟨_,_,rfl,_,ys,u,rfl,h1.mono (by omega),h2.mono (by omega)⟩)) NN 0 (1,[],s.Code,s.At) (by omega) (Bq (by omega)) ⟨[],s,rfl,⟨by simp,fun x hx=>by cases hx⟩,hs⟩
 exact ⟨j,xs',s',h1,h2,h3⟩
theorem Vs {code:List U8} (H:CB code) {n:Nat} {xs:List Ad} (hx:okL n xs) (hn:n≤100) {s:Af} {k:Nat} (hs:Src code s k) (hk:k≤900000):∃ j xs' s',Aq IR NN (1,xs,s.Code,s.At) = some (.exit 4 (j,xs',s'.Code,s'.At))∧okL (n + 4) xs'∧Src code s' (k + 8):=by
 obtain ⟨o,h1,j,xs',s',rfl,h2,h3⟩:=BL (f:=IR) (fun i t=>∃ (ys:List Ad) (u:Af),t = (((1 + i:Nat):Int),ys,u.Code,u.At)∧okL (n + i) ys∧Src code u (k + 2 * i)) 4 (fun o=>∃ (j:Int) (ys:List Ad) (u:Af),o = .exit 4 (j,ys,u.Code,u.At)∧okL (n + 4) ys∧Src code u (k + 8)) (fun i t hi ht=>by
  obtain ⟨ys,u,rfl,h1,h2⟩:=ht
  unfold IR
  dsimp only
  by_cases hc:i < 4
  ·have hc':((1 + i:Nat):Int)≤4:=by omega
   have e1:wi .i64 (((1 + i:Nat):Int) + 1) = ((1 + (i + 1):Nat):Int):=by rw [Bi (by omega) (by omega)]; omega
   have hy:=h1.1
   obtain ⟨b,s1',a1,a2⟩:=BX H h2 (by omega) (n:=6) (by omega)
   have a1:m31 (⟨u.Code,u.At⟩:Af) 6 = some (b,s1'):=a1
   simp only [hc',decide_true,cond_true,a1,obs]
   cases b
   ·obtain ⟨b2,s2',c1,c2⟩:=BX H a2 (by omega) (n:=8) (by omega)
    have hcl:=Ec ys ((1 + i:Nat):Int) 1 30
    simp only [Bool.not_false,cond_true,MZ ys _ 1 (show ys.length≤1048576 by omega),obs,c1]
    cases b2
    ·simp only [cond_false,obs,Ac,OG h1 (show n + i≤1000 by omega),e1]
     exact .inl ⟨hc,_,rfl,_,s2',rfl,h1.snoc ⟨Nat.le_trans (Ec _ _ _ _) (by decide),Nat.zero_le _⟩ (by omega),c2.mono (by omega)⟩
    ·simp only [cond_true,Yg (k:=⟨9,0,1⟩) (show (EZ ys ((1 + i:Nat):Int) 1 30).length≤1000 by omega),obs,Ac,OG h1 (show n + i≤1000 by omega),e1]
     exact .inl ⟨hc,_,rfl,_,s2',rfl,h1.snoc ⟨by have:=Ec ys (1 + (i:Int)) 1 30; simp; omega,Nat.zero_le _⟩ (by omega),c2.mono (by omega)⟩
   ·simp only [Bool.not_true,cond_false,obs,Ac,e1]
    exact .inl ⟨hc,_,rfl,ys,s1',rfl,h1.mono (by omega),a2.mono (by omega)⟩
  ·have hc':¬ ((1 + i:Nat):Int)≤4:=by omega
   simp only [hc',decide_false,cond_false]
   exact .inr (.inl ⟨_,_,rfl,_,ys,u,rfl,h1.mono (by omega),h2.mono (by omega)⟩)) NN 0 (1,xs,s.Code,s.At) (by omega) (Bq (by omega)) ⟨xs,s,rfl,hx,hs⟩
 exact ⟨j,xs',s',h1,h2,h3⟩
theorem Vr (t:Int×List Ad×List U8×Int) (n a:Nat) (h:t.2.1.length = n) (hn:n≤1000) (ha:a≤1000):∃ j rs,Aq (IQ t) NN ((a:Int),[]) = some (.exit 6 (j,rs))∧rs.length≤1000:=by
 obtain ⟨o,h1,j,rs,rfl,h2⟩:=BL (f:=IQ t) (fun i u=>∃ (rs:List Int),u = (((a + i:Nat):Int),rs)∧rs.length≤i) 1000 (fun o=>∃ (j:Int) (rs:List Int),o = .exit 6 (j,rs)∧rs.length≤1000) (fun i u hi ht=>by
  obtain ⟨rs,rfl,h1⟩:=ht
  unfold IQ
  dsimp only
  by_cases hc:a + i < n
  ·have hc':((a + i:Nat):Int) < (t.2.1.length:Int):=by omega
   have e1:wi .i64 (((a + i:Nat):Int) + 1) = ((a + (i + 1):Nat):Int):=by rw [Bi (by omega) (by omega)]; omega
   simp only [hc',decide_true,cond_true,Mc (show rs.length + [((a + i:Nat):Int)].length≤2097152 by simp; omega) (show 8≤1000 by decide),obs,e1]
   exact .inl ⟨by omega,_,rfl,_,rfl,by simp; omega⟩
  ·have hc':¬ ((a + i:Nat):Int) < (t.2.1.length:Int):=by omega
   simp only [hc',decide_false,cond_false]
   exact .inr (.inl ⟨_,_,rfl,_,rs,rfl,by omega⟩)) NN 0 ((a:Int),[]) (by omega) (Bq (by omega)) ⟨[],rfl,by simp⟩
 exact ⟨j,rs,h1,h2⟩
theorem Vq {code:List U8} (H:CB code) {n:Nat} {xs:List Ad} (hx:okL n xs) (hn:n≤100) {s:Af} {k:Nat} (hs:Src code s k) (hk:k≤900000):∃ j xs' s',Aq IP NN (1,xs,s.Code,s.At) = some (.exit 8 (j,xs',s'.Code,s'.At))∧okL (n + 3) xs'∧Src code s' (k + 9):=by
 obtain ⟨o,h1,j,xs',s',rfl,h2,h3⟩:=BL (f:=IP) (fun i t=>∃ (ys:List Ad) (u:Af),t = (((1 + i:Nat):Int),ys,u.Code,u.At)∧okL (n + i) ys∧Src code u (k + 3 * i)) 3 (fun o=>∃ (j:Int) (ys:List Ad) (u:Af),o = .exit 8 (j,ys,u.Code,u.At)∧okL (n + 3) ys∧Src code u (k + 9)) (fun i t hi ht=>by
  obtain ⟨ys,u,rfl,h1,h2⟩:=ht
  unfold IP
  dsimp only
  by_cases hc:i < 3
  ·have hc':((1 + i:Nat):Int)≤3:=by omega
   have e1:wi .i64 (((1 + i:Nat):Int) + 1) = ((1 + (i + 1):Nat):Int):=by rw [Bi (by omega) (by omega)]; omega
   obtain ⟨r1,s1',a1,a2⟩:=BC H h2 (by omega) (l:=[1,1,0]) (by simp)
   have a1:m21 (⟨u.Code,u.At⟩:Af) [1,1,0] = some (r1,s1'):=a1
   obtain ⟨r2,s2',b1,b2⟩:=BC H a2 (by omega) (l:=[2,2,1]) (by simp)
   obtain ⟨r3,s3',c1,_,c2⟩:=Bm H b2 (by omega) (n:=3) (by omega)
   simp only [hc',decide_true,cond_true,a1,b1,c1,obs,OG h1 (show n + i≤1000 by omega),e1]
   exact .inl ⟨hc,_,rfl,_,s3',rfl,h1.snoc ⟨Nat.zero_le _,Nat.zero_le _⟩ (by omega),c2.mono (by omega)⟩
  ·have hc':¬ ((1 + i:Nat):Int)≤3:=by omega
   simp only [hc',decide_false,cond_false]
   exact .inr (.inl ⟨_,_,rfl,_,ys,u,rfl,h1.mono (by omega),h2.mono (by omega)⟩)) NN 0 (1,xs,s.Code,s.At) (by omega) (Bq (by omega)) ⟨xs,s,rfl,hx,hs⟩
 exact ⟨j,xs',s',h1,h2,h3⟩
theorem OO {code:List U8} (H:CB code) {s:Af} {k:Nat} (hs:Src code s k) (hk:k≤1000):∃ xs s',m69 s = some (xs,s')∧okL 24 xs∧Src code s' (k + 36):=by
 obtain ⟨j1,x1,s1,a1,a2,a3⟩:=Vt H hs (by omega)
 obtain ⟨j2,x2,s2,b1,b2,b3⟩:=Vs H a2 (by omega) a3 (by omega)
 obtain ⟨r,s3,c1,c2⟩:=BC H b3 (by omega) (l:=[2,2,2,1]) (by simp)
 have c1:m21 (⟨s2.Code,s2.At⟩:Af) [2,2,2,1] = some (r,s3):=c1
 have q1:=a2.1
 have q2:=b2.1
 obtain ⟨j3,rs,d1,d2⟩:=Vr (j2,x2,s2.Code,s2.At) x2.length x1.length rfl (by omega) (by omega)
 have gm:AS (⟨5,1,r,0,0,[],rs⟩:Ad):=⟨Nat.zero_le _,by show rs.length≤_; omega⟩
 obtain ⟨j4,x4,s4,f1,f2,f3⟩:=Vq H (b2.snoc gm (Nat.le_refl _)) (by omega) c2 (by omega)
 unfold m69
 rw [a1]
 simp only [obs,Ac,if_true,b1,c1,d1,OG b2 (show 16 + 4≤1000 by decide),f1]
 exact ⟨x4,s4,rfl,f2.mono (by omega),f3.mono (by omega)⟩
theorem Ob {code:List U8} (H:CB code) {s:Af} {k:Nat} (hs:Src code s k) (hk:k≤500):∃ xs s',m39 s = some (xs,s')∧okL 241 xs∧Src code s' (k + 427):=by
 obtain ⟨b,s1,a1,a2⟩:=BX H hs (by omega) (n:=10) (by omega)
 unfold m39
 rw [a1,obs]
 cases b
 ·obtain ⟨xs,s2,b1,b2,b3⟩:=OO H a2 (by omega)
  simp only [cond_false,b1,obs]
  exact ⟨xs,s2,rfl,b2.mono (by omega),b3.mono (by omega)⟩
 ·obtain ⟨xs,s2,b1,⟨b2,b4⟩,b3⟩:=ON H a2 (by omega)
  simp only [cond_true,b1,obs]
  exact ⟨xs,s2,rfl,⟨b2,fun x hx=>(b4 x hx).good⟩,b3.mono (by omega)⟩
theorem Lt {code:List U8} (H:CB code) {xs:List Ad} (hx:xs.length≤1000) (kd:Int) {s:Af} {k:Nat} (hs:Src code s k) (hk:k≤900000):∃ i s',m19 s xs kd = some (i,s')∧Src code s' (k + 2):=by
 obtain ⟨o,h1,j,rs,rfl,h2⟩:=BL (f:=KF xs kd) (fun i t=>∃ (rs:List Int),t = ((i:Int),rs)∧rs.length≤i) xs.length (fun o=>∃ (j:Int) (rs:List Int),o = .exit 0 (j,rs)∧rs.length≤1000) (fun i t hi ht=>by
  obtain ⟨rs,rfl,h1⟩:=ht
  unfold KF
  dsimp only
  by_cases hc:i < xs.length
  ·have hc':(i:Int) < (xs.length:Int):=by omega
   have e1:wi .i64 ((i:Int) + 1) = ((i + 1:Nat):Int):=wi1 (by omega)
   simp only [hc',decide_true,cond_true,Bn hc,obs]
   cases xs[i].Kind == kd
   ·simp only [cond_false,obs,Ac,e1]
    exact .inl ⟨hc,_,rfl,rs,rfl,by omega⟩
   ·simp only [cond_true,Mc (show rs.length + [(i:Int)].length≤2097152 by simp; omega) (show 8≤1000 by decide),obs,Ac,e1]
    exact .inl ⟨hc,_,rfl,_,rfl,by simp; omega⟩
  ·have hc':¬ (i:Int) < (xs.length:Int):=by omega
   simp only [hc',decide_false,cond_false]
   exact .inr (.inl ⟨_,_,rfl,_,rs,rfl,by omega⟩)) NN 0 (0,[]) (by omega) (Bq (by omega)) ⟨[],rfl,by simp⟩
 unfold m19
 rw [h1]
 simp only [obs,Ac,if_true]
 cases hr:((rs.length:Int) == 0)
 rotate_left
 ·obtain ⟨r,s1,a1,_,a2⟩:=Bm H hs (by omega) (n:=30) (by omega)
  simp only [cond_true,a1,obs]
  exact ⟨_,s1,rfl,a2.mono (by omega)⟩
 have hp:(rs.length:Int)≠0:=by simpa using hr
 obtain ⟨b,s1,a1,a2⟩:=BX H hs (by omega) (n:=8) (by omega)
 simp only [cond_false,a1,obs]
 cases b
 ·obtain ⟨r,s2,b1,⟨b3,b4⟩,b2⟩:=Bm H a2 (by omega) (n:=(rs.length:Int)) (by omega)
  have b1:m34 (⟨s1.Code,s1.At⟩:Af) (rs.length:Int) = some (r,s2):=b1
  have hi:r.toNat < rs.length:=by omega
  have hg:Am rs r = some rs[r.toNat]:=by
   unfold Am
   rw [if_pos b3,List.getElem?_eq_getElem hi]
  simp only [cond_false,obs,Ac,b1,hg]
  exact ⟨_,s2,rfl,b2.mono (by omega)⟩
 ·obtain ⟨r,s2,b1,_,b2⟩:=Bm H a2 (by omega) (n:=30) (by omega)
  simp only [cond_true,b1,obs,Ac]
  exact ⟨_,s2,rfl,b2⟩
open Go Go.Rf
theorem VB {code:List U8} (H:CB code) {xs:List Ad} (hx:xs.length≤1000) {s:Af} {k:Nat} (hs:Src code s k) (hk:k≤1000):∃ r s',m40 s xs = some (r,s'):=by
 obtain ⟨r1,s1,a1,_,a2⟩:=Bm H hs (by omega) (n:=4) (by omega)
 obtain ⟨r2,s2,b1,_,b2⟩:=Bm H a2 (by omega) (n:=2) (by omega)
 obtain ⟨r3,s3,c1,c2⟩:=BC H b2 (by omega) (l:=[0,0,0,1,30]) (by simp)
 unfold m40
 simp only [a1,b1,c1,obs]
 have key:∀ (st:Int) (u:Af) (k':Nat),Src code u k'→k'≤2000→∃ (q:Int×Int×Int×List U8×Int),((m34 (⟨u.Code,u.At⟩:Af) 14).bind fun y6=>
  bif y6.1 == 0 then
  (m21 y6.2 [0,8,2]).bind fun y7=>
  some (LO.norm (y7.1,r2,st,y7.2.Code,y7.2.At))
  else
  bif y6.1 == 1 then
   (m21 y6.2 [(-1),21,2]).bind fun y8=>
   some (LO.norm (wi .i64 (1 + r1),y8.1,st,y8.2.Code,y8.2.At))
  else
   bif y6.1 == 2 then
   (m21 y6.2 [0,3]).bind fun y9=>
   some (LO.norm (wi .i64 (1 + r1),r2,y9.1,y9.2.Code,y9.2.At))
   else
   some (LO.norm (wi .i64 (1 + r1),r2,st,y6.2.Code,y6.2.At))) = some (.norm q):=fun st u k' hu hk'=>by
  obtain ⟨r6,s6,d1,_,d2⟩:=Bm H hu (by omega) (n:=14) (by omega)
  have d1:m34 (⟨u.Code,u.At⟩:Af) 14 = some (r6,s6):=d1
  obtain ⟨p1,t1,e1,_⟩:=BC H d2 (by omega) (l:=[0,8,2]) (by simp)
  obtain ⟨p2,t2,e2,_⟩:=BC H d2 (by omega) (l:=[-1,21,2]) (by simp)
  obtain ⟨p3,t3,e3,_⟩:=BC H d2 (by omega) (l:=[0,3]) (by simp)
  simp only [d1,e1,e2,e3,obs]
  cases r6 == 0
  rotate_left
  ·exact ⟨_,rfl⟩
  cases r6 == 1
  rotate_left
  ·exact ⟨_,rfl⟩
  cases r6 == 2
  rotate_left
  ·exact ⟨_,rfl⟩
  ·exact ⟨_,rfl⟩
 have fin:∀ (o:Option (LO (Int×List U8×Int))),(∃ (st:Int) (u:Af) (k':Nat),o = some (.norm (st,u.Code,u.At))∧Src code u k'∧k'≤2000)→∃ r s',(o.bind (Ac (fun s2=>
 (
  (m34 (⟨s2.2.1,s2.2.2⟩:Af) 14).bind fun y6=>
  bif y6.1 == 0 then
  (m21 y6.2 [0,8,2]).bind fun y7=>
  some (LO.norm (y7.1,r2,s2.1,y7.2.Code,y7.2.At))
  else
  bif y6.1 == 1 then
   (m21 y6.2 [(-1),21,2]).bind fun y8=>
   some (LO.norm (wi .i64 (1 + r1),y8.1,s2.1,y8.2.Code,y8.2.At))
  else
   bif y6.1 == 2 then
   (m21 y6.2 [0,3]).bind fun y9=>
   some (LO.norm (wi .i64 (1 + r1),r2,y9.1,y9.2.Code,y9.2.At))
   else
   some (LO.norm (wi .i64 (1 + r1),r2,s2.1,y6.2.Code,y6.2.At))).bind (Ac (fun s4=>
  some ((⟨s4.1,s4.2.1,s4.2.2.1,r3⟩:Aj),(⟨s4.2.2.2.1,s4.2.2.2.2⟩:Af))) (fun i2 s4=>
  none) (fun s4=>
  some ((⟨0,0,0,0⟩:Aj),(⟨s4.2.2.2.1,s4.2.2.2.2⟩:Af))))) (fun i1 s2=>
 none) (fun s2=>
 some ((⟨0,0,0,0⟩:Aj),(⟨s2.2.1,s2.2.2⟩:Af))))) = some (r,s'):=by
  rintro _ ⟨st,u,k',rfl,hu,hk'⟩
  obtain ⟨q,hq⟩:=key st u k' hu hk'
  simp only [obs,Ac]
  rw [hq]
  exact ⟨_,_,rfl⟩
 apply fin
 cases decide (r2 > 0)
 ·exact ⟨_,s3,_,rfl,c2,by omega⟩
 ·obtain ⟨b,s4,d1,d2⟩:=BX H c2 (by omega) (n:=4) (by omega)
  simp only [cond_true,d1,obs]
  cases b
  ·obtain ⟨i,s5,f1,f2⟩:=Lt H hx 5 d2 (by omega)
   simp only [Bool.not_false,cond_true,f1,obs]
   exact ⟨_,s5,_,rfl,f2,by omega⟩
  ·exact ⟨_,s4,_,rfl,d2,by omega⟩
theorem Kx {code:List U8} (H:CB code):∃ f xs r,m17 code = some (f,xs,r)∧okL 241 xs:=by
 have h0:Src code (⟨code,0⟩:Af) 0:=⟨rfl,Int.le_refl _,Int.le_refl _⟩
 obtain ⟨r1,s1,a1,a2⟩:=BC H h0 (by omega) (l:=[1,1,1,1,2,0,1,1,3]) (by simp)
 obtain ⟨r2,s2,b1,b2⟩:=BC H a2 (by omega) (l:=[1,1,1,1,1,1,r1]) (by simp)
 obtain ⟨xs,s3,c1,c2,c3⟩:=Ob H b2 (by omega)
 obtain ⟨r,s4,d1⟩:=VB H (xs:=xs) (by have:=c2.1; omega) c3 (by omega)
 unfold m17
 rw [show m37 code = some (⟨code,0⟩:Af) from rfl,obs,show m38 (⟨code,0⟩:Af) = some (r1,s1) from by unfold m38; rw [a1]; rfl]
 simp only [obs,b1,c1,d1]
 exact ⟨_,_,_,rfl,c2⟩
theorem Ja (code:List U8):∃ s,m18 code 3 = some s∧Src code s 26:=⟨_,rfl,rfl,(by decide:(0:Int)≤wi .i64 (5 + wi .i64 (7 * 3))),(by decide:wi .i64 (5 + wi .i64 (7 * 3))≤((26:Nat):Int))⟩
theorem Xl {code:List U8} (H:CB code):∃ f xs r i,m5 code = some (f,xs,r,i)∧okL 241 xs:=by
 obtain ⟨f,xs,r,a1,a2⟩:=Kx H
 obtain ⟨s,b1,b2⟩:=Ja code
 obtain ⟨i,s',c1,_⟩:=Lt H (xs:=xs) (by have:=a2.1; omega) 1 b2 (by omega)
 unfold m5
 simp only [a1,b1,c1,obs]
 exact ⟨_,_,_,_,rfl,a2⟩
theorem Xm {code:List U8} (H:CB code):∃ f xs r i v,m7 code = some (f,xs,r,i,v)∧okL 241 xs:=by
 obtain ⟨f,xs,r,a1,a2⟩:=Kx H
 obtain ⟨s,b1,b2⟩:=Ja code
 obtain ⟨i,s1,c1,c2⟩:=BC H b2 (by omega) (l:=[1,2,1,2,31]) (by simp)
 obtain ⟨v,s2,d1,d2⟩:=BC H c2 (by omega) (l:=[1,2,1,2,0]) (by simp)
 unfold m7
 simp only [a1,b1,c1,d1,obs]
 exact ⟨_,_,_,_,_,rfl,a2⟩
theorem Xk {code:List U8} (H:CB code):∃ f xs r i v,m14 code = some (f,xs,r,i,v)∧okL 241 xs:=by
 obtain ⟨f,xs,r,a1,a2⟩:=Kx H
 obtain ⟨s,b1,b2⟩:=Ja code
 obtain ⟨b,s1,c1,c2⟩:=BX H b2 (by omega) (n:=2) (by omega)
 obtain ⟨i,s2,d1,d2⟩:=BC H c2 (by omega) (l:=[1,2,3,4,0]) (by simp)
 have d1:m21 (⟨s1.Code,s1.At⟩:Af) [1,2,3,4,0] = some (i,s2):=d1
 obtain ⟨v,s3,f1,_,f2⟩:=Bm H d2 (by omega) (n:=4) (by omega)
 unfold m14
 simp only [a1,b1,c1,obs]
 cases b
 ·simp only [cond_false,obs,Ac,d1,f1]
  exact ⟨_,_,_,_,_,rfl,a2⟩
 ·simp only [cond_true,FK (show (1:Int)≤1∧(1:Int)≤2 by omega),obs,Ac,d1,f1]
  exact ⟨_,_,_,_,_,rfl,a2⟩
theorem TO (code:List U8) (h:∀ x∈code,0≤x.v∧x.v≤255):m3 code = some true:=by
 unfold m3 m4
 by_cases hl:(code.length:Int) > 1048576
 ·simp only [hl,decide_true,cond_true]
 have H:CB code:=⟨by omega,h⟩
 obtain ⟨f,xs,r,i,a1,a2,a3⟩:=Xl H
 obtain ⟨f2,x2,r2,i2,v2,b1,b2,b3⟩:=Xm H
 obtain ⟨f3,x3,r3,i3,v3,c1,c2,c3⟩:=Xk H
 obtain ⟨k1,p1,p2,p3⟩:=TP (f:=f) (xs:=xs) (by omega) a3 r i
 obtain ⟨k2,q1,q2,q3⟩:=Wa (f:=f2) (xs:=x2) (by omega) b3 r2 i2 v2
 obtain ⟨k3,t1,t2⟩:=VZ (f:=f3) (xs:=x3) (by omega) c3 r3 i3 v3
 simp only [hl,decide_false,cond_false,a1,b1,c1,p1,p2,q1,q2,t1,t2,obs,bne_self_eq_false,Ac,beq_self_eq_true]
 have tail:(((bif k2 == 0 then
   (m13 f2 x2 (⟨i2,r2.View,v2⟩:Ar)).bind fun y9=>
   bif !y9 then
    some (LO.ret false)
   else
    some (LO.norm false)
   else
   some (LO.norm false)):Option (LO Bool))) = some (.norm false):=by
  by_cases hk:k2 = 0
  ·rw [q3 hk,hk]; rfl
  ·have e:(k2 == 0) = false:=by simpa using hk
   rw [e]; rfl
 by_cases hk:k1 = 0
 ·obtain ⟨m,g1,g2,g3,g4⟩:=p3 hk
  have e:(m.View != r.View) = false:=by rw [g3]; exact bne_self_eq_false _
  simp only [hk,beq_self_eq_true,cond_true,g1,g2,g4,e,obs,Bool.not_true,cond_false,Ac,bne_self_eq_false,tail]
 ·have e:(k1 == 0) = false:=by simpa using hk
  simp only [e,cond_false,obs,Ac,tail]
end Go.Proofs.YtgjljhchmokhfaaGreat
