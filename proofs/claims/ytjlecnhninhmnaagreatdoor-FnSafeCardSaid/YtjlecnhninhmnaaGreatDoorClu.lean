/- Clusters: what is needed first. -/
import Derived.Test.YtjlecnhninhmnaaGreatDoorSort
import Derived.Test.YtjlecnhninhmnaaGreatDoorRh6
namespace Go.Proofs.YtjlecnhninhmnaaGreatDoor
open Go Go.Rf
set_option linter.unusedVariables false
set_option linter.unusedSimpArgs false
theorem Bo {n:Nat} (h:n≤1048576):n < NN:=by rw [ND]; omega
def Ba (m:Ah):Prop:=m.Certs.length≤1048576∧m.Refs.length≤1048576
def IO (r:Ag):Prop:=r.Ops.length≤1048576
structure EX (c:Aa):Prop where
 bad:c.Bad.length≤1048576
 rep:c.Replicas.length≤1048576
 led:c.Ledger.length≤1048576
 msg:∀ m∈c.Ledger,Ba m
 req:c.Requests.length≤1048576
 ops:∀ r∈c.Requests,IO r
theorem C7 {n:Nat} (h:n≤1048576):n≤big:=by unfold big; omega
open Go Go.Rf
def inR (n lo hi:Int):Bool:=decide (lo≤n∧n≤hi)
theorem in1 (n lo hi:Int):Dm n lo hi = inR n lo hi:=by
 unfold Dm inR
 by_cases h:n ≥ lo
 ·simp [h]
 ·simp [h]
theorem in2 (n lo hi:Int):m63 n lo hi = inR n lo hi:=in1 n lo hi
theorem K8 (k:Int):m25 k = inR k 1 3:=in1 _ _ _
theorem JS (k:Int):m97 k = inR k 0 20:=in1 _ _ _
theorem It (k:Int):Po k = inR k 1 30:=in1 _ _ _
theorem GP (k:Int):Pn k = inR k 0 12:=in1 _ _ _
def BG (f:Int):Int:=wi .i64 ((wi .i64 (3 * f)) + 1)
theorem Zc (f:Int):m75 f = BG f:=rfl
theorem Iy (f k:Int):m96 f k = inR k 1 (BG f):=in1 _ _ _
theorem X1 (f k:Int):Us f k = inR k 1 (BG f):=in1 _ _ _
theorem Vb (a b c d e f g h:Bool):(bif !a then
    some (LO.norm true)
   else
    bif !b then
     bif c then
      some (LO.norm true)
     else
      bif d then
       some (LO.norm true)
      else
       bif e then
        bif f then
         some (LO.norm true)
        else
         bif g then
          some (LO.norm h)
         else
          some (LO.norm false)
       else
        bif g then
         some (LO.norm h)
        else
         some (LO.norm false)
    else
     bif e then
      bif f then
       some (LO.norm true)
      else
       bif g then
        some (LO.norm h)
       else
        some (LO.norm false)
     else
      bif g then
       some (LO.norm h)
      else
       some (LO.norm false)) = some (LO.norm (!((a && (b || (!c && !d))) && ((!e || !f) && (!g || !h))))):=by
 cases a <;> cases b <;> cases c <;> cases d <;> cases e <;> cases f <;> cases g <;> cases h <;> rfl
theorem Va (a b c d e f g h:Bool):(bif a then
   bif b then
    bif e then
     bif g then
      some (LO.norm true)
     else
      some (LO.norm h)
    else
     bif f then
      bif g then
       some (LO.norm true)
      else
       some (LO.norm h)
     else
      some (LO.norm false)
   else
    bif c then
     bif d then
      bif e then
       bif g then
        some (LO.norm true)
       else
        some (LO.norm h)
      else
       bif f then
        bif g then
         some (LO.norm true)
        else
         some (LO.norm h)
       else
        some (LO.norm false)
     else
      some (LO.norm false)
    else
     some (LO.norm false)
  else
   some (LO.norm false)) = some (LO.norm ((a && (b || (c && d))) && ((e || f) && (g || h)))):=by
 cases a <;> cases b <;> cases c <;> cases d <;> cases e <;> cases f <;> cases g <;> cases h <;> rfl
theorem UZ (a b c d e:Bool):(bif !a then
      some (LO.norm true)
     else
      bif !b then
       some (LO.norm true)
      else
       bif c then
        bif !d then
         some (LO.norm true)
        else
         some (LO.norm (!e))
       else
        some (LO.norm false)) = some (LO.norm (!a || (!b || (c && (!d || !e))))):=by
 cases a <;> cases b <;> cases c <;> cases d <;> cases e <;> rfl
theorem Gj (a b c:Bool):(bif !a then
     some (LO.norm true)
    else
     bif !b then
      some (LO.norm true)
     else
      some (LO.norm (!c))) = some (LO.norm (!a || (!b || !c))):=by
 cases a <;> cases b <;> cases c <;> rfl
def GG (m:Ah):Bool:=(inR m.Kind 1 5 && (inR m.Kind 1 3 || ((m.Slot == 0) && (m.Value == 0)))) && (((m.Kind == 4) || ((m.Certs.length:Int) == 0)) && ((m.Kind == 5) || ((m.Refs.length:Int) == 0)))
def ED (f:Int) (m:Ah):Bool:=!inR m.View 0 20 || (!inR m.From 1 (BG f) || (inR m.Kind 1 3 && (!inR m.Slot 1 30 || !inR m.Value 0 12)))
def CM (v:Int) (c:AE):Bool:=!inR c.Slot 1 30 || (!inR c.View 0 (wi .i64 (v - 1)) || !inR c.Value 0 12)
def Dp (xs:List Int) (i:Nat):Bool:=decide (0 < i) && decide (A xs i≤A xs (i - 1))
def DI (xs:List Int):Bool:=(BQ (Dp xs) xs.length).isNone
def DX (r:Int):Bool:=!inR r 0 239
noncomputable def CB (f:Int) (m:Ah):Int:=bif GG m then bif ED f m then 3 else bif decide ((m.Certs.length:Int) > 30) then 2 else bif decide ((m.Refs.length:Int) > BG f) then 2 else bif DI (m.Certs.map (·.Slot)) then bif DI m.Refs then bif m.Certs.any (CM m.View) then 3 else bif m.Refs.any DX then 3 else 0 else 1 else 1 else 1
theorem JL {α:Type} {g:α→Int} {cs:List α} {i:Nat} (h:i < cs.length):A (cs.map g) i = g cs[i]:=by simp [A,h]
theorem Ht {i:Nat} (h0:0 < i) (h:i≤big):wi .i64 ((i:Int) - 1) = ((i - 1:Nat):Int):=by
 unfold big at h
 rw [Dt (by omega) (by omega)]; omega
theorem Nq {p:Nat→Bool} (n:Nat) (h0:p 0 = false):(BQ (fun i=>p (i + 1)) (n - 1)).isNone = (BQ p n).isNone:=by
 rw [Bool.eq_iff_iff,Option.isNone_iff_eq_none,Option.isNone_iff_eq_none,IP,IP]
 constructor
 ·intro h j hj
  cases j with
  | zero=>exact h0
  | succ j=>exact h j (by omega)
 ·intro h j hj; exact h (j + 1) (by omega)
theorem FW {β:Type} {x:Option Nat} {out:Nat→β} {fin:β} (h:x.isNone = true):orF x out fin = fin:=by
 cases x
 ·rfl
 ·cases h
theorem FV {β:Type} {x:Option Nat} {out:Nat→β} {fin:β} (h:x.isNone = false):∃ i,orF x out fin = out i:=by
 cases x
 ·cases h
 ·exact ⟨_,rfl⟩
theorem dR (m:Ah) (hg:Ba m) (s:Int):∃ j,Ax (HZ m) NN (s,0) = some (bif DI (m.Certs.map (·.Slot)) then .exit 1 (s,j) else .ret (1,j)):=by
 rw [AI (f:=HZ m) (s0:=(s,0)) (fun i=>(s,(i:Int))) m.Certs.length (Dp (m.Certs.map (·.Slot))) (fun i=>.ret (1,(i:Int))) (.exit 1 (s,(m.Certs.length:Int))) (fun i hi _ hp=>?_) (fun i hi _ hp=>?_) (fun _=>?_) (Bo hg.1) rfl]
 ·unfold DI
  rw [List.length_map]
  cases h:(BQ (Dp (m.Certs.map (·.Slot))) m.Certs.length).isNone
  ·obtain ⟨i,hi⟩:=FV (out:=fun i=>LO.ret ((1:Int),(i:Int))) (fin:=.exit 1 (s,(m.Certs.length:Int))) h
   exact ⟨_,by rw [hi]; rfl⟩
  ·exact ⟨_,by rw [FW h]; rfl⟩
 ·have hc':(i:Int) < (m.Certs.length:Int):=by omega
  have hb:i≤big:=Nat.le_trans (Nat.le_of_lt hi) (C7 hg.1)
  unfold HZ
  simp only [hc',decide_true,cond_true,AZ hi,obs]
  by_cases h0:0 < i
  ·have h0':(i:Int) > 0:=by omega
   unfold Dp at hp
   rw [JL hi,JL (show i - 1 < m.Certs.length by omega),decide_eq_true h0,Bool.true_and] at hp
   simp only [h0',decide_true,cond_true,Ht h0 hb,AZ (show i - 1 < m.Certs.length by omega),obs,hp,cond_false,Ai,wi1 hb]
  ·have h0':¬ (i:Int) > 0:=by omega
   simp only [h0',decide_false,cond_false,obs,Ai,wi1 hb]
 ·have hc':(i:Int) < (m.Certs.length:Int):=by omega
  have hb:i≤big:=Nat.le_trans (Nat.le_of_lt hi) (C7 hg.1)
  unfold HZ
  unfold Dp at hp
  rw [Bool.and_eq_true,JL hi,JL (show i - 1 < m.Certs.length by omega)] at hp
  have h0:0 < i:=of_decide_eq_true hp.1
  have h0':(i:Int) > 0:=by omega
  simp only [hc',decide_true,cond_true,AZ hi,obs,h0',Ht h0 hb,AZ (show i - 1 < m.Certs.length by omega),hp.2,Ai]
  exact ⟨trivial,rfl⟩
 ·unfold HZ
  simp only [Int.lt_irrefl,decide_false,cond_false]
  exact ⟨trivial,rfl⟩
theorem dP (m:Ah) (hg:Ba m) (s:Int):∃ j,Ax (HY m) NN (s,0) = some (bif DI m.Refs then .exit 3 (s,j) else .ret (1,j)):=by
 rw [AI (f:=HY m) (s0:=(s,0)) (fun i=>(s,(i:Int))) m.Refs.length (Dp m.Refs) (fun i=>.ret (1,(i:Int))) (.exit 3 (s,(m.Refs.length:Int))) (fun i hi _ hp=>?_) (fun i hi _ hp=>?_) (fun _=>?_) (Bo hg.2) rfl]
 ·unfold DI
  cases h:(BQ (Dp m.Refs) m.Refs.length).isNone
  ·obtain ⟨i,hi⟩:=FV (out:=fun i=>LO.ret ((1:Int),(i:Int))) (fin:=.exit 3 (s,(m.Refs.length:Int))) h
   exact ⟨_,by rw [hi]; rfl⟩
  ·exact ⟨_,by rw [FW h]; rfl⟩
 ·have hc':(i:Int) < (m.Refs.length:Int):=by omega
  have hb:i≤big:=Nat.le_trans (Nat.le_of_lt hi) (C7 hg.2)
  unfold HY
  simp only [hc',decide_true,cond_true,AZ hi,obs]
  by_cases h0:0 < i
  ·have h0':(i:Int) > 0:=by omega
   unfold Dp at hp
   rw [Eg hi,Eg (show i - 1 < m.Refs.length by omega),decide_eq_true h0,Bool.true_and] at hp
   simp only [h0',decide_true,cond_true,Ht h0 hb,AZ (show i - 1 < m.Refs.length by omega),obs,hp,cond_false,Ai,wi1 hb]
  ·have h0':¬ (i:Int) > 0:=by omega
   simp only [h0',decide_false,cond_false,obs,Ai,wi1 hb]
 ·have hc':(i:Int) < (m.Refs.length:Int):=by omega
  have hb:i≤big:=Nat.le_trans (Nat.le_of_lt hi) (C7 hg.2)
  unfold HY
  unfold Dp at hp
  rw [Bool.and_eq_true,Eg hi,Eg (show i - 1 < m.Refs.length by omega)] at hp
  have h0:0 < i:=of_decide_eq_true hp.1
  have h0':(i:Int) > 0:=by omega
  simp only [hc',decide_true,cond_true,AZ hi,obs,h0',Ht h0 hb,AZ (show i - 1 < m.Refs.length by omega),hp.2,Ai]
  exact ⟨trivial,rfl⟩
 ·unfold HY
  simp only [Int.lt_irrefl,decide_false,cond_false]
  exact ⟨trivial,rfl⟩
theorem UM {i:Nat} (h:i≤1048576):wi .i64 ((i:Int) + 1 + 1) = ((i + 1:Nat):Int) + 1:=by rw [Dt (by omega) (by omega)]; omega
theorem JR {i:Nat} (h:i≤1048576):wi .i64 ((i:Int) + 1 - 1) = (i:Int):=by rw [Dt (by omega) (by omega)]; omega
theorem dQ (m:Ah) (hg:Ba m) (s:Int):∃ j,Ax (G1 m) NN (s,1) = some (bif DI (m.Certs.map (·.Slot)) then .exit 0 (s,j) else .ret (1,j)):=by
 have hg1:=hg.1
 rw [AI (f:=G1 m) (s0:=(s,1)) (fun i=>(s,(i:Int) + 1)) (m.Certs.length - 1) (fun i=>Dp (m.Certs.map (·.Slot)) (i + 1)) (fun i=>.ret (1,(i:Int) + 1)) (.exit 0 (s,((m.Certs.length - 1:Nat):Int) + 1)) (fun i hi _ hp=>?_) (fun i hi _ hp=>?_) (fun _=>?_) (Bo (by omega)) rfl]
 ·unfold DI
  rw [List.length_map,← Nq m.Certs.length (p:=Dp (m.Certs.map (·.Slot))) (by simp [Dp])]
  cases h:(BQ (fun i=>Dp (m.Certs.map (·.Slot)) (i + 1)) (m.Certs.length - 1)).isNone
  ·obtain ⟨i,hi⟩:=FV (out:=fun i=>LO.ret ((1:Int),(i:Int) + 1)) (fin:=.exit 0 (s,((m.Certs.length - 1:Nat):Int) + 1)) h
   exact ⟨_,by rw [hi]; rfl⟩
  ·exact ⟨_,by rw [FW h]; rfl⟩
 ·have hc':(i:Int) + 1 < (m.Certs.length:Int):=by omega
  have h1:i + 1 < m.Certs.length:=by omega
  have g1:Aq m.Certs ((i:Int) + 1) = some m.Certs[i + 1]:=AZ (i:=i + 1) h1
  unfold G1
  unfold Dp at hp
  rw [JL h1,JL (show i + 1 - 1 < m.Certs.length by omega)] at hp
  simp only [Nat.add_sub_cancel,Nat.zero_lt_succ,decide_true,Bool.true_and] at hp
  simp only [hc',decide_true,cond_true,g1,JR (show i≤1048576 by omega),AZ (show i < m.Certs.length by omega),obs,hp,cond_false,UM (show i≤1048576 by omega)]
 ·have hc':(i:Int) + 1 < (m.Certs.length:Int):=by omega
  have h1:i + 1 < m.Certs.length:=by omega
  have g1:Aq m.Certs ((i:Int) + 1) = some m.Certs[i + 1]:=AZ (i:=i + 1) h1
  unfold G1
  unfold Dp at hp
  rw [JL h1,JL (show i + 1 - 1 < m.Certs.length by omega)] at hp
  simp only [Nat.add_sub_cancel,Nat.zero_lt_succ,decide_true,Bool.true_and] at hp
  simp only [hc',decide_true,cond_true,g1,JR (show i≤1048576 by omega),AZ (show i < m.Certs.length by omega),obs,hp]
  exact ⟨trivial,rfl⟩
 ·have hc':¬ (((m.Certs.length - 1:Nat):Int) + 1 < (m.Certs.length:Int)):=by omega
  unfold G1
  simp only [hc',decide_false,cond_false]
  exact ⟨trivial,rfl⟩
theorem dO (m:Ah) (hg:Ba m) (s:Int):∃ j,Ax (G0 m) NN (s,1) = some (bif DI m.Refs then .exit 2 (s,j) else .ret (1,j)):=by
 have hg1:=hg.2
 rw [AI (f:=G0 m) (s0:=(s,1)) (fun i=>(s,(i:Int) + 1)) (m.Refs.length - 1) (fun i=>Dp m.Refs (i + 1)) (fun i=>.ret (1,(i:Int) + 1)) (.exit 2 (s,((m.Refs.length - 1:Nat):Int) + 1)) (fun i hi _ hp=>?_) (fun i hi _ hp=>?_) (fun _=>?_) (Bo (by omega)) rfl]
 ·unfold DI
  rw [← Nq m.Refs.length (p:=Dp m.Refs) (by simp [Dp])]
  cases h:(BQ (fun i=>Dp m.Refs (i + 1)) (m.Refs.length - 1)).isNone
  ·obtain ⟨i,hi⟩:=FV (out:=fun i=>LO.ret ((1:Int),(i:Int) + 1)) (fin:=.exit 2 (s,((m.Refs.length - 1:Nat):Int) + 1)) h
   exact ⟨_,by rw [hi]; rfl⟩
  ·exact ⟨_,by rw [FW h]; rfl⟩
 ·have hc':(i:Int) + 1 < (m.Refs.length:Int):=by omega
  have h1:i + 1 < m.Refs.length:=by omega
  have g1:Aq m.Refs ((i:Int) + 1) = some m.Refs[i + 1]:=AZ (i:=i + 1) h1
  unfold G0
  unfold Dp at hp
  rw [Eg h1,Eg (show i + 1 - 1 < m.Refs.length by omega)] at hp
  simp only [Nat.add_sub_cancel,Nat.zero_lt_succ,decide_true,Bool.true_and] at hp
  simp only [hc',decide_true,cond_true,g1,JR (show i≤1048576 by omega),AZ (show i < m.Refs.length by omega),obs,hp,cond_false,UM (show i≤1048576 by omega)]
 ·have hc':(i:Int) + 1 < (m.Refs.length:Int):=by omega
  have h1:i + 1 < m.Refs.length:=by omega
  have g1:Aq m.Refs ((i:Int) + 1) = some m.Refs[i + 1]:=AZ (i:=i + 1) h1
  unfold G0
  unfold Dp at hp
  rw [Eg h1,Eg (show i + 1 - 1 < m.Refs.length by omega)] at hp
  simp only [Nat.add_sub_cancel,Nat.zero_lt_succ,decide_true,Bool.true_and] at hp
  simp only [hc',decide_true,cond_true,g1,JR (show i≤1048576 by omega),AZ (show i < m.Refs.length by omega),obs,hp]
  exact ⟨trivial,rfl⟩
 ·have hc':¬ (((m.Refs.length - 1:Nat):Int) + 1 < (m.Refs.length:Int)):=by omega
  unfold G0
  simp only [hc',decide_false,cond_false]
  exact ⟨trivial,rfl⟩
theorem PG {α:Type} (q:α→Bool) (xs:List α):(BQ (pAt q xs) xs.length).isNone = !xs.any q:=by
 rw [← C9]; cases BQ (pAt q xs) xs.length <;> rfl
theorem lX (m:Ah) (hg:Ba m) (s:Int):∃ j,Ax (Gz m) NN (s,0) = some (bif m.Certs.any (CM m.View) then .ret (3,j) else .exit 4 (s,j)):=by
 rw [AI (f:=Gz m) (s0:=(s,0)) (fun i=>(s,(i:Int))) m.Certs.length (pAt (CM m.View) m.Certs) (fun i=>.ret (3,(i:Int))) (.exit 4 (s,(m.Certs.length:Int))) (fun i hi _ hp=>?_) (fun i hi _ hp=>?_) (fun _=>?_) (Bo hg.1) rfl]
 ·have e:=PG (CM m.View) m.Certs
  cases h:m.Certs.any (CM m.View)
  ·rw [h] at e; exact ⟨_,by rw [FW e]; rfl⟩
  ·rw [h] at e
   obtain ⟨i,hi⟩:=FV (out:=fun i=>LO.ret ((3:Int),(i:Int))) (fin:=.exit 4 (s,(m.Certs.length:Int))) e
   exact ⟨_,by rw [hi]; rfl⟩
 ·have hc':(i:Int) < (m.Certs.length:Int):=by omega
  have hb:i≤big:=Nat.le_trans (Nat.le_of_lt hi) (C7 hg.1)
  rw [AU hi] at hp
  unfold Gz
  simp only [hc',decide_true,cond_true,AZ hi,obs,in1,Gj]
  unfold CM at hp
  simp only [hp,cond_false,Ai,obs,wi1 hb]
 ·have hc':(i:Int) < (m.Certs.length:Int):=by omega
  rw [AU hi] at hp
  unfold Gz
  simp only [hc',decide_true,cond_true,AZ hi,obs,in1,Gj]
  unfold CM at hp
  simp only [hp,cond_true,Ai,obs]
  exact ⟨trivial,rfl⟩
 ·unfold Gz
  simp only [Int.lt_irrefl,decide_false,cond_false]
  exact ⟨trivial,rfl⟩
theorem refL (m:Ah) (hg:Ba m) (s:Int):∃ j,Ax (Gy m) NN (s,0) = some (bif m.Refs.any DX then .ret (3,j) else .exit 6 (s,j)):=by
 rw [AI (f:=Gy m) (s0:=(s,0)) (fun i=>(s,(i:Int))) m.Refs.length (pAt DX m.Refs) (fun i=>.ret (3,(i:Int))) (.exit 6 (s,(m.Refs.length:Int))) (fun i hi _ hp=>?_) (fun i hi _ hp=>?_) (fun _=>?_) (Bo hg.2) rfl]
 ·have e:=PG DX m.Refs
  cases h:m.Refs.any DX
  ·rw [h] at e; exact ⟨_,by rw [FW e]; rfl⟩
  ·rw [h] at e
   obtain ⟨i,hi⟩:=FV (out:=fun i=>LO.ret ((3:Int),(i:Int))) (fin:=.exit 6 (s,(m.Refs.length:Int))) e
   exact ⟨_,by rw [hi]; rfl⟩
 ·have hc':(i:Int) < (m.Refs.length:Int):=by omega
  have hb:i≤big:=Nat.le_trans (Nat.le_of_lt hi) (C7 hg.2)
  rw [AU hi] at hp
  unfold Gy
  unfold DX at hp
  simp only [hc',decide_true,cond_true,AZ hi,obs,in1,hp,cond_false,wi1 hb]
 ·have hc':(i:Int) < (m.Refs.length:Int):=by omega
  rw [AU hi] at hp
  unfold Gy
  unfold DX at hp
  simp only [hc',decide_true,cond_true,AZ hi,obs,in1,hp]
  exact ⟨trivial,rfl⟩
 ·unfold Gy
  simp only [Int.lt_irrefl,decide_false,cond_false]
  exact ⟨trivial,rfl⟩
theorem Xs (m:Ah) (hg:Ba m):WO m = some (bif DI (m.Certs.map (·.Slot)) then bif DI m.Refs then bif m.Certs.any (CM m.View) then 3 else bif m.Refs.any DX then 3 else 0 else 1 else 1):=by
 unfold WO
 obtain ⟨j1,e1⟩:=dQ m hg 0
 rw [e1]
 cases DI (m.Certs.map (·.Slot))
 ·rfl
 simp only [cond_true,obs,Ai,if_true]
 obtain ⟨j2,e2⟩:=dO m hg 0
 rw [e2]
 cases DI m.Refs
 ·rfl
 simp only [cond_true,obs,Ai,if_true]
 obtain ⟨j3,e3⟩:=lX m hg 0
 rw [e3]
 cases m.Certs.any (CM m.View)
 rotate_left
 ·rfl
 simp only [cond_false,obs,Ai,if_true]
 obtain ⟨j4,e4⟩:=refL m hg 0
 rw [e4]
 cases m.Refs.any DX <;> rfl
theorem ZN (m:Ah):WQ m = some (GG m):=by
 unfold WQ
 rw [Va]
 simp only [in1,obs,Ai]
 rfl
theorem OX (f:Int) (m:Ah) (hg:Ba m):Xa f m = some (CB f m):=by
 unfold Xa CB
 rw [ZN,obs,UZ]
 cases hb:GG m
 ·rfl
 have hk:decide (m.Kind≤3) = inR m.Kind 1 3:=by
  unfold GG at hb
  rw [Bool.and_eq_true,Bool.and_eq_true] at hb
  have:=hb.1.1
  unfold inR at this ⊢
  have h1:=of_decide_eq_true this
  exact decide_eq_decide.2 ⟨fun h=>⟨h1.1,h⟩,fun h=>h.2⟩
 simp only [in1,X1,hk,Bool.not_true,cond_false,cond_true,obs,Ai]
 rw [show (!inR m.View 0 20 || (!inR m.From 1 (BG f) || (inR m.Kind 1 3 && (!inR m.Slot 1 30 || !inR m.Value 0 12)))) = ED f m from rfl]
 cases hr:ED f m
 rotate_left
 ·rfl
 simp only [cond_false,obs,Ai]
 cases h1:decide ((m.Certs.length:Int) > 30)
 rotate_left
 ·rfl
 simp only [cond_false]
 cases h2:decide ((m.Refs.length:Int) > BG f)
 rotate_left
 ·have h2':decide ((m.Refs.length:Int) > wi .i64 ((wi .i64 (3 * f)) + 1)) = true:=h2
  rw [h2']; rfl
 have h2':decide ((m.Refs.length:Int) > wi .i64 ((wi .i64 (3 * f)) + 1)) = false:=h2
 simp only [h2',cond_false,obs,Ai,Xs m hg]
theorem lY (m:Ah) (c:AE):Pi c m = some (CM m.View c):=by
 unfold Pi
 rw [Gj]
 simp only [It,GP,in2,obs,Ai]
 rfl
theorem KR (f:Int) (m:Ah) (hg:Ba m):m94 f m = some (CB f m):=by
 unfold m94 CB
 rw [Vb,UZ]
 have hbare:(!((m63 m.Kind 1 5 && (m25 m.Kind || (!(m.Slot != 0) && !(m.Value != 0)))) && ((!(m.Kind != 4) || !decide ((m.Certs.length:Int) > 0)) && (!(m.Kind != 5) || !decide ((m.Refs.length:Int) > 0))))) = !GG m:=by
  have e1:∀ n:Nat,(!decide ((n:Int) > 0)) = ((n:Int) == 0):=fun n=>by
   cases n with
   | zero=>rfl
   | succ n=>
    have:((n + 1:Nat):Int) > 0:=by omega
    simp only [this,decide_true,Bool.not_true]
    symm
    simp; omega
  simp only [in2,K8,bne,Bool.not_not,e1]
  rfl
 rw [hbare]
 simp only [obs,Ai]
 cases hb:GG m
 ·rfl
 simp only [Bool.not_true,cond_false,cond_true,obs,Ai,JS,Iy,K8,It,GP]
 rw [show (!inR m.View 0 20 || (!inR m.From 1 (BG f) || (inR m.Kind 1 3 && (!inR m.Slot 1 30 || !inR m.Value 0 12)))) = ED f m from rfl]
 cases hr:ED f m
 rotate_left
 ·rfl
 simp only [cond_false,obs,Ai]
 cases h1:decide ((m.Certs.length:Int) > 30)
 rotate_left
 ·rfl
 simp only [cond_false]
 cases h2:decide ((m.Refs.length:Int) > BG f)
 rotate_left
 ·have h2':decide ((m.Refs.length:Int) > m75 f) = true:=h2
  rw [h2']; rfl
 have h2':decide ((m.Refs.length:Int) > m75 f) = false:=h2
 simp only [h2',cond_false,obs,Ai]
 obtain ⟨j1,e1⟩:=dR m hg 0
 rw [e1]
 cases DI (m.Certs.map (·.Slot))
 ·rfl
 simp only [cond_true,obs,Ai,if_true]
 obtain ⟨j2,e2⟩:=dP m hg 0
 rw [e2]
 cases DI m.Refs
 ·rfl
 simp only [cond_true,obs,Ai,if_true]
 rw [show m60 m.Certs (fun x0_=>Pi x0_ m) = some (m.Certs.any (CM m.View)) from Il (Bo hg.1) (C7 hg.1) (fun x _=>lY m x)]
 cases m.Certs.any (CM m.View)
 rotate_left
 ·rfl
 simp only [cond_false,obs]
 rw [show Ul m.Refs (fun x0_=>some (QM x0_)) = some (m.Refs.any DX) from Il (Bo hg.2) (C7 hg.2) (fun x _=>by unfold QM; rw [in2]; rfl)]
 cases m.Refs.any DX <;> rfl
open Go Go.Rf
def neC (x1 x2:AE):Bool:=!(((x1.Slot == x2.Slot) && ((x1.View == x2.View) && ((x1.Value == x2.Value) && true))))
theorem W7 (a b:AE):neC a b = !decide (a = b):=by
 obtain ⟨a1,a2,a3⟩:=a
 obtain ⟨b1,b2,b3⟩:=b
 unfold neC
 congr 1
 rw [Bool.eq_iff_iff]
 simp
theorem W6 (a b:Int):(a != b) = !decide (a = b):=by
 rw [Bool.eq_iff_iff]; simp
theorem Z4 (xs ys:List AE) (h:xs.length≤1048576):Ze xs ys = some (decide (xs = ys)):=bU (ne:=neC) W7 (Bo h) (C7 h)
theorem SX (xs ys:List Int) (h:xs.length≤1048576):m52 xs ys = some (decide (xs = ys)):=bU (ne:=fun a b=>a != b) W6 (Bo h) (C7 h)
theorem UY (a b c d e p q:Bool):(bif a then
   bif b then
    bif c then
     bif d then
      bif e then
       (some p).bind fun y1=>
       bif y1 then
        (some q).bind fun y2=>
        some (LO.norm y2)
       else
        some (LO.norm false)
      else
       some (LO.norm false)
     else
      some (LO.norm false)
    else
     some (LO.norm false)
   else
    some (LO.norm false)
  else
   some (LO.norm false)) = some (LO.norm (a && (b && (c && (d && (e && (p && q))))))):=by
 cases a <;> cases b <;> cases c <;> cases d <;> cases e <;> cases p <;> cases q <;> rfl
theorem UX (a b c d e f g:Bool):(bif a then
    some (LO.norm true)
   else
    bif b then
     some (LO.norm true)
    else
     bif c then
      some (LO.norm true)
     else
      bif d then
       some (LO.norm true)
      else
       bif e then
        some (LO.norm true)
       else
        bif f then
         some (LO.norm true)
        else
         some (LO.norm g)) = some (LO.norm (a || (b || (c || (d || (e || (f || g))))))):=by
 cases a <;> cases b <;> cases c <;> cases d <;> cases e <;> cases f <;> cases g <;> rfl
theorem eH (a b:Ah):decide (a = b) = ((a.Kind == b.Kind) && ((a.View == b.View) && ((a.From == b.From) && ((a.Slot == b.Slot) && ((a.Value == b.Value) && (decide (a.Certs = b.Certs) && decide (a.Refs = b.Refs))))))):=by
 obtain ⟨a1,a2,a3,a4,a5,a6,a7⟩:=a
 obtain ⟨b1,b2,b3,b4,b5,b6,b7⟩:=b
 rw [Bool.eq_iff_iff]
 simp
theorem TD (a b:Ah) (hg:Ba a):Xc a b = some (decide (a = b)):=by
 unfold Xc
 rw [Z4 _ _ hg.1,SX _ _ hg.2,UY,eH]
 rfl
theorem TC (a b:Ah) (hg:Ba a):Ud a b = some (decide (a = b)):=by
 unfold Ud
 rw [UX]
 simp only [obs,Ai]
 cases hx:(a.Kind != b.Kind || (a.View != b.View || (a.From != b.From || (a.Slot != b.Slot || (a.Value != b.Value || ((a.Certs.length:Int) != (b.Certs.length:Int) || (a.Refs.length:Int) != (b.Refs.length:Int)))))))
 rotate_left
 ·simp only [cond_true,obs,Ai]
  congr 1
  symm
  rw [decide_eq_false_iff_not]
  rintro rfl
  simp at hx
 simp only [cond_false,obs,Ai]
 simp only [Bool.or_eq_false_iff,bne_eq_false_iff_eq] at hx
 obtain ⟨h1,h2,h3,h4,h5,h6,h7⟩:=hx
 have hl1:a.Certs.length = b.Certs.length:=by omega
 have hl2:a.Refs.length = b.Refs.length:=by omega
 rcases LM (ex:=0) (ne:=neC) (N:=NN) W7 (Bo hg.1) (C7 hg.1) hl1 with ⟨e1,j,k1⟩ | ⟨e1,j,k1⟩
 rotate_left
 ·rw [show Ax (Kq a b) NN (false,0) = some (.ret (false,j)) from k1]
  simp only [obs,Ai]
  congr 1
  symm
  rw [decide_eq_false_iff_not]
  rintro rfl
  exact e1 rfl
 rw [show Ax (Kq a b) NN (false,0) = some (.exit 0 (false,j)) from k1]
 simp only [obs,Ai,if_true]
 rcases LM (ex:=2) (ne:=fun a b:Int=>a != b) (N:=NN) W6 (Bo hg.2) (C7 hg.2) hl2 with ⟨e2,j2,k2⟩ | ⟨e2,j2,k2⟩
 rotate_left
 ·rw [show Ax (Ko a b) NN (false,0) = some (.ret (false,j2)) from k2]
  simp only [obs,Ai]
  congr 1
  symm
  rw [decide_eq_false_iff_not]
  rintro rfl
  exact e2 rfl
 rw [show Ax (Ko a b) NN (false,0) = some (.exit 2 (false,j2)) from k2]
 simp only [obs,Ai,if_true]
 congr 1
 symm
 rw [decide_eq_true_eq]
 obtain ⟨a1,a2,a3,a4,a5,a6,a7⟩:=a
 obtain ⟨b1,b2,b3,b4,b5,b6,b7⟩:=b
 simp only at h1 h2 h3 h4 h5 e1 e2
 subst h1; subst h2; subst h3; subst h4; subst h5; subst e1; subst e2
 rfl
def atM (xs:List Ah) (m:Ah):Int:=ixI (BQ (pAt (fun x=>decide (x = m)) xs) xs.length)
theorem K1 (xs:List Ah) (m:Ah) (h:xs.length≤1048576) (g:∀ x∈xs,Ba x):m91 xs m = some (atM xs m):=by
 unfold m91
 rw [show m64 xs (fun x0_=>QN x0_ m) = some (atM xs m) from Jv (Bo h) (C7 h) (fun x hx=>by unfold QN; rw [TD x m (g x hx)]; rfl)]
 rfl
theorem O3 (xs:List Ah) (m:Ah) (h:xs.length≤1048576) (g:∀ x∈xs,Ba x):WZ xs m = some (atM xs m):=Jv (f:=fun x=>Ud x m) (Bo h) (C7 h) (fun x hx=>TC x m (g x hx))
def BE (k:Int) (m:Ah):Bool:=m.Refs.any fun r=>decide (r ≥ k)
theorem Jd (m:Ah) (k:Int) (hg:Ba m):m95 m k = some (!BE k m):=by
 unfold m95
 rw [show Ul m.Refs (fun x0_=>some (Uk x0_ k)) = some (BE k m) from Il (Bo hg.2) (C7 hg.2) (fun x _=>rfl)]
 rfl
theorem MQ (m:Ah) (k:Int) (hg:Ba m):Zf m k = some (!BE k m):=lO (q:=fun r=>decide (r ≥ k)) (Bo hg.2) (C7 hg.2)
noncomputable def Fh (f:Int) (xs:List Ah) (i:Nat):Bool:=(xs[i]?).any fun x=>(CB f x != 0) || (BE i x || decide (x∈xs.take i))
noncomputable def LH (f:Int) (xs:List Ah) (i:Nat):Int:=match xs[i]? with
 | some x=>bif CB f x != 0 then CB f x else bif BE i x then 4 else 6
 | none=>0
noncomputable def Hk (f:Int) (xs:List Ah):Int:=bif !inR f 1 2 then 3 else bif decide ((xs.length:Int) > 240) then 2 else orF (BQ (Fh f xs) xs.length) (LH f xs) 0
theorem DZ {f:Int} {xs:List Ah} {i:Nat} (h:i < xs.length):Fh f xs i = ((CB f xs[i] != 0) || (BE i xs[i] || decide (xs[i]∈xs.take i))):=by
 unfold Fh; rw [List.getElem?_eq_getElem h]; rfl
theorem G5 {f:Int} {xs:List Ah} {i:Nat} (h:i < xs.length):LH f xs i = (bif CB f xs[i] != 0 then CB f xs[i] else bif BE i xs[i] then 4 else 6):=by
 unfold LH; rw [List.getElem?_eq_getElem h]
theorem EZ {α:Type} {xs:List α} {i:Nat} (h:i≤xs.length):DV xs 0 (i:Int) = some (xs.take i):=by
 unfold DV
 rw [if_pos ⟨by omega,by omega,by omega⟩]
 simp
theorem Qg {xs:List Ah} {i:Nat} (h:i < xs.length):decide (atM (xs.take i) xs[i] ≥ 0) = decide (xs[i]∈xs.take i):=by
 unfold atM
 rw [He,C9,Bool.eq_iff_iff]
 simp
theorem N7 {xs:List Ah} {i:Nat} (h:i < xs.length):(atM xs xs[i] != (i:Int)) = decide (xs[i]∈xs.take i):=by
 unfold atM
 by_cases hm:xs[i]∈xs.take i
 ·rw [decide_eq_true hm]
  obtain ⟨j,hj,e⟩:=List.mem_iff_getElem.1 hm
  rw [List.length_take] at hj
  rw [List.getElem_take] at e
  rcases BC (pAt (fun x=>decide (x = xs[i])) xs) xs.length with h' | ⟨k,h1,h2,h3⟩
  ·have:=h' j (by omega)
   rw [AU (by omega)] at this
   simp [e] at this
  ·rw [Bt h1 h2 h3]
   have hk:k≤j:=by
    rcases Nat.lt_or_ge j k with hlt | hge
    ·have:=h2 j hlt
     rw [AU (by omega)] at this
     simp [e] at this
    ·exact hge
   simp only [ixI,bne_iff_ne,ne_eq]
   omega
 ·rw [decide_eq_false hm]
  rw [Bt h (fun j hj=>by
   rw [AU (by omega),decide_eq_false_iff_not]
   intro e
   exact hm (List.mem_iff_getElem.2 ⟨j,by rw [List.length_take]; omega,by rw [List.getElem_take]; exact e⟩)) (by rw [AU h]; simp)]
  simp [ixI]
theorem Xu (f:Int) (xs:List Ah) (h:xs.length≤1048576) (g:∀ x∈xs,Ba x):m50 f xs = some (Hk f xs):=by
 unfold m50 Hk
 rw [show m33 f = inR f 1 2 from in1 _ _ _]
 cases inR f 1 2
 ·rfl
 simp only [Bool.not_true,cond_false]
 cases decide ((xs.length:Int) > 240)
 rotate_left
 ·rfl
 simp only [cond_false]
 rw [AI (f:=Jn f xs) (s0:=(0,0)) (fun i=>(0,(i:Int))) xs.length (Fh f xs) (fun i=>.ret (LH f xs i,(i:Int))) (.exit 1 (0,(xs.length:Int))) (fun i hi _ hp=>?_) (fun i hi _ hp=>?_) (fun _=>?_) (Bo h) rfl]
 ·cases BQ (Fh f xs) xs.length <;> rfl
 ·have hc':(i:Int) < (xs.length:Int):=by omega
  have gi:=g _ (List.getElem_mem hi)
  rw [DZ hi,Bool.or_eq_false_iff,Bool.or_eq_false_iff] at hp
  obtain ⟨p1,p2,p3⟩:=hp
  unfold Jn
  simp only [hc',decide_true,cond_true,AZ hi,obs,KR f _ gi,p1,cond_false,Jd _ _ gi,p2,Bool.not_false,Bool.not_true,EZ (Nat.le_of_lt hi),K1 (xs.take i) xs[i] (by rw [List.length_take]; omega) (fun x hx=>g x (List.mem_of_mem_take hx)),Qg hi,p3,wi1 (show i≤1099511627776 by omega)]
 ·have hc':(i:Int) < (xs.length:Int):=by omega
  have gi:=g _ (List.getElem_mem hi)
  rw [DZ hi] at hp
  rw [G5 hi]
  unfold Jn
  simp only [hc',decide_true,cond_true,AZ hi,obs,KR f _ gi,Jd _ _ gi,EZ (Nat.le_of_lt hi),K1 (xs.take i) xs[i] (by rw [List.length_take]; omega) (fun x hx=>g x (List.mem_of_mem_take hx)),Qg hi]
  cases e1:CB f xs[i] != 0
  ·cases e2:BE i xs[i]
   ·rw [e1,e2,Bool.false_or,Bool.false_or] at hp
    rw [hp]
    exact ⟨rfl,rfl⟩
   ·exact ⟨rfl,rfl⟩
  ·exact ⟨rfl,rfl⟩
 ·unfold Jn
  simp only [Int.lt_irrefl,decide_false,cond_false]
  exact ⟨trivial,rfl⟩
theorem Xt (f:Int) (xs:List Ah) (h:xs.length≤1048576) (g:∀ x∈xs,Ba x):m65 f xs = some (Hk f xs):=by
 unfold m65 Zk Hk
 rw [show Zl f = inR f 1 2 from in1 _ _ _]
 cases inR f 1 2
 ·rfl
 simp only [Bool.not_true,cond_false]
 cases decide ((xs.length:Int) > 240)
 rotate_left
 ·rfl
 simp only [cond_false]
 rw [AI (f:=H8 f xs) (s0:=(0,0)) (fun i=>(0,(i:Int))) xs.length (Fh f xs) (fun i=>.ret (LH f xs i,(i:Int))) (.exit 0 (0,(xs.length:Int))) (fun i hi _ hp=>?_) (fun i hi _ hp=>?_) (fun _=>?_) (Bo h) rfl]
 ·cases BQ (Fh f xs) xs.length <;> rfl
 ·have hc':(i:Int) < (xs.length:Int):=by omega
  have gi:=g _ (List.getElem_mem hi)
  rw [DZ hi,Bool.or_eq_false_iff,Bool.or_eq_false_iff] at hp
  obtain ⟨p1,p2,p3⟩:=hp
  unfold H8
  simp only [hc',decide_true,cond_true,AZ hi,obs,OX f _ gi,p1,cond_false,MQ _ _ gi,p2,Bool.not_false,Bool.not_true,O3 xs xs[i] h g,N7 hi,p3,wi1 (show i≤1099511627776 by omega)]
 ·have hc':(i:Int) < (xs.length:Int):=by omega
  have gi:=g _ (List.getElem_mem hi)
  rw [DZ hi] at hp
  rw [G5 hi]
  unfold H8
  simp only [hc',decide_true,cond_true,AZ hi,obs,OX f _ gi,MQ _ _ gi,O3 xs xs[i] h g,N7 hi]
  cases e1:CB f xs[i] != 0
  ·cases e2:BE i xs[i]
   ·rw [e1,e2,Bool.false_or,Bool.false_or] at hp
    rw [hp]
    exact ⟨rfl,rfl⟩
   ·exact ⟨rfl,rfl⟩
  ·exact ⟨rfl,rfl⟩
 ·unfold H8
  simp only [Int.lt_irrefl,decide_false,cond_false]
  exact ⟨trivial,rfl⟩
structure Yw (f:Int) (m:Ah):Prop where
 kind:1≤m.Kind∧m.Kind≤5
 bare:4≤m.Kind→m.Slot = 0∧m.Value = 0
 certs0:m.Kind≠4→m.Certs = []
 refs0:m.Kind≠5→m.Refs = []
 view:0≤m.View∧m.View≤20
 frm:1≤m.From∧m.From≤BG f
 slot:m.Kind≤3→1≤m.Slot∧m.Slot≤30
 value:m.Kind≤3→0≤m.Value∧m.Value≤12
 certsl:m.Certs.length≤30
 refsl:(m.Refs.length:Int)≤BG f
 cert:∀ c∈m.Certs,(1≤c.Slot∧c.Slot≤30)∧(0≤c.View∧c.View≤m.View - 1)∧(0≤c.Value∧c.Value≤12)
 ref:∀ r∈m.Refs,0≤r∧r≤239
theorem B9 {n lo hi:Int}:inR n lo hi = true ↔ lo≤n∧n≤hi:=by unfold inR; simp
theorem XR {f:Int} {m:Ah} (h:CB f m = 0):Yw f m:=by
 unfold CB at h
 cases hb:GG m
 ·rw [hb] at h; cases h
 cases hr:ED f m
 rotate_left
 ·rw [hb,hr] at h; cases h
 cases h1:decide ((m.Certs.length:Int) > 30)
 rotate_left
 ·rw [hb,hr,h1] at h; cases h
 cases h2:decide ((m.Refs.length:Int) > BG f)
 rotate_left
 ·rw [hb,hr,h1,h2] at h; cases h
 rw [hb,hr,h1,h2] at h
 simp only [cond_true,cond_false] at h
 cases h3:DI (m.Certs.map (·.Slot))
 ·rw [h3] at h; cases h
 cases h4:DI m.Refs
 ·rw [h3,h4] at h; cases h
 cases h5:m.Certs.any (CM m.View)
 rotate_left
 ·rw [h3,h4,h5] at h; cases h
 cases h6:m.Refs.any DX
 rotate_left
 ·rw [h3,h4,h5,h6] at h; cases h
 unfold GG at hb
 unfold ED at hr
 simp only [Bool.and_eq_true,Bool.or_eq_true,B9,beq_iff_eq] at hb
 simp only [Bool.or_eq_false_iff,Bool.not_eq_false',Bool.and_eq_false_imp,B9] at hr
 obtain ⟨⟨b1,b2⟩,b3,b4⟩:=hb
 obtain ⟨r1,r2,r3⟩:=hr
 rw [decide_eq_false_iff_not] at h1 h2
 rw [List.any_eq_false] at h5 h6
 refine ⟨b1,fun hk=>?_,fun hk=>?_,fun hk=>?_,r1,r2,fun hk=>(r3 ⟨b1.1,hk⟩).1,fun hk=>(r3 ⟨b1.1,hk⟩).2,by omega,by omega,fun c hc=>?_,fun r hr=>?_⟩
 ·rcases b2 with b2 | b2
  ·omega
  ·exact b2
 ·rcases b3 with b3 | b3
  ·exact absurd b3 hk
  ·exact List.eq_nil_of_length_eq_zero (by omega)
 ·rcases b4 with b4 | b4
  ·exact absurd b4 hk
  ·exact List.eq_nil_of_length_eq_zero (by omega)
 ·have:=h5 c hc
  unfold CM at this
  simp only [Bool.not_eq_true,Bool.or_eq_false_iff,Bool.not_eq_false',B9] at this
  obtain ⟨c1,c2,c3⟩:=this
  rw [Dt (by omega) (by omega)] at c2
  exact ⟨c1,c2,c3⟩
 ·have:=h6 r hr
  unfold DX at this
  simp only [Bool.not_eq_true,Bool.not_eq_false',B9] at this
  exact this
structure BK (f:Int) (xs:List Ah):Prop where
 f12:1≤f∧f≤2
 len:xs.length≤240
 msg:∀ x∈xs,Yw f x
 refs:∀ (i:Nat) (h:i < xs.length),∀ r∈xs[i].Refs,r < i
 nd:xs.Nodup
theorem PW {f:Int} {xs:List Ah} (h:Hk f xs = 0):BK f xs:=by
 unfold Hk at h
 cases h1:inR f 1 2
 ·rw [h1] at h; cases h
 cases h2:decide ((xs.length:Int) > 240)
 rotate_left
 ·rw [h1,h2] at h; cases h
 rw [h1,h2] at h
 simp only [Bool.not_true,cond_false] at h
 have hall:∀ j,j < xs.length→Fh f xs j = false:=by
  rcases BC (Fh f xs) xs.length with h' | ⟨i,k1,k2,k3⟩
  ·exact h'
  ·rw [Bt k1 k2 k3] at h
   simp only [orF] at h
   rw [G5 k1] at h
   cases e1:CB f xs[i] != 0
   ·rw [e1] at h
    cases e2:BE i xs[i] <;> rw [e2] at h <;> cases h
   ·rw [e1] at h
    simp only [cond_true] at h
    rw [h] at e1
    cases e1
 rw [B9] at h1
 rw [decide_eq_false_iff_not] at h2
 have hi:∀ (i:Nat) (h:i < xs.length),CB f xs[i] = 0∧BE i xs[i] = false∧xs[i] ∉ xs.take i:=fun i hl=>by
  have:=hall i hl
  rw [DZ hl] at this
  simpa using this
 refine ⟨h1,by omega,fun x hx=>?_,fun i hl r hr=>?_,?_⟩
 ·obtain ⟨i,hl,rfl⟩:=List.mem_iff_getElem.1 hx
  exact XR (hi i hl).1
 ·have:=(hi i hl).2.1
  unfold BE at this
  rw [List.any_eq_false] at this
  have:=this r hr
  simp at this; omega
 ·rw [List.nodup_iff_pairwise_ne,List.pairwise_iff_getElem]
  intro i j hi1 hj1 hij e
  exact (hi j hj1).2.2 (List.mem_iff_getElem.2 ⟨i,by rw [List.length_take]; omega,by rw [List.getElem_take]; exact e⟩)
open Go Go.Rf
def CN (n:Nat):List Int:=(List.range n).map fun (j:Nat)=>((j:Int) + 1)
theorem FN (n:Nat):CN (n + 1) = CN n++[(n:Int) + 1]:=by simp [CN,List.range_succ]
theorem K4 (n:Nat) (k:Int):k∈CN n ↔ 1≤k∧k≤n:=by
 simp only [CN,List.mem_map,List.mem_range]
 constructor
 ·rintro ⟨j,h,rfl⟩; omega
 ·intro h; exact ⟨(k - 1).toNat,by omega,by omega⟩
theorem RB (n:Nat):(CN n).Pairwise (· < ·):=by
 unfold CN
 rw [List.pairwise_map]
 exact List.pairwise_lt_range.imp fun h=>by omega
theorem Jb:∀ (xs ys:List Int),xs.Pairwise (· < ·)→ys.Pairwise (· < ·)→(∀ k,k∈xs ↔ k∈ys)→xs = ys
 | [],[],_,_,_=>rfl
 | [],y::ys,_,_,h=>by have:=(h y).2 (by simp); cases this
 | x::xs,[],_,_,h=>by have:=(h x).1 (by simp); cases this
 | x::xs,y::ys,hx,hy,h=>by
  rw [List.pairwise_cons] at hx hy
  have e:x = y:=by
   rcases List.mem_cons.1 ((h x).1 (by simp)) with e | e
   ·exact e
   ·rcases List.mem_cons.1 ((h y).2 (by simp)) with e' | e'
    ·exact e'.symm
    ·have:=hy.1 x e; have:=hx.1 y e'; omega
  subst e
  rw [Jb xs ys hx.2 hy.2 fun k=>?_]
  have:=h k
  simp only [List.mem_cons] at this
  constructor
  ·intro hk
   rcases this.1 (.inr hk) with e | e
   ·subst e; have:=hx.1 k hk; omega
   ·exact e
  ·intro hk
   rcases this.2 (.inr hk) with e | e
   ·subst e; have:=hy.1 k hk; omega
   ·exact e
theorem ME {L:List Int} {k:Int} (h:L.length≤1000):B7 8 L [k] = some (L++[k]):=by
 unfold B7
 rw [if_pos (by simp; omega)]
theorem Ce {f:Int} (h:1≤f∧f≤2):BG f = 3 * f + 1:=by
 unfold BG
 rw [Dt (x:=3 * f) (by omega) (by omega),Dt (by omega) (by omega)]
theorem BK.good {f:Int} {xs:List Ah} (h:BK f xs):∀ x∈xs,Ba x:=fun x hx=>by
 have m:=h.msg x hx
 have:=m.refsl
 have:=Ce h.f12
 have:=h.f12
 exact ⟨Nat.le_trans m.certsl (by omega),by omega⟩
theorem BK.len' {f:Int} {xs:List Ah} (h:BK f xs):xs.length≤1048576:=Nat.le_trans h.len (by omega)
def FQ (k v s a:Int) (x:Ah):Bool:=(x.Kind == k) && ((x.View == v) && ((x.Slot == s) && (x.Value == a)))
def GB (xs:List Ah) (k v s a id:Int):Bool:=xs.any fun x=>FQ k v s a x && (x.From == id)
def HM (f:Int) (xs:List Ah) (k v s a:Int):List Int:=(CN (3 * f + 1).toNat).filter (GB xs k v s a)
theorem Gk {f:Int} {x:Ah} (h:Yw f x) (hk:x.Kind≤3):x.Certs = []∧x.Refs = []:=⟨h.certs0 (by omega),h.refs0 (by omega)⟩
theorem Vl {f:Int} {xs:List Ah} (H:BK f xs) {k v s a id:Int} (hk:k≤3):decide (atM xs (⟨k,v,id,s,a,[],[]⟩:Ah) ≥ 0) = GB xs k v s a id:=by
 unfold atM GB
 rw [He,C9,Bool.eq_iff_iff]
 simp only [List.any_eq_true,decide_eq_true_eq]
 constructor
 ·rintro ⟨x,hx,rfl⟩; exact ⟨_,hx,by simp [FQ]⟩
 ·rintro ⟨x,hx,hs⟩
  refine ⟨x,hx,?_⟩
  unfold FQ at hs
  simp only [Bool.and_eq_true,beq_iff_eq] at hs
  obtain ⟨⟨h1,h2,h3,h4⟩,h5⟩:=hs
  obtain ⟨e1,e2⟩:=Gk (H.msg x hx) (by omega)
  obtain ⟨x1,x2,x3,x4,x5,x6,x7⟩:=x
  simp only at h1 h2 h3 h4 h5 e1 e2
  subst h1; subst h2; subst h3; subst h4; subst h5; subst e1; subst e2
  rfl
theorem DR {f:Int} (hf:1≤f∧f≤2) {p:Int→Bool} {i:Nat} (hi:i≤7):((CN i).filter p).length≤1000:=Nat.le_trans (List.length_filter_le _ _) (by simp [CN]; omega)
theorem Qp {f:Int} {xs:List Ah} (H:BK f xs) {k:Int} (hk:k≤3) (c:AE):Xk f xs k c = some (HM f xs k c.View c.Slot c.Value):=by
 have hf:=H.f12
 have hm:=Ce hf
 unfold Xk
 rw [Di (f:=II f xs k c) (s0:=(1,[])) (fun i=>((i:Int) + 1,(CN i).filter (GB xs k c.View c.Slot c.Value))) (3 * f + 1).toNat (.exit 0 (((3 * f + 1).toNat:Int) + 1,HM f xs k c.View c.Slot c.Value)) (fun i hi=>?_) ?_ rfl (Bo (by omega)) rfl]
 ·rfl
 ·unfold II
  have hc:¬ (((3 * f + 1).toNat:Int) + 1≤BG f):=by omega
  have hc':decide ((((3 * f + 1).toNat:Int) + 1)≤wi .i64 ((wi .i64 (3 * f)) + 1)) = false:=decide_eq_false hc
  dsimp only
  rw [hc',cond_false]
  rfl
 ·unfold II
  have hc:(i:Int) + 1≤BG f:=by omega
  have hc':decide ((i:Int) + 1≤wi .i64 ((wi .i64 (3 * f)) + 1)) = true:=decide_eq_true hc
  dsimp only
  rw [hc',cond_true,O3 xs _ H.len' H.good,obs,Vl H hk,FN,List.filter_append]
  have e:wi .i64 ((i:Int) + 1 + 1) = ((i + 1:Nat):Int) + 1:=by rw [Dt (by omega) (by omega)]; omega
  cases hs:GB xs k c.View c.Slot c.Value ((i:Int) + 1)
  ·simp only [cond_false,obs,Ai,e]
   simp [hs]
  ·simp only [cond_true,ME (DR hf (i:=i) (by omega)),obs,Ai,e]
   simp [hs]
theorem YG (a b c d:Bool):(bif a then
     bif b then
      bif c then
       some (LO.norm d)
      else
       some (LO.norm false)
     else
      some (LO.norm false)
    else
     some (LO.norm false)) = some (LO.norm (a && (b && (c && d)))):=by
 cases a <;> cases b <;> cases c <;> rfl
theorem Q2 {f:Int} {xs:List Ah} (H:BK f xs) {k:Int} (hk:k≤3) (v s a:Int) (n:Nat):(((xs.take n).filter (FQ k v s a)).map (·.From)).length≤8:=by
 have hf:=H.f12
 have hm:=Ce hf
 refine QH ?_ ?_
 ·rw [List.Nodup,List.pairwise_map]
  have h1:((xs.take n).filter (FQ k v s a)).Nodup:=(H.nd.sublist (List.take_sublist _ _)).filter _
  refine List.Pairwise.imp_of_mem (fun {x y} hx hy hxy e=>hxy ?_) h1
  rw [List.mem_filter] at hx hy
  have mx:=H.msg x (List.mem_of_mem_take hx.1)
  have my:=H.msg y (List.mem_of_mem_take hy.1)
  have h2:=hx.2
  have h3:=hy.2
  unfold FQ at h2 h3
  simp only [Bool.and_eq_true,beq_iff_eq] at h2 h3
  obtain ⟨a1,a2⟩:=Gk mx (by omega)
  obtain ⟨b1,b2⟩:=Gk my (by omega)
  obtain ⟨x1,x2,x3,x4,x5,x6,x7⟩:=x
  obtain ⟨y1,y2,y3,y4,y5,y6,y7⟩:=y
  simp only at h2 h3 a1 a2 b1 b2 e
  obtain ⟨p1,p2,p3,p4⟩:=h2
  obtain ⟨q1,q2,q3,q4⟩:=h3
  subst p1; subst p2; subst p3; subst p4; subst q1; subst q2; subst q3; subst q4; subst a1; subst a2; subst b1; subst b2; subst e
  rfl
 ·intro z hz
  obtain ⟨x,hx,rfl⟩:=List.mem_map.1 hz
  have:=(H.msg x (List.mem_of_mem_take (List.mem_filter.1 hx).1)).frm
  omega
theorem Qq {f:Int} {xs:List Ah} (H:BK f xs) {k:Int} (hk:k≤3) (v s a:Int):Xi xs k v s a = some (HM f xs k v s a):=by
 have hf:=H.f12
 have hm:=Ce hf
 have hlen:=Q2 H hk v s a
 unfold Xi
 rw [Di (f:=IH xs k v s a) (s0:=(0,[])) (fun i=>((i:Int),((xs.take i).filter (FQ k v s a)).map (·.From))) xs.length (.exit 0 ((xs.length:Int),((xs.take xs.length).filter (FQ k v s a)).map (·.From))) (fun i hi=>?_) ?_ rfl (Bo H.len') rfl]
 ·have hl:=hlen xs.length
  obtain ⟨ys,k1,k2,k3⟩:=bZ (xs:=((xs.take xs.length).filter (FQ k v s a)).map (·.From)) (by omega)
  simp only [obs,Ai,if_true,k1]
  rw [pJ (by rw [k2.length_eq]; omega),obs]
  congr 1
  refine Jb _ _ (Mc ys k3) ((RB _).filter _) fun id=>?_
  rw [Md,k2.mem_iff,List.take_length]
  unfold HM GB
  simp only [List.mem_map,List.mem_filter,K4,List.any_eq_true,Bool.and_eq_true,beq_iff_eq]
  constructor
  ·rintro ⟨x,⟨hx,hs⟩,rfl⟩
   have:=(H.msg x hx).frm
   exact ⟨by omega,x,hx,hs,rfl⟩
  ·rintro ⟨_,x,hx,hs,rfl⟩
   exact ⟨x,⟨hx,hs⟩,rfl⟩
 ·unfold IH
  simp only [Int.lt_irrefl,decide_false,cond_false]
 ·have hc':(i:Int) < (xs.length:Int):=by omega
  have hil:i≤1099511627776:=by have:=H.len; omega
  unfold IH
  simp only [hc',decide_true,cond_true,AZ hi,obs,YG,Ai]
  rw [EA hi,List.filter_append,List.map_append]
  have hl:=hlen i
  have e:(xs[i].Kind == k && (xs[i].View == v && (xs[i].Slot == s && (xs[i].Value == a)))) = FQ k v s a xs[i]:=rfl
  rw [e]
  cases hs:FQ k v s a xs[i]
  ·simp only [cond_false,obs,Ai,wi1 hil]
   simp [hs]
  ·simp only [cond_true,ME (L:=((xs.take i).filter (FQ k v s a)).map (·.From)) (by omega),obs,Ai,wi1 hil]
   simp [hs]
def D4 (f:Int):Int:=wi .i64 ((wi .i64 (2 * f)) + 1)
def Bl (f:Int) (xs:List Ah) (k v s a:Int):Bool:=decide (((HM f xs k v s a).length:Int) ≥ D4 f)
theorem JF {f:Int} {xs:List Ah} (H:BK f xs) {k:Int} (hk:k≤3) (v s a:Int):m73 f xs k v s a = some (Bl f xs k v s a):=by
 unfold m73
 rw [Qq H hk]; rfl
theorem Hg {f:Int} {xs:List Ah} (H:BK f xs) {k:Int} (hk:k≤3) (c:AE):m71 f xs k c = some (Bl f xs k c.View c.Slot c.Value):=by
 unfold m71
 rw [Qp H hk]; rfl
def FD (f:Int) (xs:List Ah) (c:AE):Bool:=Bl f xs 2 c.View c.Slot c.Value
theorem N3 {f:Int} {xs:List Ah} (H:BK f xs) (c:AE) (h1:1≤c.Slot∧c.Slot≤30) (h2:0≤c.View∧c.View≤20) (h3:0≤c.Value∧c.Value≤12):m62 f xs c = some (FD f xs c):=by
 unfold m62
 rw [It,JS,GP,B9.2 h1,B9.2 h2,B9.2 h3,JF H (by omega)]
 rfl
open Go Go.Rf
theorem Dj {α:Type} {xs:List α} {i:Int} {x:α} (h:Aq xs i = some x):x∈xs:=by
 unfold Aq at h
 split at h
 ·exact List.mem_of_getElem? h
 ·cases h
theorem Oi {α:Type} {xs:List α} (hl:xs.length≤1048576) (i:Int):inR i 0 (wi .i64 ((xs.length:Int) - 1)) = (Aq xs i).isSome:=by
 rw [Dt (by omega) (by omega)]
 unfold Aq
 by_cases h:0≤i
 ·rw [if_pos h]
  by_cases h2:i.toNat < xs.length
  ·rw [List.getElem?_eq_getElem h2]
   exact B9.2 ⟨h,by omega⟩
  ·rw [List.getElem?_eq_none (by omega)]
   refine Bool.eq_false_iff.2 fun h3=>?_
   have:=B9.1 h3; omega
 ·rw [if_neg h]
  refine Bool.eq_false_iff.2 fun h3=>?_
  have:=B9.1 h3; omega
theorem bL {xs:List Ah} (hl:xs.length≤1048576) (i k:Int):m59 xs i k = some (match Aq xs i with | some m=>(m,(m.Kind == k) && decide (m.View > 0)) | none=>((⟨0,0,0,0,0,[],[]⟩:Ah),false)):=by
 unfold m59
 rw [in2,Oi hl]
 cases hg:Aq xs i with
 | none=>rfl
 | some m=>
  simp only [Option.isSome_some,Bool.not_true,cond_false,obs]
  cases m.Kind == k <;> rfl
theorem bT {xs:List Ah} (hl:xs.length≤1048576) (i k:Int):m70 xs i k = some (match Aq xs i with | some m=>m.Kind == k | none=>false):=by
 unfold m70
 rw [in1,Oi hl]
 cases hg:Aq xs i with
 | none=>rfl
 | some m=>rfl
def Eu (f:Int) (xs:List Ah) (m:Ah):Bool:=(m.Kind == 4) && (decide (m.View > 0) && !m.Certs.any fun c=>!FD f xs c)
def BH (f:Int) (xs:List Ah) (i:Int):Bool:=match Aq xs i with
 | some m=>Eu f xs m
 | none=>false
theorem Hl {f:Int} {xs:List Ah} (H:BK f xs) (i:Int):m24 f xs i = some (BH f xs i):=by
 unfold m24 BH
 rw [bL H.len',obs]
 cases hg:Aq xs i with
 | none=>rfl
 | some m=>
  have mo:=H.msg m (Dj hg)
  have mv:=mo.view
  dsimp only
  unfold Eu
  rw [show m60 m.Certs (fun x0_=>m61 x0_ f xs) = some (m.Certs.any fun c=>!FD f xs c) from Il (Bo (Nat.le_trans mo.certsl (by omega))) (C7 (Nat.le_trans mo.certsl (by omega))) (fun c hc=>by
   unfold m61
   obtain ⟨c1,c2,c3⟩:=mo.cert c hc
   rw [N3 H c c1 ⟨c2.1,by omega⟩ c3]; rfl)]
  cases m.Kind == 4
  ·rfl
  ·cases decide (m.View > 0) <;> rfl
theorem JG {f:Int} {xs:List Ah} (H:BK f xs) (i:Int):m30 f xs i = some (BH f xs i):=by
 unfold m30 BH
 rw [bT H.len',obs]
 cases hg:Aq xs i with
 | none=>rfl
 | some m=>
  have mo:=H.msg m (Dj hg)
  have hcl:m.Certs.length≤1048576:=Nat.le_trans mo.certsl (by omega)
  dsimp only
  unfold Eu
  cases m.Kind == 4
  ·rfl
  simp only [Bool.not_true,cond_false,obs]
  by_cases hv:m.View < 1
  ·have hv':¬ m.View > 0:=by omega
   simp only [hv,hv',decide_true,decide_false,cond_true,obs,Ai,Bool.true_and,Bool.false_and]
  have hv':m.View > 0:=by omega
  simp only [hv,hv',decide_true,decide_false,cond_false,obs,Ai,Bool.true_and]
  rw [AI (f:=Jo f xs i) (s0:=(false,0)) (fun j=>(false,(j:Int))) m.Certs.length (pAt (fun c=>!FD f xs c) m.Certs) (fun j=>.ret (false,(j:Int))) (.exit 0 (false,(m.Certs.length:Int))) (fun j hj _ hp=>?_) (fun j hj _ hp=>?_) (fun _=>?_) (Bo hcl) rfl]
  ·rw [← C9]
   cases BQ (pAt (fun c=>!FD f xs c) m.Certs) m.Certs.length <;> rfl
  ·rw [AU hj] at hp
   have hc':(j:Int) < (m.Certs.length:Int):=by omega
   unfold Jo
   simp only [hg,hc',decide_true,cond_true,AZ hj,obs,Hg H (show (2:Int)≤3 by omega)]
   unfold FD at hp
   simp only [hp,cond_false,wi1 (show j≤1099511627776 by omega)]
  ·rw [AU hj] at hp
   have hc':(j:Int) < (m.Certs.length:Int):=by omega
   unfold Jo
   simp only [hg,hc',decide_true,cond_true,AZ hj,obs,Hg H (show (2:Int)≤3 by omega)]
   unfold FD at hp
   simp only [hp]
   exact ⟨rfl,rfl⟩
  ·unfold Jo
   simp only [hg,obs,Int.lt_irrefl,decide_false,cond_false]
   exact ⟨trivial,rfl⟩
def Dz (f v:Int):Int:=wi .i64 (1 + v.tmod (BG f))
theorem FT {f:Int} (hf:1≤f∧f≤2) (v:Int):NY f v = some (Dz f v):=by
 have hm:=Ce hf
 unfold NY
 rw [Zc]
 unfold I0
 rw [if_neg (by omega)]; rfl
theorem TM {f:Int} (hf:1≤f∧f≤2) (v:Int):WI f v = some (Dz f v):=(rfl:WI f v = NY f v).trans (FT hf v)
def Bw (xs:List Ah) (r:Int):Int:=((Aq xs r).map (·.View)).getD 0
def AQ (xs:List Ah) (r:Int):Int:=((Aq xs r).map (·.From)).getD 0
def Fg (f:Int) (xs:List Ah) (m:Ah) (i:Nat):Bool:=(m.Refs[i]?).any fun r=>!BH f xs r || (Bw xs r != m.View || decide (AQ xs r∈(m.Refs.take i).map (AQ xs)))
theorem D3 {f:Int} {xs:List Ah} {m:Ah} {i:Nat} (h:i < m.Refs.length):Fg f xs m i = (!BH f xs m.Refs[i] || (Bw xs m.Refs[i] != m.View || decide (AQ xs m.Refs[i]∈(m.Refs.take i).map (AQ xs)))):=by
 unfold Fg; rw [List.getElem?_eq_getElem h]; rfl
def HF (f:Int) (xs:List Ah) (m:Ah):Bool:=((m.Kind == 5) && decide (m.View > 0)) && ((m.From == Dz f m.View) && (!decide ((m.Refs.length:Int) < D4 f) && (BQ (Fg f xs m) m.Refs.length).isNone))
def EK (f:Int) (xs:List Ah) (i:Int):Bool:=match Aq xs i with
 | some m=>HF f xs m
 | none=>false
theorem CW {f:Int} {xs:List Ah} {r:Int} (h:BH f xs r = true):∃ x,Aq xs r = some x∧Bw xs r = x.View∧AQ xs r = x.From:=by
 unfold BH at h
 cases hg:Aq xs r with
 | none=>rw [hg] at h; cases h
 | some x=>exact ⟨x,rfl,by simp [Bw,hg],by simp [AQ,hg]⟩
theorem dH (a b c:Bool):(bif a then some (LO.norm true) else bif b then some (LO.norm true) else some (LO.norm c)) = some (LO.norm (a || (b || c))):=by
 cases a <;> cases b <;> rfl
theorem KP {f:Int} {xs:List Ah} (H:BK f xs) (i:Int):m93 f xs i = some (EK f xs i):=by
 unfold m93 EK
 have hf:=H.f12
 have hm:=Ce hf
 rw [bL H.len',obs]
 cases hg:Aq xs i with
 | none=>rfl
 | some m=>
  have mo:=H.msg m (Dj hg)
  have hrl:m.Refs.length≤7:=by have:=mo.refsl; omega
  dsimp only
  unfold HF
  cases e1:(m.Kind == 5 && decide (m.View > 0))
  ·rfl
  simp only [Bool.not_true,cond_false,FT hf,obs,Bool.true_and]
  cases e2:m.From == Dz f m.View
  ·have:(m.From != Dz f m.View) = true:=by unfold bne; rw [e2]; rfl
   rw [this]; rfl
  have:(m.From != Dz f m.View) = false:=by unfold bne; rw [e2]; rfl
  rw [this]
  simp only [cond_false,obs,Ai,Bool.true_and]
  rw [show decide ((m.Refs.length:Int) < wi .i64 ((wi .i64 (2 * f)) + 1)) = decide ((m.Refs.length:Int) < D4 f) from rfl]
  cases decide ((m.Refs.length:Int) < D4 f)
  rotate_left
  ·rfl
  simp only [cond_false,obs,Ai,Bool.not_false,Bool.true_and]
  rw [AI (f:=Jl f xs (m,true)) (s0:=(false,0,[])) (fun j=>(false,(j:Int),(m.Refs.take j).map (AQ xs))) m.Refs.length (Fg f xs m) (fun j=>.ret (false,(j:Int),(m.Refs.take j).map (AQ xs))) (.exit 0 (false,(m.Refs.length:Int),(m.Refs.take m.Refs.length).map (AQ xs))) (fun j hj _ hp=>?_) (fun j hj _ hp=>?_) (fun _=>?_) (Bo (by omega)) rfl]
  ·cases BQ (Fg f xs m) m.Refs.length <;> rfl
  ·have hc':(j:Int) < (m.Refs.length:Int):=by omega
   rw [D3 hj,Bool.or_eq_false_iff,Bool.or_eq_false_iff] at hp
   obtain ⟨p1,p2,p3⟩:=hp
   rw [Bool.not_eq_false'] at p1
   obtain ⟨x,g1,g2,g3⟩:=CW p1
   rw [g2] at p2
   rw [g3] at p3
   have hfl:((m.Refs.take j).map (AQ xs)).length≤1000:=by simp; omega
   unfold Jl
   simp only [hc',decide_true,cond_true,AZ hj,obs,Hl H,p1,Bool.not_true,cond_false,g1,p2]
   rw [show m72 ((m.Refs.take j).map (AQ xs)) x.From = some (decide (x.From∈(m.Refs.take j).map (AQ xs))) from Jw (Bo (by omega)) (C7 (by omega)),p3]
   simp only [obs,Ai,cond_false,g1,ME hfl,wi1 (show j≤1099511627776 by omega)]
   rw [EA hj,List.map_append]
   simp [g3]
  ·have hc':(j:Int) < (m.Refs.length:Int):=by omega
   rw [D3 hj] at hp
   have hfl:((m.Refs.take j).map (AQ xs)).length≤1000:=by simp; omega
   unfold Jl
   simp only [hc',decide_true,cond_true,AZ hj,obs,Hl H]
   cases p1:BH f xs m.Refs[j]
   ·exact ⟨rfl,rfl⟩
   obtain ⟨x,g1,g2,g3⟩:=CW p1
   rw [p1,g2,g3] at hp
   simp only [Bool.not_true,cond_false,g1,obs]
   cases p2:x.View != m.View
   rotate_left
   ·exact ⟨rfl,rfl⟩
   rw [p2] at hp
   rw [show m72 ((m.Refs.take j).map (AQ xs)) x.From = some (decide (x.From∈(m.Refs.take j).map (AQ xs))) from Jw (Bo (by omega)) (C7 (by omega))]
   simp only [Bool.not_true,Bool.false_or] at hp
   rw [hp]
   exact ⟨rfl,rfl⟩
  ·unfold Jl
   simp only [Int.lt_irrefl,decide_false,cond_false]
   exact ⟨trivial,rfl⟩
theorem Nr {xs:List Ah} {rs:List Int} (hl:rs.length≤1048576) (hr:∀ r∈rs,∃ x,Aq xs r = some x) (v:Int):WH xs rs v = some (decide (v∈rs.map (AQ xs))):=by
 unfold WH
 rw [AI (f:=H4 xs rs v) (s0:=(false,0)) (fun j=>(false,(j:Int))) rs.length (pAt (fun r=>AQ xs r == v) rs) (fun j=>.ret (true,(j:Int))) (.exit 0 (false,(rs.length:Int))) (fun j hj _ hp=>?_) (fun j hj _ hp=>?_) (fun _=>?_) (Bo hl) rfl]
 ·have e:decide (v∈rs.map (AQ xs)) = rs.any fun r=>AQ xs r == v:=by
   rw [Bool.eq_iff_iff]
   simp
  rw [e,← C9]
  cases BQ (pAt (fun r=>AQ xs r == v) rs) rs.length <;> rfl
 ·rw [AU hj] at hp
  have hc':(j:Int) < (rs.length:Int):=by omega
  obtain ⟨x,g⟩:=hr _ (List.getElem_mem hj)
  have g3:AQ xs rs[j] = x.From:=by simp [AQ,g]
  rw [g3] at hp
  unfold H4
  simp only [hc',decide_true,cond_true,AZ hj,obs,g,hp,cond_false,wi1 (show j≤1099511627776 by omega)]
 ·rw [AU hj] at hp
  have hc':(j:Int) < (rs.length:Int):=by omega
  obtain ⟨x,g⟩:=hr _ (List.getElem_mem hj)
  have g3:AQ xs rs[j] = x.From:=by simp [AQ,g]
  rw [g3] at hp
  unfold H4
  simp only [hc',decide_true,cond_true,AZ hj,obs,g,hp]
  exact ⟨trivial,rfl⟩
 ·unfold H4
  simp only [Int.lt_irrefl,decide_false,cond_false]
  exact ⟨trivial,rfl⟩
theorem BK.ref_in {f:Int} {xs:List Ah} (H:BK f xs) {m:Ah} (hm:m∈xs):∀ r∈m.Refs,∃ x,Aq xs r = some x:=fun r hr=>by
 have h1:=(H.msg m hm).ref r hr
 obtain ⟨i,hi,rfl⟩:=List.mem_iff_getElem.1 hm
 have h2:=H.refs i hi r hr
 refine ⟨xs[r.toNat]'(by omega),?_⟩
 unfold Aq
 rw [if_pos h1.1,List.getElem?_eq_getElem]
theorem W2 {f:Int} {xs:List Ah} (H:BK f xs) (i:Int):WN f xs i = some (EK f xs i):=by
 unfold WN EK
 have hf:=H.f12
 have hm:=Ce hf
 rw [bT H.len',obs]
 cases hg:Aq xs i with
 | none=>rfl
 | some m=>
  have mo:=H.msg m (Dj hg)
  have hrl:m.Refs.length≤7:=by have:=mo.refsl; omega
  have hri:=H.ref_in (Dj hg)
  dsimp only
  unfold HF
  cases e1:(m.Kind == 5)
  ·rfl
  simp only [Bool.not_true,cond_false,TM hf,obs,Bool.true_and]
  by_cases hv:m.View < 1
  ·have hv':¬ m.View > 0:=by omega
   simp only [hv,hv',decide_true,decide_false,cond_true,obs,Ai,Bool.true_and,Bool.false_and]
  have hv':m.View > 0:=by omega
  simp only [hv,hv',decide_true,decide_false,cond_false,obs,Ai,Bool.true_and]
  cases e2:m.From == Dz f m.View
  ·have:(m.From != Dz f m.View) = true:=by unfold bne; rw [e2]; rfl
   rw [this]; rfl
  have:(m.From != Dz f m.View) = false:=by unfold bne; rw [e2]; rfl
  rw [this]
  simp only [cond_false,obs,Ai,Bool.true_and]
  rw [show decide ((m.Refs.length:Int) < Xj f) = decide ((m.Refs.length:Int) < D4 f) from rfl]
  cases decide ((m.Refs.length:Int) < D4 f)
  rotate_left
  ·rfl
  simp only [cond_false,obs,Ai,Bool.not_false,Bool.true_and]
  rw [AI (f:=H6 f xs m) (s0:=(false,0)) (fun j=>(false,(j:Int))) m.Refs.length (Fg f xs m) (fun j=>.ret (false,(j:Int))) (.exit 0 (false,(m.Refs.length:Int))) (fun j hj _ hp=>?_) (fun j hj _ hp=>?_) (fun _=>?_) (Bo (by omega)) rfl]
  ·cases BQ (Fg f xs m) m.Refs.length <;> rfl
  ·have hc':(j:Int) < (m.Refs.length:Int):=by omega
   rw [D3 hj,Bool.or_eq_false_iff,Bool.or_eq_false_iff] at hp
   obtain ⟨p1,p2,p3⟩:=hp
   rw [Bool.not_eq_false'] at p1
   obtain ⟨x,g1,g2,g3⟩:=CW p1
   rw [g2] at p2
   rw [g3] at p3
   unfold H6
   simp only [hc',decide_true,cond_true,AZ hj,obs,JG H,p1,Bool.not_true,cond_false,g1,p2,EZ (Nat.le_of_lt hj)]
   rw [Nr (by rw [List.length_take]; omega) (fun r hr=>hri r (List.mem_of_mem_take hr)),p3]
   simp only [obs,Ai,cond_false,wi1 (show j≤1099511627776 by omega)]
  ·have hc':(j:Int) < (m.Refs.length:Int):=by omega
   rw [D3 hj] at hp
   unfold H6
   simp only [hc',decide_true,cond_true,AZ hj,obs,JG H]
   cases p1:BH f xs m.Refs[j]
   ·exact ⟨rfl,rfl⟩
   obtain ⟨x,g1,g2,g3⟩:=CW p1
   rw [p1,g2,g3] at hp
   simp only [Bool.not_true,cond_false,g1,obs]
   cases p2:x.View != m.View
   rotate_left
   ·exact ⟨rfl,rfl⟩
   rw [p2] at hp
   simp only [cond_false,EZ (Nat.le_of_lt hj),obs]
   rw [Nr (by rw [List.length_take]; omega) (fun r hr=>hri r (List.mem_of_mem_take hr))]
   simp only [Bool.not_true,Bool.false_or] at hp
   rw [hp]
   exact ⟨rfl,rfl⟩
  ·unfold H6
   simp only [Int.lt_irrefl,decide_false,cond_false]
   exact ⟨trivial,rfl⟩
open Go Go.Rf
def Fq (n:Nat):List Int:=(List.range n).map fun (j:Nat)=>(j:Int)
theorem QV (n:Nat):Fq (n + 1) = Fq n++[(n:Int)]:=by simp [Fq,List.range_succ]
theorem Uy (n:Nat) (k:Int):k∈Fq n ↔ 0≤k∧k < n:=by
 simp only [Fq,List.mem_map,List.mem_range]
 constructor
 ·rintro ⟨j,h,rfl⟩; omega
 ·intro h; exact ⟨k.toNat,by omega,by omega⟩
theorem PK (n:Nat):(Fq n).Pairwise (· < ·):=by
 unfold Fq
 rw [List.pairwise_map]
 exact List.pairwise_lt_range.imp fun h=>by omega
def HJ (f:Int) (xs:List Ah) (s v:Int) (x:Ah):Bool:=((x.Kind == 3) && ((x.Slot == s) && (x.Value == v))) && Bl f xs 3 x.View s v
def GL (f:Int) (xs:List Ah) (s v:Int):Bool:=xs.any (HJ f xs s v)
def D6 (f:Int) (xs:List Ah) (s:Int):List Int:=(Fq 13).filter (GL f xs s)
theorem YH (a b c:Bool):(bif a then
     bif b then
      some (LO.norm c)
     else
      some (LO.norm false)
    else
     some (LO.norm false)) = some (LO.norm (a && (b && c))):=by
 cases a <;> cases b <;> rfl
theorem Ym {α:Type} {xs:List α} {q:α→Bool} {i:Nat} (h:i < xs.length):(xs.take (i + 1)).any q = ((xs.take i).any q || q xs[i]):=by
 rw [EA h,List.any_append]; simp
theorem Uz {f:Int} {xs:List Ah} (H:BK f xs) (s v:Int) (L:List Int):∃ j,Ax (KX f xs s (v,L)) NN (false,0) = some (.exit 2 (GL f xs s v,j)):=by
 obtain ⟨o,h1,j,rfl⟩:=Dh (f:=KX f xs s (v,L)) (fun i t=>t = ((xs.take i).any (HJ f xs s v),(i:Int))) xs.length (fun o=>∃ j,o = .exit 2 (GL f xs s v,j)) (fun i t hi ht=>by
  subst ht
  unfold KX
  dsimp only
  by_cases hc:i < xs.length
  ·have hc':(i:Int) < (xs.length:Int):=by omega
   simp only [hc',decide_true,cond_true,obs,Ai]
   cases hf:(xs.take i).any (HJ f xs s v)
   ·simp only [Bool.not_false,cond_true,obs,Ai,AZ hc,YH]
    have e:=Ym (q:=HJ f xs s v) hc
    rw [hf,Bool.false_or] at e
    rw [Hg H (show (3:Int)≤3 by omega)]
    refine .inl ⟨hc,((xs.take (i + 1)).any (HJ f xs s v),((i + 1:Nat):Int)),?_,rfl⟩
    rw [e]
    unfold HJ
    cases (xs[i].Kind == 3 && (xs[i].Slot == s && (xs[i].Value == v)))
    ·simp only [cond_false,obs,Ai,wi1 (show i≤1099511627776 by have:=H.len; omega),Bool.false_and]
    ·simp only [cond_true,obs,Ai,wi1 (show i≤1099511627776 by have:=H.len; omega),Bool.true_and]
   ·simp only [Bool.not_true,cond_false,obs,Ai]
    refine .inr (.inl ⟨_,_,rfl,(i:Int),?_⟩)
    have:GL f xs s v = true:=by
     unfold GL
     rw [List.any_eq_true] at hf ⊢
     obtain ⟨x,hx,hq⟩:=hf
     exact ⟨x,List.mem_of_mem_take hx,hq⟩
    rw [this]
  ·have hc':¬ (i:Int) < (xs.length:Int):=by omega
   have:i = xs.length:=by omega
   subst this
   simp only [hc',decide_false,cond_false,obs,Ai,List.take_length]
   exact .inr (.inl ⟨_,_,rfl,_,rfl⟩)) NN 0 (false,0) (Nat.zero_le _) (Bo H.len') rfl
 exact ⟨j,h1⟩
theorem X8 (p:Int→Bool) {i:Nat} (hi:i≤13):((Fq i).filter p).length≤1000:=Nat.le_trans (List.length_filter_le _ _) (by simp [Fq]; omega)
theorem IT {f:Int} {xs:List Ah} (H:BK f xs) (s:Int):m32 f xs s = some (D6 f xs s):=by
 unfold m32
 rw [Di (f:=KW f xs s) (s0:=(0,[])) (fun i=>((i:Int),(Fq i).filter (GL f xs s))) 13 (.exit 0 (13,D6 f xs s)) (fun i hi=>?_) ?_ rfl (Bo (by omega)) rfl]
 ·rfl
 ·unfold KW
  rfl
 ·unfold KW
  have hc:(i:Int)≤12:=by omega
  have e:wi .i64 ((i:Int) + 1) = ((i + 1:Nat):Int):=wi1 (by omega)
  obtain ⟨j,hj⟩:=Uz H s (i:Int) ((Fq i).filter (GL f xs s))
  simp only [hc,decide_true,cond_true,hj,obs,Ai,if_true]
  rw [QV,List.filter_append]
  cases hd:GL f xs s (i:Int)
  ·simp only [cond_false,obs,Ai,e]
   simp [hd]
  ·simp only [cond_true,ME (X8 (GL f xs s) (i:=i) (by omega)),obs,Ai,e]
   simp [hd]
def ES (p:Ah→Bool) (L:List Int) (x:Ah):List Int:=if (p x && !decide (x.Value∈L)) = true then L++[x.Value] else L
theorem Vg (p:Ah→Bool) (L:List Int) (x:Ah):ES p L x = bif (p x && !decide (x.Value∈L)) then L++[x.Value] else L:=by
 unfold ES; rw [ZM]
theorem LP (p:Ah→Bool):∀ (l:List Ah) (L:List Int) (v:Int),v∈l.foldl (ES p) L ↔ v∈L∨∃ x∈l,p x = true∧x.Value = v
 | [],L,v=>by simp
 | x::l,L,v=>by
  rw [List.foldl_cons,LP p l]
  unfold ES
  by_cases h:(p x && !decide (x.Value∈L)) = true
  ·rw [if_pos h,List.mem_append,List.mem_singleton]
   rw [Bool.and_eq_true] at h
   constructor
   ·rintro ((h1 | rfl) | ⟨y,hy,h2⟩)
    ·exact .inl h1
    ·exact .inr ⟨x,by simp,h.1,rfl⟩
    ·exact .inr ⟨y,by simp [hy],h2⟩
   ·rintro (h1 | ⟨y,hy,h2,h3⟩)
    ·exact .inl (.inl h1)
    ·rcases List.mem_cons.1 hy with rfl | hy
     ·exact .inl (.inr h3.symm)
     ·exact .inr ⟨y,hy,h2,h3⟩
  ·rw [if_neg h]
   constructor
   ·rintro (h1 | ⟨y,hy,h2⟩)
    ·exact .inl h1
    ·exact .inr ⟨y,by simp [hy],h2⟩
   ·rintro (h1 | ⟨y,hy,h2,h3⟩)
    ·exact .inl h1
    ·rcases List.mem_cons.1 hy with rfl | hy
     ·left
      rw [h2] at h
      simp at h
      rw [← h3]; exact h
     ·exact .inr ⟨y,hy,h2,h3⟩
theorem On (p:Ah→Bool):∀ (l:List Ah) (L:List Int),L.Nodup→(l.foldl (ES p) L).Nodup
 | [],L,h=>h
 | x::l,L,h=>by
  rw [List.foldl_cons]
  refine On p l _ ?_
  unfold ES
  by_cases hc:(p x && !decide (x.Value∈L)) = true
  ·rw [if_pos hc]
   rw [Bool.and_eq_true] at hc
   have h2:=hc.2
   simp at h2
   rw [List.nodup_append]
   refine ⟨h,by simp,fun a ha b hb e=>?_⟩
   rw [List.mem_singleton] at hb
   subst hb; subst e
   exact h2 ha
  ·rw [if_neg hc]; exact h
def Ft (f:Int) (xs:List Ah) (s:Int) (x:Ah):Bool:=(x.Kind == 3) && ((x.Slot == s) && Bl f xs 3 x.View s x.Value)
theorem dI (a b c d:Bool):(bif a then
     bif b then
      (some c).bind fun y1=>
      bif !y1 then
       (some d).bind fun y2=>
       some (LO.norm y2)
      else
       some (LO.norm false)
     else
      some (LO.norm false)
    else
     some (LO.norm false)) = some (LO.norm ((a && (b && d)) && !c)):=by
 cases a <;> cases b <;> cases c <;> cases d <;> rfl
def ZY (f:Int) (xs:List Ah):Prop:=∀ (s:Int) (n:Nat),((xs.take n).foldl (ES (Ft f xs s)) []).length≤12
theorem LU {f:Int} {xs:List Ah} (H:BK f xs) (W:ZY f xs) (s:Int):m31 f xs s = some (D6 f xs s):=by
 have hlen:=W s
 unfold m31
 rw [Di (f:=KY f xs s) (s0:=(0,[])) (fun i=>((i:Int),(xs.take i).foldl (ES (Ft f xs s)) [])) xs.length (.exit 0 ((xs.length:Int),(xs.take xs.length).foldl (ES (Ft f xs s)) [])) (fun i hi=>?_) ?_ rfl (Bo H.len') rfl]
 ·have hl:=hlen xs.length
  obtain ⟨ys,k1,k2,k3⟩:=bZ (xs:=(xs.take xs.length).foldl (ES (Ft f xs s)) []) (by omega)
  simp only [obs,Ai,if_true,k1]
  congr 1
  have hnd:ys.Nodup:=k2.nodup_iff.2 (On _ _ _ List.nodup_nil)
  refine Jb _ _ ?_ ((PK _).filter _) fun v=>?_
  ·rw [List.Nodup] at hnd
   exact (List.pairwise_and_iff.2 ⟨k3,hnd⟩).imp fun h=>by omega
  ·rw [k2.mem_iff,List.take_length,LP]
   unfold D6
   rw [List.mem_filter,Uy]
   unfold GL
   rw [List.any_eq_true]
   constructor
   ·rintro (h | ⟨x,hx,hp,rfl⟩)
    ·cases h
    ·unfold Ft at hp
     simp only [Bool.and_eq_true,beq_iff_eq] at hp
     have:=(H.msg x hx).value (by omega)
     refine ⟨by omega,x,hx,?_⟩
     unfold HJ
     simp only [Bool.and_eq_true,beq_iff_eq]
     exact ⟨⟨hp.1,hp.2.1,trivial⟩,hp.2.2⟩
   ·rintro ⟨_,x,hx,hp⟩
    unfold HJ at hp
    simp only [Bool.and_eq_true,beq_iff_eq] at hp
    obtain ⟨⟨h1,h2,h3⟩,h4⟩:=hp
    refine .inr ⟨x,hx,?_,h3⟩
    unfold Ft
    simp only [Bool.and_eq_true,beq_iff_eq]
    subst h3
    exact ⟨h1,h2,h4⟩
 ·unfold KY
  simp only [Int.lt_irrefl,decide_false,cond_false]
 ·have hc':(i:Int) < (xs.length:Int):=by omega
  have hil:i≤1099511627776:=by have:=H.len; omega
  have hl:=hlen i
  unfold KY
  simp only [hc',decide_true,cond_true,AZ hi,obs]
  rw [show m72 ((xs.take i).foldl (ES (Ft f xs s)) []) xs[i].Value = some (decide (xs[i].Value∈(xs.take i).foldl (ES (Ft f xs s)) [])) from Jw (Bo (by omega)) (C7 (by omega)),JF H (show (3:Int)≤3 by omega),dI]
  rw [EA hi,List.foldl_append,List.foldl_cons,List.foldl_nil]
  have e:((xs[i].Kind == 3 && (xs[i].Slot == s && Bl f xs 3 xs[i].View s xs[i].Value)) && !decide (xs[i].Value∈(xs.take i).foldl (ES (Ft f xs s)) [])) = (Ft f xs s xs[i] && !decide (xs[i].Value∈(xs.take i).foldl (ES (Ft f xs s)) [])):=rfl
  rw [e]
  rw [Vg]
  cases hs:(Ft f xs s xs[i] && !decide (xs[i].Value∈(xs.take i).foldl (ES (Ft f xs s)) []))
  ·simp only [obs,Ai,cond_false,wi1 hil]
  ·simp only [obs,Ai,cond_true,ME (show ((xs.take i).foldl (ES (Ft f xs s)) []).length≤1000 by omega),wi1 hil]
def Hf (f:Int) (xs:List Ah) (i:Nat):List Int:=(CN i).map fun s=>(D6 f xs s).headD 0
def DY (f:Int) (xs:List Ah) (i:Nat):Bool:=(D6 f xs ((i:Int) + 1)).isEmpty
def E7 (f:Int) (xs:List Ah):List Int:=orF (BQ (DY f xs) 30) (Hf f xs) (Hf f xs 30)
theorem HA (f:Int) (xs:List Ah) (i:Nat):(Hf f xs i).length = i:=by simp [Hf,CN]
theorem PD (f:Int) (xs:List Ah) (i:Nat):Hf f xs (i + 1) = Hf f xs i++[(D6 f xs ((i:Int) + 1)).headD 0]:=by
 unfold Hf; rw [FN,List.map_append]; rfl
theorem I9 {l:List Int}:((l.length:Int) == 0) = l.isEmpty:=by
 cases l with
 | nil=>rfl
 | cons x r=>
  rw [Bool.eq_iff_iff]
  simp; omega
theorem PC {l:List Int} (h:l.isEmpty = false):Aq l 0 = some (l.headD 0):=by
 cases l with
 | nil=>cases h
 | cons x r=>rfl
theorem Gi {i:Nat} (h:i≤1048576):wi .i64 ((i:Int) + 1 + 1) = ((i + 1:Nat):Int) + 1:=by rw [Dt (by omega) (by omega)]; omega
theorem Px {f:Int} {xs:List Ah} (H:BK f xs) (W:ZY f xs):m53 f xs = some (E7 f xs):=by
 unfold m53 E7
 rw [AI (f:=KU f xs) (s0:=(1,[])) (fun i=>((i:Int) + 1,Hf f xs i)) 30 (DY f xs) (fun i=>.exit 0 ((i:Int) + 1,Hf f xs i)) (.exit 0 (31,Hf f xs 30)) (fun i hi _ hp=>?_) (fun i hi _ hp=>?_) (fun _=>?_) (Bo (by omega)) rfl]
 ·cases BQ (DY f xs) 30 <;> rfl
 ·have hc:(i:Int) + 1≤30:=by omega
  unfold KU
  unfold DY at hp
  have hl:=HA f xs i
  simp only [hc,decide_true,cond_true,LU H W,obs,I9,hp,cond_false,PC hp,ME (show (Hf f xs i).length≤1000 by omega),Gi (show i≤1048576 by omega),PD]
 ·have hc:(i:Int) + 1≤30:=by omega
  unfold KU
  unfold DY at hp
  simp only [hc,decide_true,cond_true,LU H W,obs,I9,hp]
  exact ⟨trivial,rfl⟩
 ·exact ⟨rfl,rfl⟩
theorem Xp {f:Int} {xs:List Ah} (H:BK f xs):Ui f xs = some (E7 f xs):=by
 unfold Ui E7
 rw [AI (f:=IF f xs) (s0:=(false,1,[])) (fun i=>(false,(i:Int) + 1,Hf f xs i)) 30 (DY f xs) (fun i=>.ret (true,(i:Int) + 1,Hf f xs i)) (.exit 0 (false,31,Hf f xs 30)) (fun i hi _ hp=>?_) (fun i hi _ hp=>?_) (fun _=>?_) (Bo (by omega)) rfl]
 ·cases BQ (DY f xs) 30 <;> rfl
 ·have hc:(i:Int) + 1≤30:=by omega
  unfold IF
  unfold DY at hp
  have hl:=HA f xs i
  simp only [hc,decide_true,cond_true,IT H,obs,I9,hp,cond_false,PC hp,ME (show (Hf f xs i).length≤1000 by omega),Gi (show i≤1048576 by omega),PD]
 ·have hc:(i:Int) + 1≤30:=by omega
  unfold IF
  unfold DY at hp
  simp only [hc,decide_true,cond_true,cond_false,IT H,obs,I9,hp]
  exact ⟨trivial,rfl⟩
 ·exact ⟨rfl,rfl⟩
theorem Ob (f:Int) (xs:List Ah):(E7 f xs).length≤30:=by
 unfold E7
 rcases BC (DY f xs) 30 with h | ⟨i,h1,h2,h3⟩
 ·rw [BO h]; simp [orF,HA]
 ·rw [Bt h1 h2 h3]; simp [orF,HA]; omega
open Go Go.Rf
def CO (f:Int) (xs:List Ah) (r:Af):Bool:=(r.Start != (-1)) && ((r.View == 0) || (!EK f xs r.Start || (Bw xs r.Start != r.View)))
def Dw (f:Int) (r:Af):Bool:=!inR r.Id 1 (BG f) || (!inR r.View 0 20 || !inR r.Done 0 30)
def BV (f:Int) (xs:List Ah) (r:Af):Int:=bif Dw f r then 3 else bif CO f xs r then 1 else bif decide (r.Done > ((E7 f xs).length:Int)) then 8 else 0
theorem Es {f:Int} {xs:List Ah} {r:Int} (h:EK f xs r = true):∃ x,Aq xs r = some x∧Bw xs r = x.View:=by
 unfold EK at h
 cases hg:Aq xs r with
 | none=>rw [hg] at h; cases h
 | some x=>exact ⟨x,rfl,by simp [Bw,hg]⟩
theorem ON {f:Int} {xs:List Ah} (H:BK f xs) (r:Af):m54 f xs r ((E7 f xs).length:Int) = some (BV f xs r):=by
 unfold m54 BV
 rw [Iy,JS,in2,Gj]
 simp only [obs,Ai]
 rw [show (!inR r.Id 1 (BG f) || (!inR r.View 0 20 || !inR r.Done 0 30)) = Dw f r from rfl]
 cases Dw f r
 rotate_left
 ·rfl
 simp only [cond_false,KP H,obs]
 unfold CO
 cases r.Start != (-1)
 ·simp only [cond_false,obs,Ai,Bool.false_and]
  cases decide (r.Done > ((E7 f xs).length:Int)) <;> rfl
 simp only [cond_true,Bool.true_and]
 cases r.View == 0
 rotate_left
 ·rfl
 simp only [cond_false,Bool.false_or]
 cases hn:EK f xs r.Start
 ·rfl
 obtain ⟨x,g1,g2⟩:=Es hn
 simp only [Bool.not_true,cond_false,Bool.false_or,g1,obs,g2,Ai]
 cases x.View != r.View
 rotate_left
 ·rfl
 cases decide (r.Done > ((E7 f xs).length:Int)) <;> rfl
theorem Qw {f:Int} {xs:List Ah} (H:BK f xs) (v i:Int) (hv:(v == 0) = false):WY f xs v i = some (EK f xs i && (Bw xs i == v)):=by
 unfold WY
 rw [hv,cond_false,W2 H,obs]
 cases hn:EK f xs i
 ·rfl
 obtain ⟨x,g1,g2⟩:=Es hn
 rw [g1,g2]; rfl
theorem OM {f:Int} {xs:List Ah} (H:BK f xs) (r:Af):Xl f xs r = some (BV f xs r):=by
 unfold Xl BV
 rw [X1,in1,in1,Gj]
 simp only [obs,Ai]
 rw [show (!inR r.Id 1 (BG f) || (!inR r.View 0 20 || !inR r.Done 0 30)) = Dw f r from rfl]
 cases hb:Dw f r
 rotate_left
 ·rfl
 have hd:0≤r.Done:=by
  unfold Dw at hb
  simp only [Bool.or_eq_false_iff,Bool.not_eq_false',B9] at hb
  exact hb.2.2.1
 have tail:((bif decide (r.Done > 0) then
     (Ui f xs).bind fun y2=>
     bif decide (r.Done > (y2.length:Int)) then
      some (LO.ret 8)
     else
      some (LO.norm (0:Int))
    else
     some (LO.norm 0)).bind (Ai (fun s10=>
    some (0:Int)) (fun i5 s10=>
    none) (fun s10=>
    some s10))) = some (bif decide (r.Done > ((E7 f xs).length:Int)) then 8 else 0):=by
  rw [Xp H]
  by_cases h0:r.Done > 0
  ·simp only [h0,decide_true,cond_true,obs]
   cases decide (r.Done > ((E7 f xs).length:Int)) <;> rfl
  ·have h1:¬ r.Done > ((E7 f xs).length:Int):=by omega
   simp only [h0,h1,decide_false,cond_false,obs,Ai]
 simp only [cond_false,obs,Ai]
 unfold CO
 cases r.Start != (-1)
 ·simp only [cond_false,obs,Ai,Bool.false_and]
  exact tail
 simp only [cond_true,Bool.true_and]
 cases hv:r.View == 0
 rotate_left
 ·rfl
 simp only [cond_false,Bool.false_or,Qw H _ _ hv,obs,Ai]
 have e:(!(EK f xs r.Start && (Bw xs r.Start == r.View))) = (!EK f xs r.Start || (Bw xs r.Start != r.View)):=by
  unfold bne; rw [Bool.not_and]
 rw [e]
 cases (!EK f xs r.Start || (Bw xs r.Start != r.View))
 rotate_left
 ·rfl
 simp only [cond_false,obs,Ai]
 exact tail
def Qf (f:Int) (bs:List Int) (i:Nat):Bool:=!inR (A bs i) 1 (BG f) || Dp bs i
def EW (f:Int) (bs:List Int):Int:=orF (BQ (Qf f bs) bs.length) (fun i=>bif !inR (A bs i) 1 (BG f) then 3 else 1) 0
theorem N6 {f:Int} {bs:List Int} {i:Nat} (h:i < bs.length):Qf f bs i = (!inR bs[i] 1 (BG f) || (decide (0 < i) && decide (bs[i]≤bs[i - 1]))):=by
 unfold Qf Dp
 rw [Eg h,Eg (show i - 1 < bs.length by omega)]
theorem M5 (f:Int) (bs:List Int) (h:bs.length≤1048576):m51 f bs = some (EW f bs):=by
 unfold m51 EW
 rw [AI (f:=GZ f bs) (s0:=(0,0)) (fun i=>(0,(i:Int))) bs.length (Qf f bs) (fun i=>.ret (bif !inR (A bs i) 1 (BG f) then 3 else 1,(i:Int))) (.exit 0 (0,(bs.length:Int))) (fun i hi _ hp=>?_) (fun i hi _ hp=>?_) (fun _=>?_) (Bo h) rfl]
 ·cases BQ (Qf f bs) bs.length <;> rfl
 ·have hc':(i:Int) < (bs.length:Int):=by omega
  have hb:i≤big:=Nat.le_trans (Nat.le_of_lt hi) (C7 h)
  rw [N6 hi,Bool.or_eq_false_iff] at hp
  unfold GZ
  simp only [hc',decide_true,cond_true,AZ hi,obs,Iy,hp.1,cond_false]
  by_cases h0:0 < i
  ·have h0':(i:Int) > 0:=by omega
   have hp2:=hp.2
   rw [decide_eq_true h0,Bool.true_and] at hp2
   simp only [h0',decide_true,cond_true,Ht h0 hb,AZ (show i - 1 < bs.length by omega),obs,hp2,cond_false,Ai,wi1 hb]
  ·have h0':¬ (i:Int) > 0:=by omega
   simp only [h0',decide_false,cond_false,obs,Ai,wi1 hb]
 ·have hc':(i:Int) < (bs.length:Int):=by omega
  have hb:i≤big:=Nat.le_trans (Nat.le_of_lt hi) (C7 h)
  rw [N6 hi] at hp
  unfold GZ
  simp only [hc',decide_true,cond_true,AZ hi,obs,Iy,Eg hi]
  cases hr:!inR bs[i] 1 (BG f)
  ·rw [hr,Bool.false_or,Bool.and_eq_true] at hp
   have h0:0 < i:=of_decide_eq_true hp.1
   have h0':(i:Int) > 0:=by omega
   simp only [cond_false,h0',decide_true,cond_true,Ht h0 hb,AZ (show i - 1 < bs.length by omega),obs,hp.2,Ai]
   exact ⟨trivial,rfl⟩
  ·exact ⟨rfl,rfl⟩
 ·unfold GZ
  simp only [Int.lt_irrefl,decide_false,cond_false]
  exact ⟨trivial,rfl⟩
theorem Yd (f:Int) (bs:List Int):NX f bs = GZ f bs:=by
 funext s
 unfold NX GZ
 cases hg:Aq bs s.2 with
 | none=>rfl
 | some x=>
  simp only [obs,X1,Iy]
theorem Ye (f:Int) (bs:List Int) (h:bs.length≤1048576):m66 f bs = some (bif decide ((bs.length:Int) > f) then 2 else EW f bs):=by
 unfold m66
 cases decide ((bs.length:Int) > f)
 rotate_left
 ·rfl
 simp only [cond_false]
 rw [Yd]
 exact M5 f bs h
def GI (bs:List Int) (id:Int):Bool:=!decide (id∈bs)
def CL (f:Int) (bs:List Int):List Int:=(CN (3 * f + 1).toNat).filter (GI bs)
theorem J7 {f:Int} (hf:1≤f∧f≤2) (bs:List Int) (h:bs.length≤1048576):m36 f bs = some (CL f bs):=by
 have hm:=Ce hf
 unfold m36
 rw [Di (f:=KV f bs) (s0:=(1,[])) (fun i=>((i:Int) + 1,(CN i).filter (GI bs))) (3 * f + 1).toNat (.exit 0 (((3 * f + 1).toNat:Int) + 1,CL f bs)) (fun i hi=>?_) ?_ rfl (Bo (by omega)) rfl]
 ·rfl
 ·unfold KV
  have hc:¬ (((3 * f + 1).toNat:Int) + 1≤BG f):=by omega
  have hc':decide ((((3 * f + 1).toNat:Int) + 1)≤m75 f) = false:=decide_eq_false hc
  dsimp only
  rw [hc',cond_false]
  rfl
 ·unfold KV
  have hc:(i:Int) + 1≤BG f:=by omega
  have hc':decide ((i:Int) + 1≤m75 f) = true:=decide_eq_true hc
  dsimp only
  rw [hc',cond_true,show m72 bs ((i:Int) + 1) = some (decide ((i:Int) + 1∈bs)) from Jw (Bo h) (C7 h),obs,FN,List.filter_append]
  have e:wi .i64 ((i:Int) + 1 + 1) = ((i + 1:Nat):Int) + 1:=Gi (by omega)
  cases hs:GI bs ((i:Int) + 1)
  ·have hs':(!decide ((i:Int) + 1∈bs)) = false:=hs
   simp only [hs',cond_false,obs,Ai,e]
   simp [hs]
  ·have hs':(!decide ((i:Int) + 1∈bs)) = true:=hs
   simp only [hs',cond_true,ME (DR hf (p:=GI bs) (i:=i) (by omega)),obs,Ai,e]
   simp [hs]
theorem SN (bs:List Int) (v:Int) (h:bs.length≤1048576):m29 bs v = some (!GI bs v):=by
 unfold m29
 rw [AI (f:=Jp bs v) (s0:=(false,0)) (fun i=>(false,(i:Int))) bs.length (pAt (fun x=>x == v) bs) (fun i=>.ret (true,(i:Int))) (.exit 0 (false,(bs.length:Int))) (fun i hi _ hp=>?_) (fun i hi _ hp=>?_) (fun _=>?_) (Bo h) rfl]
 ·have e:(!GI bs v) = bs.any fun x=>x == v:=by
   unfold GI
   rw [Bool.not_not,Bool.eq_iff_iff]
   simp
  rw [e,← C9]
  cases BQ (pAt (fun x=>x == v) bs) bs.length <;> rfl
 ·rw [AU hi] at hp
  have hc':(i:Int) < (bs.length:Int):=by omega
  unfold Jp
  simp only [hc',decide_true,cond_true,AZ hi,obs,hp,cond_false,wi1 (show i≤1099511627776 by omega)]
 ·rw [AU hi] at hp
  have hc':(i:Int) < (bs.length:Int):=by omega
  unfold Jp
  simp only [hc',decide_true,cond_true,AZ hi,obs,hp]
  exact ⟨trivial,rfl⟩
 ·unfold Jp
  simp only [Int.lt_irrefl,decide_false,cond_false]
  exact ⟨trivial,rfl⟩
def Ge (bs:List Int) (i:Nat):Nat:=((CN i).filter (GI bs)).length
theorem Ny (bs:List Int) (i:Nat):Ge bs (i + 1) = Ge bs i + if GI bs ((i:Int) + 1) = true then 1 else 0:=by
 unfold Ge
 rw [FN,List.filter_append,List.length_append]
 by_cases h:GI bs ((i:Int) + 1) = true
 ·rw [if_pos h]; simp [h]
 ·rw [if_neg h]; simp [h]
theorem ZF (bs:List Int) (i:Nat):Ge bs i≤i:=by
 unfold Ge
 exact Nat.le_trans (List.length_filter_le _ _) (by simp [CN])
def J9 (bs ids:List Int) (i:Nat):Bool:=GI bs ((i:Int) + 1) && !decide (ids[Ge bs i]? = some ((i:Int) + 1))
theorem P6 (bs ids:List Int):∀ n,(∀ j,j < n→J9 bs ids j = false)→(CN n).filter (GI bs) = ids.take (Ge bs n)
 | 0,_=>rfl
 | n + 1,h=>by
  have ih:=P6 bs ids n fun j hj=>h j (by omega)
  rw [Ny,FN,List.filter_append,ih]
  have h2:=h n (by omega)
  unfold J9 at h2
  by_cases ho:GI bs ((n:Int) + 1) = true
  ·rw [ho,Bool.true_and] at h2
   simp at h2
   rw [if_pos ho,List.take_add_one,h2]
   simp [ho]
  ·rw [if_neg ho]; simp [ho]
theorem QT (bs ids:List Int) (n:Nat):ids = (CN n).filter (GI bs) ↔ (∀ j,j < n→J9 bs ids j = false)∧Ge bs n = ids.length:=by
 constructor
 ·intro e
  refine ⟨fun j hj=>?_,by rw [e]; rfl⟩
  unfold J9
  cases ho:GI bs ((j:Int) + 1)
  ·rfl
  rw [Bool.true_and,e]
  have e2:CN n = CN j++(((j:Int) + 1)::(CN n).drop (j + 1)):=by
   have e3:(CN n).take j = CN j:=by
    unfold CN
    rw [← List.map_take,List.take_range]
    congr 2; omega
   have hl:j < (CN n).length:=by simp [CN]; omega
   have e4:(CN n)[j] = (j:Int) + 1:=by simp [CN]
   have:=List.take_append_drop j (CN n)
   rw [List.drop_eq_getElem_cons hl,e3,e4] at this
   exact this.symm
  rw [e2,List.filter_append,List.filter_cons,if_pos ho]
  have:Ge bs j = ((CN j).filter (GI bs)).length:=rfl
  rw [List.getElem?_append_right (by omega),this,Nat.sub_self]
  simp
 ·rintro ⟨h1,h2⟩
  rw [P6 bs ids n h1,h2,List.take_length]
theorem TJ (c:Aa) (hf:1≤c.F∧c.F≤2) (hb:c.Bad.length≤1048576) (hr:c.Replicas.length≤1048576) :
  (c.Replicas.map (·.Id) = CL c.F c.Bad∧∃ j,Ax (Gx c) NN (0,0,1) = some (.exit 0 (0,(c.Replicas.length:Int),j))) ∨
  (c.Replicas.map (·.Id)≠CL c.F c.Bad∧((∃ a j,Ax (Gx c) NN (0,0,1) = some (.exit 0 (0,a,j))∧a≠(c.Replicas.length:Int))∨∃ s,Ax (Gx c) NN (0,0,1) = some (.ret s)∧s.1 = 1)):=by
 have hm:=Ce hf
 have key:=AI (f:=Gx c) (N:=NN) (s0:=(0,0,1)) (fun i=>(0,(Ge c.Bad i:Int),(i:Int) + 1)) (3 * c.F + 1).toNat (J9 c.Bad (c.Replicas.map (·.Id))) (fun i=>.ret (1,(Ge c.Bad i:Int),(i:Int) + 1)) (.exit 0 (0,(Ge c.Bad (3 * c.F + 1).toNat:Int),((3 * c.F + 1).toNat:Int) + 1)) (fun i hi _ hp=>by
   have hc:(i:Int) + 1≤BG c.F:=by omega
   have hc':decide ((i:Int) + 1≤wi .i64 ((wi .i64 (3 * c.F)) + 1)) = true:=decide_eq_true hc
   have e:wi .i64 ((i:Int) + 1 + 1) = ((i + 1:Nat):Int) + 1:=Gi (by omega)
   have hcl:=ZF c.Bad i
   unfold Gx
   dsimp only
   rw [hc',cond_true,SN _ _ hb,obs,Ny]
   unfold J9 at hp
   cases ho:GI c.Bad ((i:Int) + 1)
   ·simp [Ai,e]
   ·rw [ho,Bool.true_and] at hp
    simp only [Bool.not_eq_false',decide_eq_true_eq] at hp
    have hlt:Ge c.Bad i < c.Replicas.length:=by
     have:=(List.getElem?_eq_some_iff.1 hp).1
     simpa using this
    rw [List.getElem?_map,List.getElem?_eq_getElem hlt,Option.map_some,Option.some.injEq] at hp
    have h1:¬ ((Ge c.Bad i:Int) ≥ (c.Replicas.length:Int)):=by omega
    have h2:(c.Replicas[Ge c.Bad i].Id != (i:Int) + 1) = false:=by rw [hp]; simp
    simp only [Bool.not_true,cond_false,h1,decide_false,AZ hlt,obs,h2,Ai,wi1 (show Ge c.Bad i≤1099511627776 by omega),e,if_true]) (fun i hi _ hp=>by
   have hc:(i:Int) + 1≤BG c.F:=by omega
   have hc':decide ((i:Int) + 1≤wi .i64 ((wi .i64 (3 * c.F)) + 1)) = true:=decide_eq_true hc
   unfold Gx
   dsimp only
   rw [hc',cond_true,SN _ _ hb,obs]
   unfold J9 at hp
   rw [Bool.and_eq_true] at hp
   rw [hp.1]
   have hp2:=hp.2
   simp only [Bool.not_eq_true',decide_eq_false_iff_not] at hp2
   by_cases h1:((Ge c.Bad i:Int) ≥ (c.Replicas.length:Int))
   ·simp only [Bool.not_true,cond_false,h1,decide_true,cond_true,obs,Ai]
    exact ⟨trivial,rfl⟩
   ·have hlt:Ge c.Bad i < c.Replicas.length:=by omega
    rw [List.getElem?_map,List.getElem?_eq_getElem hlt,Option.map_some,Option.some.injEq] at hp2
    have h2:(c.Replicas[Ge c.Bad i].Id != (i:Int) + 1) = true:=by simpa using hp2
    simp only [Bool.not_true,cond_false,h1,decide_false,AZ hlt,obs,h2,cond_true,Ai]
    exact ⟨trivial,rfl⟩) (fun _=>by
   have hc:¬ (((3 * c.F + 1).toNat:Int) + 1≤BG c.F):=by omega
   have hc':decide ((((3 * c.F + 1).toNat:Int) + 1)≤wi .i64 ((wi .i64 (3 * c.F)) + 1)) = false:=decide_eq_false hc
   unfold Gx
   dsimp only
   rw [hc',cond_false]
   exact ⟨rfl,rfl⟩) (Bo (by omega)) rfl
 have hiff:=QT c.Bad (c.Replicas.map (·.Id)) (3 * c.F + 1).toNat
 rw [List.length_map] at hiff
 rw [key]
 rcases BC (J9 c.Bad (c.Replicas.map (·.Id))) (3 * c.F + 1).toNat with h | ⟨i,h1,h2,h3⟩
 ·rw [BO h]
  by_cases hl:Ge c.Bad (3 * c.F + 1).toNat = c.Replicas.length
  ·exact .inl ⟨hiff.2 ⟨h,hl⟩,_,by simp only [orF,hl]; rfl⟩
  ·exact .inr ⟨fun e=>hl (hiff.1 e).2,.inl ⟨_,_,rfl,by omega⟩⟩
 ·rw [Bt h1 h2 h3]
  refine .inr ⟨fun e=>?_,.inr ⟨_,rfl,rfl⟩⟩
  rw [(hiff.1 e).1 i h1] at h3
  cases h3
open Go Go.Rf
theorem gF {L:List Str} {k:Str} (h:L.length≤1048577):B7 16 L [k] = some (L++[k]):=by
 unfold B7
 rw [if_pos (by simp; omega)]
theorem iP (b:UInt8):((b.toNat:Int) == 47) = (b == 47):=by
 rw [Bool.eq_iff_iff,beq_iff_eq,beq_iff_eq]
 constructor
 ·intro h
  apply UInt8.toNat_inj.1
  have:(47:UInt8).toNat = 47:=rfl
  omega
 ·rintro rfl; rfl
theorem JU {xs:Str} {i j:Nat} (h1:i≤j) (h2:j≤xs.length):DV xs (i:Int) (j:Int) = some ((xs.drop i).take (j - i)):=by
 unfold DV
 rw [if_pos ⟨by omega,by omega,by omega⟩,Int.toNat_natCast,show ((j:Int) - (i:Int)).toNat = j - i by omega]
theorem XN (a:Str) (h:a.length≤1000):Uc a 47 = some (spl 47 a):=by
 unfold Uc
 obtain ⟨o,h1,s,rfl,h2⟩:=Dh (f:=IA a 47) (fun i s=>(i≤a.length∧∃ (fr:Nat) (out:List Str),s = ((fr:Int),(i:Int),out)∧fr≤i∧out.length≤i∧out++hd1 ((a.drop fr).take (i - fr)) (spl 47 (a.drop i)) = spl 47 a)∨(i = a.length + 1∧∃ fr:Int,s = (fr,(i:Int),spl 47 a))) (a.length + 1) (fun o=>∃ s,o = .exit 0 s∧s.2.2 = spl 47 a) (fun i s hi hs=>by
  rcases hs with ⟨hil,fr,out,rfl,h1,h2,h3⟩ | ⟨rfl,fr,rfl⟩
  ·unfold IA
   dsimp only
   have hc:(i:Int)≤(a.length:Int):=by omega
   simp only [hc,decide_true,cond_true]
   by_cases he:i = a.length
   ·subst he
    have e1:((a.length:Int) == (a.length:Int)) = true:=by simp
    simp only [e1,cond_true,JU h1 (Nat.le_refl _),obs,gF (show out.length≤1048577 by omega),Ai,wi1 (show a.length≤1099511627776 by omega)]
    refine .inl ⟨by omega,(((a.length + 1:Nat):Int),((a.length + 1:Nat):Int),out++[(a.drop fr).take (a.length - fr)]),rfl,.inr ⟨trivial,((a.length + 1:Nat):Int),?_⟩⟩
    rw [← h3,List.drop_length]
    simp [spl,hd1]
   ·have hlt:i < a.length:=by omega
    have e1:((i:Int) == (a.length:Int)) = false:=by
     rw [Bool.eq_false_iff]; simp; omega
    rw [List.drop_eq_getElem_cons hlt] at h3
    simp only [e1,cond_false,AZ hlt,obs,iP]
    cases hb:a[i] == 47
    ·simp only [cond_false,obs,Ai,wi1 (show i≤1099511627776 by omega)]
     rw [Zw hb] at h3
     refine .inl ⟨by omega,_,rfl,.inl ⟨by omega,fr,out,rfl,by omega,by omega,?_⟩⟩
     rw [← h3]
     congr 2
     rw [show i + 1 - fr = (i - fr) + 1 by omega,List.take_add_one,List.getElem?_drop,show fr + (i - fr) = i by omega,List.getElem?_eq_getElem hlt]
     rfl
    ·simp only [cond_true,JU h1 (Nat.le_of_lt hlt),obs,gF (show out.length≤1048577 by omega),Ai,wi1 (show i≤1099511627776 by omega)]
     rw [Zx hb] at h3
     refine .inl ⟨by omega,_,rfl,.inl ⟨by omega,i + 1,out++[(a.drop fr).take (i - fr)],rfl,by omega,by simp; omega,?_⟩⟩
     rw [← h3]
     simp [SR _ (Qy 47 (a.drop (i + 1)))]
  ·unfold IA
   have hc:¬ (((a.length + 1:Nat):Int)≤(a.length:Int)):=by omega
   simp only [hc,decide_false,cond_false]
   exact .inr (.inl ⟨_,_,rfl,_,rfl,rfl⟩)) NN 0 (0,0,[]) (Nat.zero_le _) (Bo (by omega)) (.inl ⟨Nat.zero_le _,0,[],rfl,Nat.le_refl _,Nat.le_refl _,by simp [SR _ (Qy 47 a)]⟩)
 rw [h1]
 simp [Ai,h2]
theorem LZ (a:Str):Lib.countByte a 47≤a.length:=List.count_le_length
theorem SG (c n:Nat) (h:c≤n):Ub ((c + 1:Nat):Int) ((n + 1:Nat):Int) = ((c + 1:Nat):Int):=by
 unfold Ub
 rw [if_neg (by omega)]
theorem Vj (a:Str) (h:a.length≤1000):WS a [47] = some (spl 47 a):=by
 unfold WS Zd
 have hcl:=LZ a
 have e0:((-1:Int) == 0) = false:=rfl
 have e1:(([47]:Str) == ([]:Str)) = false:=rfl
 have e2:decide ((-1:Int) < 0) = true:=rfl
 have e3:Ue a [47] = some (Lib.countByte a 47:Int):=rfl
 have e4:wi .i64 ((Lib.countByte a 47:Int) + 1) = ((Lib.countByte a 47 + 1:Nat):Int):=wi1 (by omega)
 have e5:wi .i64 ((a.length:Int) + 1) = ((a.length + 1:Nat):Int):=wi1 (by omega)
 have e6:mkO 16 ((Lib.countByte a 47 + 1:Nat):Int) ([]:Str) = some (List.replicate (Lib.countByte a 47 + 1) []):=by
  unfold mkO
  rw [if_pos ⟨by omega,by rw [Int.toNat_natCast]; omega⟩,Int.toNat_natCast]
 simp only [e0,e1,e2,e3,e4,e5,SG _ _ hcl,e6,cond_false,cond_true,obs,Ai]
 obtain ⟨o,h1,s,rfl,h2⟩:=Dh (f:=JZ a [47] 0 ((Lib.countByte a 47 + 1:Nat):Int)) (fun i s=>∃ (t:Str) (b:List Str),s = (t,(i:Int),b)∧b.length = Lib.countByte a 47 + 1∧b.take i++spl 47 t = spl 47 a∧Lib.countByte t 47 + i = Lib.countByte a 47∧t.length≤a.length) (Lib.countByte a 47) (fun o=>∃ s,o = .exit 0 s∧∃ (t:Str) (b:List Str),s = (t,(Lib.countByte a 47:Int),b)∧b.length = Lib.countByte a 47 + 1∧b.take (Lib.countByte a 47)++[t] = spl 47 a) (fun i s hi hs=>by
  obtain ⟨t,b,rfl,g1,g2,g3,g4⟩:=hs
  unfold JZ
  have e7:wi .i64 (((Lib.countByte a 47 + 1:Nat):Int) - 1) = (Lib.countByte a 47:Int):=by rw [Dt (by omega) (by omega)]; omega
  dsimp only
  rw [e5,SG _ _ hcl,e7]
  by_cases hc:i < Lib.countByte a 47
  ·have hc':(i:Int) < (Lib.countByte a 47:Int):=by omega
   rcases H9 47 t with hn | ⟨m,hm⟩
   ·have:=(LL 47 t).1 hn; omega
   ·obtain ⟨q1,q2,q3⟩:=Vk 47 t m hm
    have e8:WU t [47] = some (m:Int):=by rw [← hm]; rfl
    have e9:¬ ((m:Int) < 0):=by omega
    have e10:wi .i64 ((m:Int) + 0) = (m:Int):=by rw [Dt (by omega) (by omega)]; omega
    have e11:wi .i64 ((m:Int) + (([47]:Str).length:Int)) = ((m + 1:Nat):Int):=by
     rw [show (([47]:Str).length:Int) = 1 from rfl]; exact wi1 (by omega)
    have e12:DV t 0 (m:Int) = some (t.take m):=by
     have:=JU (xs:=t) (i:=0) (j:=m) (Nat.zero_le _) (by omega)
     simpa using this
    have e13:DV t ((m + 1:Nat):Int) (t.length:Int) = some (t.drop (m + 1)):=by
     rw [JU (by omega) (Nat.le_refl _),List.take_of_length_le (by simp)]
    simp only [hc',decide_true,cond_true,e8,obs,e9,decide_false,cond_false,e10,e11,e12,e13,AZ (show i < b.length by omega),Int.toNat_natCast,wi1 (show i≤1099511627776 by omega)]
    refine .inl ⟨hc,_,rfl,_,_,rfl,by simp [g1],?_,by omega,by simp; omega⟩
    rw [← g2,q2]
    rw [List.take_add_one,List.take_set_of_le (Nat.le_refl _),List.getElem?_set,if_pos rfl,if_pos (by omega)]
    simp
  ·have hc':¬ (i:Int) < (Lib.countByte a 47:Int):=by omega
   simp only [hc',decide_false,cond_false]
   have hi2:i = Lib.countByte a 47:=by omega
   refine .inr (.inl ⟨_,_,rfl,_,rfl,t,b,by rw [hi2],g1,?_⟩)
   rw [← g2,OF 47 t (by omega),hi2]) NN 0 (a,0,List.replicate (Lib.countByte a 47 + 1) []) (Nat.zero_le _) (Bo (by omega)) ⟨a,_,rfl,by simp,by simp,by omega,Nat.le_refl _⟩
 obtain ⟨t,b,rfl,g1,g2⟩:=h2
 rw [h1]
 have e14:wi .i64 ((Lib.countByte a 47:Int) + 1) = ((Lib.countByte a 47 + 1:Nat):Int):=e4
 simp only [obs,Ai,if_true,AZ (show Lib.countByte a 47 < b.length by omega),Int.toNat_natCast,e14]
 have e15:DV (b.set (Lib.countByte a 47) t) 0 ((Lib.countByte a 47 + 1:Nat):Int) = some (spl 47 a):=by
  rw [EZ (xs:=b.set (Lib.countByte a 47) t) (i:=Lib.countByte a 47 + 1) (by simp [g1]),← g2]
  rw [List.take_add_one,List.take_set_of_le (Nat.le_refl _),List.getElem?_set,if_pos rfl,if_pos (by omega)]
  simp
 rw [e15]; rfl
theorem Zb (s:Str) (h:s.length≤1048576):∃ b,Pg s = some b:=by
 unfold Pg
 obtain ⟨o,h1,h2⟩:=Dh (f:=JY s) (fun i t=>t = (false,(i:Int))) s.length (fun o=>(∃ t,o = .exit 0 t)∨∃ t,o = .ret t) (fun i t hi ht=>by
  subst ht
  unfold JY
  dsimp only
  by_cases hc:i < s.length
  ·have hc':(i:Int) < (s.length:Int):=by omega
   simp only [hc',decide_true,cond_true,AZ hc,obs]
   have key:∀ b:Bool,((some (LO.norm b):Option (LO Bool)).bind (Ai (fun s4=>
    bif s4 then
     some (LO.ret false)
    else
     some (LO.norm false)) (fun i1 s4=>
    if i1 = 1 then
     some (LO.norm false)
    else
     some (LO.exit i1 false)) (fun s4=>
    some (LO.ret false)))).bind (Ai (fun s5=>
   some (LO.norm (s5,wi .i64 ((i:Int) + 1)))) (fun i2 s5=>
   some (LO.exit i2 (s5,(i:Int)))) (fun s5=>
   some (LO.ret (s5,(i:Int))))) = some (LO.norm (false,((i + 1:Nat):Int)))∨((some (LO.norm b):Option (LO Bool)).bind (Ai (fun s4=>
    bif s4 then
     some (LO.ret false)
    else
     some (LO.norm false)) (fun i1 s4=>
    if i1 = 1 then
     some (LO.norm false)
    else
     some (LO.exit i1 false)) (fun s4=>
    some (LO.ret false)))).bind (Ai (fun s5=>
   some (LO.norm (s5,wi .i64 ((i:Int) + 1)))) (fun i2 s5=>
   some (LO.exit i2 (s5,(i:Int)))) (fun s5=>
   some (LO.ret (s5,(i:Int))))) = some (LO.ret (false,(i:Int))):=fun b=>by
    cases b
    ·left; simp only [cond_false,obs,Ai,wi1 (show i≤1099511627776 by omega)]
    ·right; rfl
   have tree:∀ a b c d:Bool,∃ e,(bif a then bif c then some (LO.norm true) else some (LO.norm d) else bif b then bif c then some (LO.norm true) else some (LO.norm d) else some (LO.norm false)) = (some (LO.norm e):Option (LO Bool)):=fun a b c d=>by
    cases a <;> cases b <;> cases c <;> exact ⟨_,rfl⟩
   obtain ⟨e,he⟩:=tree (decide ((s[i].toNat:Int) < 97)) (decide ((s[i].toNat:Int) > 122)) (decide ((s[i].toNat:Int) < 48)) (decide ((s[i].toNat:Int) > 57))
   rw [he]
   rcases key e with k | k
   ·exact .inl ⟨hc,_,k,rfl⟩
   ·exact .inr (.inr ⟨_,k,.inr ⟨_,rfl⟩⟩)
  ·have hc':¬ (i:Int) < (s.length:Int):=by omega
   simp only [hc',decide_false,cond_false]
   exact .inr (.inl ⟨_,_,rfl,.inl ⟨_,rfl⟩⟩)) NN 0 (false,0) (Nat.zero_le _) (Bo h) rfl
 rw [h1]
 rcases h2 with ⟨t,rfl⟩ | ⟨t,rfl⟩
 ·exact ⟨_,rfl⟩
 ·exact ⟨_,rfl⟩
noncomputable def Sj (s:Str):Bool:=(Pg s).getD false
theorem W9 (s:Str) (h:s.length≤1048576):Pg s = some (Sj s):=by
 obtain ⟨b,hb⟩:=Zb s h
 unfold Sj; rw [hb]; rfl
theorem bM (s:Str) (h:s.length≤1048576):WR s = some (Sj s):=(rfl:WR s = Pg s).trans (W9 s h)
theorem FO (c:UInt8):∀ (a:Str),∀ x∈spl c a,x.length≤a.length
 | [],x,hx=>by
  simp [spl] at hx; subst hx; simp
 | b::r,x,hx=>by
  have ih:=FO c r
  unfold spl at hx
  by_cases e:(b == c) = true
  ·rw [if_pos e] at hx
   rcases List.mem_cons.1 hx with rfl | hx
   ·simp
   ·have:=ih x hx; simp; omega
  ·rw [if_neg e] at hx
   obtain ⟨h,t,e2⟩:=Is c r
   rw [e2] at hx ih
   rcases List.mem_cons.1 hx with rfl | hx
   ·have:=ih h (by simp); simp; omega
   ·have:=ih x (by simp [hx]); simp; omega
noncomputable def Ey (x:Str):Bool:=!Sj x
noncomputable def GV (a:Str):Int:=bif decide ((a.length:Int) > 24) then 2 else bif decide ((Lib.countByte a 47:Int) > 4) then 2 else bif a == ([47]:Str) then 0 else bif decide (((spl 47 a).length:Int) < 2) then 5 else bif !((spl 47 a).headD [] == ([]:Str)) then 5 else bif ((spl 47 a).drop 1).any Ey then 5 else 0
theorem P9 (a:Str):Aq (spl 47 a) 0 = some ((spl 47 a).headD []):=by
 obtain ⟨h,t,e⟩:=Is 47 a
 rw [e]; rfl
theorem TU (a:Str):Uj a = some (GV a):=by
 unfold Uj GV
 by_cases hl:(a.length:Int) > 24
 ·simp only [hl,decide_true,cond_true,obs,Ai]
 simp only [hl,decide_false,cond_false]
 rw [show Ue a [47] = some (Lib.countByte a 47:Int) from rfl,obs]
 cases decide ((Lib.countByte a 47:Int) > 4)
 rotate_left
 ·rfl
 simp only [cond_false,obs,Ai]
 cases a == ([47]:Str)
 rotate_left
 ·rfl
 simp only [cond_false,Vj a (by omega),obs]
 cases hw:decide (((spl 47 a).length:Int) < 2)
 rotate_left
 ·rfl
 simp only [cond_false,P9,obs]
 cases !((spl 47 a).headD [] == ([]:Str))
 rotate_left
 ·rfl
 have hsl:=JV 47 a
 have hcl:=LZ a
 have e1:DV (spl 47 a) 1 ((spl 47 a).length:Int) = some ((spl 47 a).drop 1):=by
  unfold DV
  rw [if_pos ⟨by omega,by omega,by omega⟩]
  rw [List.take_of_length_le (by simp)]
  rfl
 simp only [cond_false,obs,Ai,e1]
 have hdl:((spl 47 a).drop 1).length≤1048576:=by simp; omega
 rw [AI (f:=H7 ((spl 47 a).drop 1)) (s0:=(0,0)) (fun i=>(0,(i:Int))) ((spl 47 a).drop 1).length (pAt Ey ((spl 47 a).drop 1)) (fun i=>.ret (5,(i:Int))) (.exit 0 (0,(((spl 47 a).drop 1).length:Int))) (fun i hi _ hp=>?_) (fun i hi _ hp=>?_) (fun _=>?_) (Bo hdl) rfl]
 ·rw [← C9]
  cases BQ (pAt Ey ((spl 47 a).drop 1)) ((spl 47 a).drop 1).length <;> rfl
 ·rw [AU hi] at hp
  have hc':(i:Int) < (((spl 47 a).drop 1).length:Int):=by omega
  have hx:=FO 47 a _ (List.mem_of_mem_drop (List.getElem_mem hi))
  unfold H7
  unfold Ey at hp
  simp only [hc',decide_true,cond_true,AZ hi,obs,bM _ (show ((spl 47 a).drop 1)[i].length≤1048576 by omega),hp,cond_false,wi1 (show i≤1099511627776 by omega)]
 ·rw [AU hi] at hp
  have hc':(i:Int) < (((spl 47 a).drop 1).length:Int):=by omega
  have hx:=FO 47 a _ (List.mem_of_mem_drop (List.getElem_mem hi))
  unfold H7
  unfold Ey at hp
  simp only [hc',decide_true,cond_true,AZ hi,obs,bM _ (show ((spl 47 a).drop 1)[i].length≤1048576 by omega),hp]
  exact ⟨trivial,rfl⟩
 ·unfold H7
  simp only [Int.lt_irrefl,decide_false,cond_false]
  exact ⟨trivial,rfl⟩
theorem QI (a:Str) (h:a.length≤24) (hs:(a == ([47]:Str)) = false):∃ l,WM a = some (l,!(bif decide (((spl 47 a).length:Int) < 2) then true else bif !((spl 47 a).headD [] == ([]:Str)) then true else ((spl 47 a).drop 1).any Ey)):=by
 unfold WM
 rw [hs,cond_false,XN a (by omega),obs]
 cases hw:decide (((spl 47 a).length:Int) < 2)
 rotate_left
 ·exact ⟨_,rfl⟩
 simp only [cond_false,P9,obs]
 cases !((spl 47 a).headD [] == ([]:Str))
 rotate_left
 ·exact ⟨_,rfl⟩
 have hsl:=JV 47 a
 have hcl:=LZ a
 have e1:DV (spl 47 a) 1 ((spl 47 a).length:Int) = some ((spl 47 a).drop 1):=by
  unfold DV
  rw [if_pos ⟨by omega,by omega,by omega⟩]
  rw [List.take_of_length_le (by simp)]
  rfl
 simp only [cond_false,obs,Ai]
 have hdl:((spl 47 a).drop 1).length≤1048576:=by simp; omega
 have hdl2:((spl 47 a).drop 1).length + 1 = (spl 47 a).length:=by simp; omega
 rw [AI (f:=H5 (spl 47 a)) (s0:=([],false,1)) (fun i=>([],false,(i:Int) + 1)) ((spl 47 a).drop 1).length (pAt Ey ((spl 47 a).drop 1)) (fun i=>.ret ([],false,(i:Int) + 1)) (.exit 0 ([],false,(((spl 47 a).drop 1).length:Int) + 1)) (fun i hi _ hp=>?_) (fun i hi _ hp=>?_) (fun _=>?_) (Bo hdl) rfl]
 ·rw [← C9]
  cases BQ (pAt Ey ((spl 47 a).drop 1)) ((spl 47 a).drop 1).length
  ·exact ⟨_,by simp only [orF,obs,Ai,if_true,e1,Option.isSome_none]; rfl⟩
  ·exact ⟨_,rfl⟩
 ·rw [AU hi] at hp
  have hc':(i:Int) + 1 < ((spl 47 a).length:Int):=by omega
  have hx:=FO 47 a _ (List.mem_of_mem_drop (List.getElem_mem hi))
  have g1:Aq (spl 47 a) ((i:Int) + 1) = some ((spl 47 a).drop 1)[i]:=by
   rw [show ((i:Int) + 1) = ((i + 1:Nat):Int) by omega,AZ (show i + 1 < (spl 47 a).length by omega)]
   simp [Nat.add_comm]
  unfold H5
  unfold Ey at hp
  simp only [hc',decide_true,cond_true,g1,obs,W9 _ (show ((spl 47 a).drop 1)[i].length≤1048576 by omega),hp,cond_false,Gi (show i≤1048576 by omega)]
 ·rw [AU hi] at hp
  have hc':(i:Int) + 1 < ((spl 47 a).length:Int):=by omega
  have hx:=FO 47 a _ (List.mem_of_mem_drop (List.getElem_mem hi))
  have g1:Aq (spl 47 a) ((i:Int) + 1) = some ((spl 47 a).drop 1)[i]:=by
   rw [show ((i:Int) + 1) = ((i + 1:Nat):Int) by omega,AZ (show i + 1 < (spl 47 a).length by omega)]
   simp [Nat.add_comm]
  unfold H5
  unfold Ey at hp
  simp only [hc',decide_true,cond_true,g1,obs,W9 _ (show ((spl 47 a).drop 1)[i].length≤1048576 by omega),hp]
  exact ⟨trivial,rfl⟩
 ·have hc':¬ ((((spl 47 a).drop 1).length:Int) + 1 < ((spl 47 a).length:Int)):=by omega
  unfold H5
  simp only [hc',decide_false,cond_false]
  exact ⟨trivial,rfl⟩
theorem TT (a:Str):Uh a = some (GV a):=by
 unfold Uh GV
 by_cases hl:(a.length:Int) > 24
 ·simp only [hl,decide_true,cond_true,obs,Ai]
 simp only [hl,decide_false,cond_false]
 cases hs:a == ([47]:Str)
 rotate_left
 ·have e:a = [47]:=by simpa using hs
  subst e
  rfl
 have hsl:=JV 47 a
 obtain ⟨l,hn⟩:=QI a (by omega) hs
 have e5:decide (((spl 47 a).length:Int) > 5) = decide ((Lib.countByte a 47:Int) > 4):=decide_eq_decide.2 (by omega)
 simp only [Bool.not_false,cond_true,XN a (by omega),obs,e5,Ai]
 cases decide ((Lib.countByte a 47:Int) > 4)
 rotate_left
 ·rfl
 simp only [cond_false,obs,Ai,hn]
 cases decide (((spl 47 a).length:Int) < 2)
 rotate_left
 ·rfl
 cases !((spl 47 a).headD [] == ([]:Str))
 rotate_left
 ·rfl
 cases ((spl 47 a).drop 1).any Ey <;> rfl
open Go Go.Rf
theorem lJ:AW ([112]:Str) ((A6 1).2) = some true:=rfl
theorem lL:AW ([100]:Str) ((A6 1).2) = some true:=rfl
theorem lH:AW ([118]:Str) ((A6 1).2) = some true:=rfl
theorem lI:AW ([115]:Str) ((A6 1).2) = some true:=rfl
theorem lK:AW ([111]:Str) ((A6 1).2) = some true:=rfl
theorem kp1:JQ 1 = false:=rfl
theorem kd1:JP 1 = false:=rfl
theorem kv1:IN 1 = some false:=rfl
theorem ki1:Dm 1 1 8 = true:=rfl
theorem kj1:m63 1 1 8 = true:=rfl
theorem k31:((1:Int) != 3) = true:=rfl
theorem lE:AW ([112]:Str) ((A6 2).2) = some true:=rfl
theorem lG:AW ([100]:Str) ((A6 2).2) = some true:=rfl
theorem lC:AW ([118]:Str) ((A6 2).2) = some true:=rfl
theorem lD:AW ([115]:Str) ((A6 2).2) = some true:=rfl
theorem lF:AW ([111]:Str) ((A6 2).2) = some true:=rfl
theorem kp2:JQ 2 = false:=rfl
theorem kd2:JP 2 = false:=rfl
theorem kv2:IN 2 = some false:=rfl
theorem ki2:Dm 2 1 8 = true:=rfl
theorem kj2:m63 2 1 8 = true:=rfl
theorem k32:((2:Int) != 3) = true:=rfl
theorem k7:AW ([112]:Str) ((A6 3).2) = some false:=rfl
theorem lB:AW ([100]:Str) ((A6 3).2) = some false:=rfl
theorem kZ:AW ([118]:Str) ((A6 3).2) = some true:=rfl
theorem k6:AW ([115]:Str) ((A6 3).2) = some false:=rfl
theorem k9:AW ([111]:Str) ((A6 3).2) = some false:=rfl
theorem kp3:JQ 3 = true:=rfl
theorem kd3:JP 3 = true:=rfl
theorem kv3:IN 3 = some false:=rfl
theorem ki3:Dm 3 1 8 = true:=rfl
theorem kj3:m63 3 1 8 = true:=rfl
theorem k33:((3:Int) != 3) = false:=rfl
theorem kW:AW ([112]:Str) ((A6 4).2) = some false:=rfl
theorem kY:AW ([100]:Str) ((A6 4).2) = some true:=rfl
theorem kU:AW ([118]:Str) ((A6 4).2) = some false:=rfl
theorem kV:AW ([115]:Str) ((A6 4).2) = some true:=rfl
theorem kX:AW ([111]:Str) ((A6 4).2) = some true:=rfl
theorem kp4:JQ 4 = true:=rfl
theorem kd4:JP 4 = false:=rfl
theorem kv4:IN 4 = some true:=rfl
theorem ki4:Dm 4 1 8 = true:=rfl
theorem kj4:m63 4 1 8 = true:=rfl
theorem k34:((4:Int) != 3) = true:=rfl
theorem kR:AW ([112]:Str) ((A6 5).2) = some false:=rfl
theorem kT:AW ([100]:Str) ((A6 5).2) = some false:=rfl
theorem kP:AW ([118]:Str) ((A6 5).2) = some false:=rfl
theorem kQ:AW ([115]:Str) ((A6 5).2) = some true:=rfl
theorem kS:AW ([111]:Str) ((A6 5).2) = some true:=rfl
theorem kp5:JQ 5 = true:=rfl
theorem kd5:JP 5 = true:=rfl
theorem kv5:IN 5 = some true:=rfl
theorem ki5:Dm 5 1 8 = true:=rfl
theorem kj5:m63 5 1 8 = true:=rfl
theorem k35:((5:Int) != 3) = true:=rfl
theorem kM:AW ([112]:Str) ((A6 6).2) = some false:=rfl
theorem kO:AW ([100]:Str) ((A6 6).2) = some true:=rfl
theorem kK:AW ([118]:Str) ((A6 6).2) = some true:=rfl
theorem kL:AW ([115]:Str) ((A6 6).2) = some true:=rfl
theorem kN:AW ([111]:Str) ((A6 6).2) = some true:=rfl
theorem kp6:JQ 6 = true:=rfl
theorem kd6:JP 6 = false:=rfl
theorem kv6:IN 6 = some false:=rfl
theorem ki6:Dm 6 1 8 = true:=rfl
theorem kj6:m63 6 1 8 = true:=rfl
theorem k36:((6:Int) != 3) = true:=rfl
theorem kH:AW ([112]:Str) ((A6 7).2) = some false:=rfl
theorem kJ:AW ([100]:Str) ((A6 7).2) = some true:=rfl
theorem kF:AW ([118]:Str) ((A6 7).2) = some true:=rfl
theorem kG:AW ([115]:Str) ((A6 7).2) = some true:=rfl
theorem kI:AW ([111]:Str) ((A6 7).2) = some true:=rfl
theorem kp7:JQ 7 = true:=rfl
theorem kd7:JP 7 = false:=rfl
theorem kv7:IN 7 = some false:=rfl
theorem ki7:Dm 7 1 8 = true:=rfl
theorem kj7:m63 7 1 8 = true:=rfl
theorem k37:((7:Int) != 3) = true:=rfl
theorem kC:AW ([112]:Str) ((A6 8).2) = some false:=rfl
theorem kE:AW ([100]:Str) ((A6 8).2) = some true:=rfl
theorem kA:AW ([118]:Str) ((A6 8).2) = some false:=rfl
theorem kB:AW ([115]:Str) ((A6 8).2) = some true:=rfl
theorem kD:AW ([111]:Str) ((A6 8).2) = some true:=rfl
theorem kp8:JQ 8 = true:=rfl
theorem kd8:JP 8 = false:=rfl
theorem kv8:IN 8 = some true:=rfl
theorem ki8:Dm 8 1 8 = true:=rfl
theorem kj8:m63 8 1 8 = true:=rfl
theorem k38:((8:Int) != 3) = true:=rfl
theorem FX (path:Str) (d v s4:Int):∃ y,((Uh path).bind fun y5=>
     bif y5 != 0 then
      some (LO.ret y5)
     else
      some (LO.norm s4)).bind (Ai (fun s6=>
    (
     bif !(Ug d) then
      some (LO.ret 3)
     else
      bif !(Dm v (-1) 999) then
       some (LO.ret 3)
      else
       some (LO.norm s6)).bind (Ai (fun s8=>
     some (0:Int)) (fun i4 s8=>
     none) (fun s8=>
     some s8))) (fun i3 s6=>
    none) (fun s6=>
    some s6)) = some y∧((Uj path).bind fun y33=>
  bif y33 != 0 then
   some y33
  else
   (
    bif !(Xb d) then
     some (LO.ret 3)
    else
     bif !(m63 v (-1) 999) then
      some (LO.ret 3)
     else
      some (LO.norm s4)).bind (Ai (fun s6=>
    some (0:Int)) (fun i3 s6=>
    none) (fun s6=>
    some s6))) = some y:=by
 rw [TT,TU,in1,in2,show Ug d = inR d 0 9999 from in1 _ _ _,show Xb d = inR d 0 9999 from in1 _ _ _]
 simp only [obs]
 cases GV path != 0
 ·cases inR d 0 9999
  ·exact ⟨_,rfl,rfl⟩
  ·cases inR v (-1) 999 <;> exact ⟨_,rfl,rfl⟩
 ·exact ⟨_,rfl,rfl⟩
theorem Wv (o:TOp):∃ y,NZ o = some y∧Pq o = some y∧(y = 0→1≤o.Kind):=by
 by_cases hk:1≤o.Kind∧o.Kind≤8
 rotate_left
 ·have h1:Dm o.Kind 1 8 = false:=by rw [in1]; exact Bool.eq_false_iff.2 fun h=>hk (B9.1 h)
  have h2:m63 o.Kind 1 8 = false:=by rw [in2]; exact Bool.eq_false_iff.2 fun h=>hk (B9.1 h)
  refine ⟨1,?_,?_,fun h=>by cases h⟩
  ·unfold NZ; rw [h1]; rfl
  ·unfold Pq; rw [h2]; rfl
 suffices h:∃ y,NZ o = some y∧Pq o = some y by
  obtain ⟨y,a,b⟩:=h
  exact ⟨y,a,b,fun _=>hk.1⟩
 obtain ⟨k,path,d,v,sq,ow⟩:=o
 unfold NZ Pq
 dsimp only at hk ⊢
 have hk8:k = 1∨k = 2∨k = 3∨k = 4∨k = 5∨k = 6∨k = 7∨k = 8:=by omega
 have fin:∀ (d v:Int),(d != 0) = false→(v != 0) = false→Ug d = true∧Dm v (-1) 999 = true:=fun d v h1 h2=>by
  have e1:d = 0:=by simpa using h1
  have e2:v = 0:=by simpa using h2
  subst e1; subst e2; exact ⟨rfl,rfl⟩
 rcases hk8 with rfl | rfl | rfl | rfl | rfl | rfl | rfl | rfl
 ·simp only [lJ,lL,lH,lI,lK,kp1,kd1,kv1,ki1,kj1,k31,Bool.not_true,Bool.not_false,cond_true,cond_false,obs]
  cases path == ([]:Str)
  ·exact ⟨_,rfl,rfl⟩
  cases h2:d != 0
  rotate_left
  ·exact ⟨_,rfl,rfl⟩
  cases h3:v != 0
  rotate_left
  ·exact ⟨_,rfl,rfl⟩
  cases sq
  rotate_left
  ·exact ⟨_,rfl,rfl⟩
  cases ow
  rotate_left
  ·exact ⟨_,rfl,rfl⟩
  obtain ⟨f1,f2⟩:=fin d v h2 h3
  simp only [Bool.not_true,Bool.not_false,cond_true,cond_false,obs,Ai,f1,f2]
  exact ⟨_,rfl,rfl⟩
 ·simp only [lE,lG,lC,lD,lF,kp2,kd2,kv2,ki2,kj2,k32,Bool.not_true,Bool.not_false,cond_true,cond_false,obs]
  cases path == ([]:Str)
  ·exact ⟨_,rfl,rfl⟩
  cases h2:d != 0
  rotate_left
  ·exact ⟨_,rfl,rfl⟩
  cases h3:v != 0
  rotate_left
  ·exact ⟨_,rfl,rfl⟩
  cases sq
  rotate_left
  ·exact ⟨_,rfl,rfl⟩
  cases ow
  rotate_left
  ·exact ⟨_,rfl,rfl⟩
  obtain ⟨f1,f2⟩:=fin d v h2 h3
  simp only [Bool.not_true,Bool.not_false,cond_true,cond_false,obs,Ai,f1,f2]
  exact ⟨_,rfl,rfl⟩
 ·simp only [k7,lB,kZ,k6,k9,kp3,kd3,kv3,ki3,kj3,k33,Bool.not_true,Bool.not_false,cond_true,cond_false,obs]
  cases v != 0
  rotate_left
  ·exact ⟨_,rfl,rfl⟩
  simp only [Bool.not_true,Bool.not_false,cond_true,cond_false,obs,Ai]
  exact FX path d v 0
 ·simp only [kW,kY,kU,kV,kX,kp4,kd4,kv4,ki4,kj4,k34,Bool.not_true,Bool.not_false,cond_true,cond_false,obs]
  cases d != 0
  rotate_left
  ·exact ⟨_,rfl,rfl⟩
  cases sq
  rotate_left
  ·exact ⟨_,rfl,rfl⟩
  cases ow
  rotate_left
  ·exact ⟨_,rfl,rfl⟩
  simp only [Bool.not_true,Bool.not_false,cond_true,cond_false,obs,Ai]
  exact FX path d v 0
 ·simp only [kR,kT,kP,kQ,kS,kp5,kd5,kv5,ki5,kj5,k35,Bool.not_true,Bool.not_false,cond_true,cond_false,obs]
  cases sq
  rotate_left
  ·exact ⟨_,rfl,rfl⟩
  cases ow
  rotate_left
  ·exact ⟨_,rfl,rfl⟩
  simp only [Bool.not_true,Bool.not_false,cond_true,cond_false,obs,Ai]
  exact FX path d v 0
 ·simp only [kM,kO,kK,kL,kN,kp6,kd6,kv6,ki6,kj6,k36,Bool.not_true,Bool.not_false,cond_true,cond_false,obs]
  cases d != 0
  rotate_left
  ·exact ⟨_,rfl,rfl⟩
  cases v != 0
  rotate_left
  ·exact ⟨_,rfl,rfl⟩
  cases sq
  rotate_left
  ·exact ⟨_,rfl,rfl⟩
  cases ow
  rotate_left
  ·exact ⟨_,rfl,rfl⟩
  simp only [Bool.not_true,Bool.not_false,cond_true,cond_false,obs,Ai]
  exact FX path d v 0
 ·simp only [kH,kJ,kF,kG,kI,kp7,kd7,kv7,ki7,kj7,k37,Bool.not_true,Bool.not_false,cond_true,cond_false,obs]
  cases d != 0
  rotate_left
  ·exact ⟨_,rfl,rfl⟩
  cases v != 0
  rotate_left
  ·exact ⟨_,rfl,rfl⟩
  cases sq
  rotate_left
  ·exact ⟨_,rfl,rfl⟩
  cases ow
  rotate_left
  ·exact ⟨_,rfl,rfl⟩
  simp only [Bool.not_true,Bool.not_false,cond_true,cond_false,obs,Ai]
  exact FX path d v 0
 ·simp only [kC,kE,kA,kB,kD,kp8,kd8,kv8,ki8,kj8,k38,Bool.not_true,Bool.not_false,cond_true,cond_false,obs]
  cases d != 0
  rotate_left
  ·exact ⟨_,rfl,rfl⟩
  cases sq
  rotate_left
  ·exact ⟨_,rfl,rfl⟩
  cases ow
  rotate_left
  ·exact ⟨_,rfl,rfl⟩
  simp only [Bool.not_true,Bool.not_false,cond_true,cond_false,obs,Ai]
  exact FX path d v 0
noncomputable def FI (o:TOp):Int:=(NZ o).getD 0
theorem op1 (o:TOp):NZ o = some (FI o):=by
 obtain ⟨y,h,_⟩:=Wv o
 unfold FI; rw [h]; rfl
theorem op2 (o:TOp):Pq o = some (FI o):=by
 obtain ⟨y,h,k,_⟩:=Wv o
 unfold FI; rw [h,k]; rfl
theorem op3 (o:TOp) (h:FI o = 0):1≤o.Kind:=by
 obtain ⟨y,h1,k,h2⟩:=Wv o
 unfold FI at h; rw [h1] at h
 exact h2 h
noncomputable def HI (o:TOp):Bool:=FI o != 0
def J8 (o:TOp):Bool:=decide (o.Kind≤2)
theorem opsS (r:Ag) (h:r.Ops.length≤3):(r.Ops.any HI = false∧∃ j,Ax (GX r) NN (0,0) = some (.exit 0 (0,j))∧Ax (GY r) NN (0,0) = some (.exit 1 (0,j)))∨(r.Ops.any HI = true∧∃ y j,Ax (GX r) NN (0,0) = some (.ret (y,j))∧Ax (GY r) NN (0,0) = some (.ret (y,j))):=by
 have k1:=AI (f:=GX r) (N:=NN) (s0:=(0,0)) (fun i=>(0,(i:Int))) r.Ops.length (pAt HI r.Ops) (fun i=>.ret (((r.Ops[i]?).map FI).getD 0,(i:Int))) (.exit 0 (0,(r.Ops.length:Int))) (fun i hi _ hp=>by
   rw [AU hi] at hp
   unfold HI at hp
   have hc':(i:Int) < (r.Ops.length:Int):=by omega
   unfold GX
   simp only [hc',decide_true,cond_true,AZ hi,obs,op1,hp,cond_false,wi1 (show i≤1099511627776 by omega)]) (fun i hi _ hp=>by
   rw [AU hi] at hp
   unfold HI at hp
   have hc':(i:Int) < (r.Ops.length:Int):=by omega
   unfold GX
   rw [List.getElem?_eq_getElem hi]
   simp only [hc',decide_true,cond_true,AZ hi,obs,op1,hp,Option.map_some,Option.getD_some]
   exact ⟨trivial,rfl⟩) (fun _=>by
   unfold GX
   simp only [Int.lt_irrefl,decide_false,cond_false]
   exact ⟨trivial,rfl⟩) (Bo (by omega)) rfl
 have k2:=AI (f:=GY r) (N:=NN) (s0:=(0,0)) (fun i=>(0,(i:Int))) r.Ops.length (pAt HI r.Ops) (fun i=>.ret (((r.Ops[i]?).map FI).getD 0,(i:Int))) (.exit 1 (0,(r.Ops.length:Int))) (fun i hi _ hp=>by
   rw [AU hi] at hp
   unfold HI at hp
   have hc':(i:Int) < (r.Ops.length:Int):=by omega
   unfold GY
   simp only [hc',decide_true,cond_true,AZ hi,obs,op2,hp,cond_false,wi1 (show i≤1099511627776 by omega)]) (fun i hi _ hp=>by
   rw [AU hi] at hp
   unfold HI at hp
   have hc':(i:Int) < (r.Ops.length:Int):=by omega
   unfold GY
   rw [List.getElem?_eq_getElem hi]
   simp only [hc',decide_true,cond_true,AZ hi,obs,op2,hp,Option.map_some,Option.getD_some]
   exact ⟨trivial,rfl⟩) (fun _=>by
   unfold GY
   simp only [Int.lt_irrefl,decide_false,cond_false]
   exact ⟨trivial,rfl⟩) (Bo (by omega)) rfl
 rw [k1,k2,← C9]
 cases BQ (pAt HI r.Ops) r.Ops.length
 ·exact .inl ⟨rfl,_,rfl,rfl⟩
 ·exact .inr ⟨rfl,_,_,rfl,rfl⟩
theorem jV (r:Ag) (h:r.Ops.length≤3) (hl:(r.Ops.length:Int) > 1):∃ s,Ax (Gw r) NN (0,0) = some (bif r.Ops.any J8 then .ret (1,s) else .exit 2 (0,s)):=by
 rw [AI (f:=Gw r) (N:=NN) (s0:=(0,0)) (fun i=>(0,(i:Int))) r.Ops.length (pAt J8 r.Ops) (fun i=>.ret (1,(i:Int))) (.exit 2 (0,(r.Ops.length:Int))) (fun i hi _ hp=>by
   rw [AU hi] at hp
   unfold J8 at hp
   have hc':(i:Int) < (r.Ops.length:Int):=by omega
   unfold Gw
   simp only [hc',hl,decide_true,cond_true,AZ hi,obs,Ai,hp,cond_false,wi1 (show i≤1099511627776 by omega)]) (fun i hi _ hp=>by
   rw [AU hi] at hp
   unfold J8 at hp
   have hc':(i:Int) < (r.Ops.length:Int):=by omega
   unfold Gw
   simp only [hc',hl,decide_true,cond_true,AZ hi,obs,Ai,hp]
   exact ⟨trivial,rfl⟩) (fun _=>by
   unfold Gw
   simp only [Int.lt_irrefl,decide_false,cond_false,obs,Ai]
   exact ⟨trivial,rfl⟩) (Bo (by omega)) rfl,← C9]
 cases BQ (pAt J8 r.Ops) r.Ops.length <;> exact ⟨_,rfl⟩
theorem VO (r:Ag):∃ y,m68 r = some y∧m55 r = some y:=by
 unfold m68 m55
 rw [Gj,Gj]
 simp only [obs,Ai]
 rw [show Zj r.Client = inR r.Client 1 9 from in1 _ _ _,show m98 r.Client = inR r.Client 1 9 from in1 _ _ _,in1,in2,show Zi r.Time = inR r.Time 0 9000 from in1 _ _ _,show m99 r.Time = inR r.Time 0 9000 from in1 _ _ _,in2]
 cases (!inR r.Client 1 9 || (!inR r.Number 1 99 || !inR r.Time 0 9000))
 rotate_left
 ·exact ⟨_,rfl,rfl⟩
 simp only [cond_false,obs,Ai]
 by_cases h1:(r.Ops.length:Int) < 1
 ·have e:inR (r.Ops.length:Int) 1 3 = false:=Bool.eq_false_iff.2 fun h=>by have:=B9.1 h; omega
  simp only [h1,e,decide_true,cond_true,Bool.not_false,obs,Ai]
  exact ⟨_,rfl,rfl⟩
 by_cases h2:(r.Ops.length:Int) > 3
 ·have e:inR (r.Ops.length:Int) 1 3 = false:=Bool.eq_false_iff.2 fun h=>by have:=B9.1 h; omega
  simp only [h1,h2,e,decide_true,decide_false,cond_true,cond_false,Bool.not_false,obs,Ai]
  exact ⟨_,rfl,rfl⟩
 have e:inR (r.Ops.length:Int) 1 3 = true:=B9.2 ⟨by omega,by omega⟩
 simp only [h1,h2,e,decide_false,cond_false,Bool.not_true,obs,Ai]
 rcases opsS r (by omega) with ⟨g,j,k1,k2⟩ | ⟨g,y,j,k1,k2⟩
 rotate_left
 ·rw [k1,k2]; exact ⟨_,rfl,rfl⟩
 rw [k1,k2]
 simp only [obs,Ai,if_true]
 by_cases hl:(r.Ops.length:Int) > 1
 rotate_left
 ·have hx:Ax (Gw r) NN (0,0) = some (.exit 2 (0,0)):=by
   refine FY (by have:=Bo (n:=0) (by omega); omega) ?_ rfl
   unfold Gw
   have h0:(0:Int) < (r.Ops.length:Int):=by omega
   simp only [h0,hl,decide_true,decide_false,cond_true,cond_false,obs,Ai]
  rw [hx]
  simp only [hl,decide_false,cond_false,obs,Ai,if_true]
  exact ⟨_,rfl,rfl⟩
 obtain ⟨s,hs⟩:=jV r (by omega) hl
 rw [hs]
 have e3:Zn r.Ops (fun x0_=>some (QQ x0_)) = some (r.Ops.any J8):=Il (Bo (by omega)) (C7 (by omega)) (fun o ho=>by
  congr 1
  have h0:FI o = 0:=by
   rw [List.any_eq_false] at g
   have:=g o ho
   unfold HI at this
   simpa using this
  have h1:=op3 o h0
  unfold QQ J8
  by_cases e1:o.Kind = 1
  ·rw [e1]; rfl
  ·by_cases e2:o.Kind = 2
   ·rw [e2]; rfl
   ·have e4:(o.Kind == 1) = false:=by simpa using e1
    have e5:(o.Kind == 2) = false:=by simpa using e2
    rw [e4,e5]
    symm
    exact decide_eq_false (by omega))
 simp only [hl,decide_true,cond_true,e3,obs]
 cases r.Ops.any J8 <;> exact ⟨_,rfl,rfl⟩
noncomputable def Cj (r:Ag):Int:=(m68 r).getD 0
theorem jH (r:Ag):m68 r = some (Cj r):=by
 obtain ⟨y,h,_⟩:=VO r
 unfold Cj; rw [h]; rfl
theorem dS (r:Ag):m55 r = some (Cj r):=by
 obtain ⟨y,h,k⟩:=VO r
 unfold Cj; rw [h,k]; rfl
open Go Go.Rf
def E9 (y x:Ag):Bool:=(x.Client == y.Client) && (x.Number == y.Number)
theorem PL {α:Type} {q:α→Bool} {xs:List α} {i:Nat} (h:i < xs.length) (hq:q xs[i] = true):(ixI (BQ (pAt q xs) xs.length) != (i:Int)) = (xs.take i).any q:=by
 cases hm:(xs.take i).any q
 ·rw [List.any_eq_false] at hm
  rw [Bt h (fun j hj=>by
   rw [AU (by omega)]
   have:=hm xs[j] (List.mem_iff_getElem.2 ⟨j,by rw [List.length_take]; omega,by rw [List.getElem_take]⟩)
   simpa using this) (by rw [AU h]; exact hq)]
  simp [ixI]
 ·rw [List.any_eq_true] at hm
  obtain ⟨x,hx,hqx⟩:=hm
  obtain ⟨j,hj,e⟩:=List.mem_iff_getElem.1 hx
  rw [List.length_take] at hj
  rw [List.getElem_take] at e
  rcases BC (pAt q xs) xs.length with h' | ⟨k,h1,h2,h3⟩
  ·have:=h' j (by omega)
   rw [AU (by omega),e,hqx] at this
   cases this
  ·rw [Bt h1 h2 h3]
   have hk:k≤j:=by
    rcases Nat.lt_or_ge j k with hlt | hge
    ·have:=h2 j hlt
     rw [AU (by omega),e,hqx] at this
     cases this
    ·exact hge
   simp only [ixI,bne_iff_ne,ne_eq]
   omega
theorem Qh (xs:List Ag) (y:Ag) (h:xs.length≤1048576):m69 xs y.Client y.Number = some (ixI (BQ (pAt (E9 y) xs) xs.length)):=by
 unfold m69
 rw [AI (f:=Jm xs y.Client y.Number) (s0:=(0,0)) (fun i=>(0,(i:Int))) xs.length (pAt (E9 y) xs) (fun i=>.ret ((i:Int),(i:Int))) (.exit 0 (0,(xs.length:Int))) (fun i hi _ hp=>?_) (fun i hi _ hp=>?_) (fun _=>?_) (Bo h) rfl]
 ·cases BQ (pAt (E9 y) xs) xs.length <;> rfl
 ·rw [AU hi] at hp
  unfold E9 at hp
  have hc':(i:Int) < (xs.length:Int):=by omega
  unfold Jm
  simp only [hc',decide_true,cond_true,AZ hi,obs]
  cases h1:xs[i].Client == y.Client
  ·simp only [cond_false,obs,Ai,wi1 (show i≤1099511627776 by omega)]
  ·rw [h1,Bool.true_and] at hp
   simp only [cond_true,hp,cond_false,obs,Ai,wi1 (show i≤1099511627776 by omega)]
 ·rw [AU hi] at hp
  unfold E9 at hp
  rw [Bool.and_eq_true] at hp
  have hc':(i:Int) < (xs.length:Int):=by omega
  unfold Jm
  simp only [hc',decide_true,cond_true,AZ hi,obs,hp.1,hp.2,Ai]
  exact ⟨trivial,rfl⟩
 ·unfold Jm
  simp only [Int.lt_irrefl,decide_false,cond_false]
  exact ⟨trivial,rfl⟩
theorem KC (xs:List Ag) (y:Ag) (h:xs.length≤1048576):m56 xs y = some (ixI (BQ (pAt (E9 y) xs) xs.length)):=by
 unfold m56
 rw [show Zm xs (fun x0_=>some (QP x0_ y)) = some (ixI (BQ (pAt (E9 y) xs) xs.length)) from Jv (Bo h) (C7 h) (fun x _=>by
  congr 1
  unfold QP E9
  cases x.Client == y.Client <;> rfl)]
 rfl
noncomputable def Ej (xs:List Ag) (i:Nat):Bool:=(xs[i]?).any fun x=>(Cj x != 0) || (xs.take i).any (E9 x)
noncomputable def Jc (xs:List Ag) (i:Nat):Int:=match xs[i]? with
 | some x=>bif Cj x != 0 then Cj x else 6
 | none=>0
theorem D7 {xs:List Ag} {i:Nat} (h:i < xs.length):Ej xs i = ((Cj xs[i] != 0) || (xs.take i).any (E9 xs[i])):=by
 unfold Ej; rw [List.getElem?_eq_getElem h]; rfl
theorem HU {xs:List Ag} {i:Nat} (h:i < xs.length):Jc xs i = (bif Cj xs[i] != 0 then Cj xs[i] else 6):=by
 unfold Jc; rw [List.getElem?_eq_getElem h]
noncomputable def DJ (xs:List Ag):Int:=orF (BQ (Ej xs) xs.length) (Jc xs) 0
theorem KA (x:Ag):E9 x x = true:=by simp [E9]
theorem TE (c:Aa) (h:c.Requests.length≤12):(Ax (Ib c) NN (0,0)).bind (Ai (fun _=>none) (fun i1 s2=>
      if i1 = 0 then
       some 0
      else
       none) (fun s2=>
      some s2.1)) = some (DJ c.Requests):=by
 rw [AI (f:=Ib c) (s0:=(0,0)) (fun i=>(0,(i:Int))) c.Requests.length (Ej c.Requests) (fun i=>.ret (Jc c.Requests i,(i:Int))) (.exit 0 (0,(c.Requests.length:Int))) (fun i hi _ hp=>?_) (fun i hi _ hp=>?_) (fun _=>?_) (Bo (by omega)) rfl]
 ·unfold DJ
  cases BQ (Ej c.Requests) c.Requests.length <;> rfl
 ·rw [D7 hi,Bool.or_eq_false_iff] at hp
  have hc':(i:Int) < (c.Requests.length:Int):=by omega
  unfold Ib
  simp only [hc',decide_true,cond_true,AZ hi,obs,jH,hp.1,cond_false,Qh c.Requests c.Requests[i] (by omega),PL hi (KA _),hp.2,wi1 (show i≤1099511627776 by omega)]
 ·rw [D7 hi] at hp
  rw [HU hi]
  have hc':(i:Int) < (c.Requests.length:Int):=by omega
  unfold Ib
  simp only [hc',decide_true,cond_true,AZ hi,obs,jH,Qh c.Requests c.Requests[i] (by omega),PL hi (KA _)]
  cases h1:Cj c.Requests[i] != 0
  ·rw [h1,Bool.false_or] at hp
   rw [hp]; exact ⟨rfl,rfl⟩
  ·exact ⟨rfl,rfl⟩
 ·unfold Ib
  simp only [Int.lt_irrefl,decide_false,cond_false]
  exact ⟨trivial,rfl⟩
theorem TF (c:Aa) (h:c.Requests.length≤12):(Ax (Ic c) NN (0,0)).bind (Ai (fun _=>none) (fun i4 s8=>
          if i4 = 4 then
           some 0
          else
           none) (fun s8=>
          some s8.1)) = some (DJ c.Requests):=by
 rw [AI (f:=Ic c) (s0:=(0,0)) (fun i=>(0,(i:Int))) c.Requests.length (Ej c.Requests) (fun i=>.ret (Jc c.Requests i,(i:Int))) (.exit 4 (0,(c.Requests.length:Int))) (fun i hi _ hp=>?_) (fun i hi _ hp=>?_) (fun _=>?_) (Bo (by omega)) rfl]
 ·unfold DJ
  cases BQ (Ej c.Requests) c.Requests.length <;> rfl
 ·rw [D7 hi,Bool.or_eq_false_iff] at hp
  have hc':(i:Int) < (c.Requests.length:Int):=by omega
  unfold Ic
  simp only [hc',decide_true,cond_true,AZ hi,obs,dS,hp.1,cond_false,EZ (Nat.le_of_lt hi),KC (c.Requests.take i) c.Requests[i] (by rw [List.length_take]; omega),He,C9,hp.2,wi1 (show i≤1099511627776 by omega)]
 ·rw [D7 hi] at hp
  rw [HU hi]
  have hc':(i:Int) < (c.Requests.length:Int):=by omega
  unfold Ic
  simp only [hc',decide_true,cond_true,AZ hi,obs,dS,EZ (Nat.le_of_lt hi),KC (c.Requests.take i) c.Requests[i] (by rw [List.length_take]; omega),He,C9]
  cases h1:Cj c.Requests[i] != 0
  ·rw [h1,Bool.false_or] at hp
   rw [hp]; exact ⟨rfl,rfl⟩
  ·exact ⟨rfl,rfl⟩
 ·unfold Ic
  simp only [Int.lt_irrefl,decide_false,cond_false]
  exact ⟨trivial,rfl⟩
noncomputable def F8 (c:Aa) (r:Af):Bool:=BV c.F c.Ledger r != 0
noncomputable def Hw (c:Aa) (i:Nat):Int:=((c.Replicas[i]?).map (BV c.F c.Ledger)).getD 0
noncomputable def JW (c:Aa):Option Nat:=BQ (pAt (F8 c) c.Replicas) c.Replicas.length
theorem TG (c:Aa) (H:BK c.F c.Ledger) (hr:c.Replicas.length≤1048576):Ax (Ia c) NN (0,0) = some (orF (JW c) (fun i=>.ret (Hw c i,(i:Int))) (.exit 2 (0,(c.Replicas.length:Int)))):=by
 exact AI (f:=Ia c) (s0:=(0,0)) (fun i=>(0,(i:Int))) c.Replicas.length (pAt (F8 c) c.Replicas) (fun i=>.ret (Hw c i,(i:Int))) (.exit 2 (0,(c.Replicas.length:Int))) (fun i hi _ hp=>by
  rw [AU hi] at hp
  unfold F8 at hp
  have hc':(i:Int) < (c.Replicas.length:Int):=by omega
  unfold Ia
  simp only [hc',decide_true,cond_true,AZ hi,obs,OM H,hp,cond_false,wi1 (show i≤1099511627776 by omega)]) (fun i hi _ hp=>by
  rw [AU hi] at hp
  unfold F8 at hp
  have hc':(i:Int) < (c.Replicas.length:Int):=by omega
  unfold Ia Hw
  rw [List.getElem?_eq_getElem hi]
  simp only [hc',decide_true,cond_true,AZ hi,obs,OM H,hp,Option.map_some,Option.getD_some]
  exact ⟨trivial,rfl⟩) (fun _=>by
  unfold Ia
  simp only [Int.lt_irrefl,decide_false,cond_false]
  exact ⟨trivial,rfl⟩) (Bo hr) rfl
theorem TI (c:Aa) (H:BK c.F c.Ledger) (hr:c.Replicas.length≤1048576):Ax (Ie c (E7 c.F c.Ledger)) NN (0,0) = some (orF (JW c) (fun i=>.ret (Hw c i,(i:Int))) (.exit 2 (0,(c.Replicas.length:Int)))):=by
 exact AI (f:=Ie c (E7 c.F c.Ledger)) (s0:=(0,0)) (fun i=>(0,(i:Int))) c.Replicas.length (pAt (F8 c) c.Replicas) (fun i=>.ret (Hw c i,(i:Int))) (.exit 2 (0,(c.Replicas.length:Int))) (fun i hi _ hp=>by
  rw [AU hi] at hp
  unfold F8 at hp
  have hc':(i:Int) < (c.Replicas.length:Int):=by omega
  unfold Ie
  simp only [hc',decide_true,cond_true,AZ hi,obs,ON H,hp,cond_false,wi1 (show i≤1099511627776 by omega)]) (fun i hi _ hp=>by
  rw [AU hi] at hp
  unfold F8 at hp
  have hc':(i:Int) < (c.Replicas.length:Int):=by omega
  unfold Ie Hw
  rw [List.getElem?_eq_getElem hi]
  simp only [hc',decide_true,cond_true,AZ hi,obs,ON H,hp,Option.map_some,Option.getD_some]
  exact ⟨trivial,rfl⟩) (fun _=>by
  unfold Ie
  simp only [Int.lt_irrefl,decide_false,cond_false]
  exact ⟨trivial,rfl⟩) (Bo hr) rfl
theorem pD {L:List Int} {k:Int} (h:L.length≤1048576):B7 8 L [k] = some (L++[k]):=by
 unfold B7
 rw [if_pos (by simp; omega)]
theorem eZ (c:Aa) (hr:c.Replicas.length≤1048576):Ax (Jq c) NN (0,[]) = some (.exit 0 ((c.Replicas.length:Int),c.Replicas.map (·.Id))):=by
 rw [Di (f:=Jq c) (s0:=(0,[])) (fun i=>((i:Int),(c.Replicas.take i).map (·.Id))) c.Replicas.length (.exit 0 ((c.Replicas.length:Int),(c.Replicas.take c.Replicas.length).map (·.Id))) (fun i hi=>?_) ?_ rfl (Bo hr) rfl]
 ·rw [List.take_length]
 ·unfold Jq
  simp only [Int.lt_irrefl,decide_false,cond_false]
 ·have hc':(i:Int) < (c.Replicas.length:Int):=by omega
  unfold Jq
  simp only [hc',decide_true,cond_true,AZ hi,obs,pD (show ((c.Replicas.take i).map (·.Id)).length≤1048576 by simp; omega),wi1 (show i≤1099511627776 by omega)]
  rw [EA hi,List.map_append]
  rfl
structure NE (c:Aa):Prop where
 led:BK c.F c.Ledger
 badl:(c.Bad.length:Int)≤c.F
 reql:c.Requests.length≤12
 bad:EW c.F c.Bad = 0
 ids:c.Replicas.map (·.Id) = CL c.F c.Bad
 reps:∀ r∈c.Replicas,BV c.F c.Ledger r = 0
structure HE (c:Aa):Prop extends NE c where
 cl:Hk c.F c.Ledger = 0
 reqs:DJ c.Requests = 0
theorem MP {c:Aa} (F:HE c):JW c = none:=by
 unfold JW
 refine BO fun i hi=>?_
 rw [AU hi]
 unfold F8
 rw [F.reps _ (List.getElem_mem hi)]; rfl
theorem N1 {c:Aa} (g:EX c) (F:HE c) (W:ZY c.F c.Ledger):m22 c = some 0:=by
 have H:=F.led
 have e1:¬ (c.Requests.length:Int) > 12:=by have:=F.reql; omega
 have e2:¬ (c.Bad.length:Int) > c.F:=by have:=F.badl; omega
 have e0:((0:Int) != 0) = false:=rfl
 unfold m22
 rw [Xu _ _ g.led g.msg,F.cl]
 simp only [obs,e0,cond_false,e1,e2,decide_false,Ai,M5 _ _ g.bad,F.bad,eZ c g.rep,if_true]
 rw [J7 H.f12 _ g.bad,obs,SX _ _ (by rw [List.length_map]; exact g.rep),obs,decide_eq_true F.ids]
 simp only [Bool.not_true,cond_false]
 rw [Px H W,obs,TI c H g.rep,MP F]
 simp only [orF,obs,Ai,if_true]
 rw [TF c F.reql,F.reqs]
theorem U9 {c:Aa} (g:EX c) (F:HE c):m28 c = some 0:=by
 have H:=F.led
 have e1:¬ (c.Requests.length:Int) > 12:=by have:=F.reql; omega
 have e2:¬ (c.Bad.length:Int) > c.F:=by have:=F.badl; omega
 have e0:((0:Int) != 0) = false:=rfl
 unfold m28
 rw [Xt _ _ g.led g.msg,F.cl]
 simp only [obs,e0,cond_false,e1,decide_false]
 rw [Ye _ _ g.bad,decide_eq_false e2,F.bad]
 simp only [obs,e0,cond_false]
 unfold m67
 rcases TJ c H.f12 g.bad g.rep with ⟨h1,j,h2⟩ | ⟨h1,h2⟩
 rotate_left
 ·exact absurd F.ids h1
 rw [h2]
 simp only [obs,Ai,if_true,bne_self_eq_false,cond_false]
 rw [TG c H g.rep,MP F]
 simp only [orF,obs,Ai,if_true,e0,cond_false]
 rw [TE c F.reql,F.reqs]
end Go.Proofs.YtjlecnhninhmnaaGreatDoor
