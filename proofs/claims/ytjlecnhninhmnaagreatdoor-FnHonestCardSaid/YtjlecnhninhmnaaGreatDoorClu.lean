/- Clusters: what is needed first. -/
import Derived.Test.YtjlecnhninhmnaaGreatDoorSort
import Derived.Test.YtjlecnhninhmnaaGreatDoorRh6
namespace Go.Proofs.YtjlecnhninhmnaaGreatDoor
open Go Go.Rf
set_option linter.unusedVariables false
set_option linter.unusedSimpArgs false
theorem Bl {n:Nat} (h:n≤1048576):n < NN:=by rw [N5]; omega
def Bd (m:Ai):Prop:=m.Certs.length≤1048576∧m.Refs.length≤1048576
def IJ (r:Ag):Prop:=r.Ops.length≤1048576
structure Eu (c:Aa):Prop where
 bad:c.Bad.length≤1048576
 rep:c.Replicas.length≤1048576
 led:c.Ledger.length≤1048576
 msg:∀ m∈c.Ledger,Bd m
 req:c.Requests.length≤1048576
 ops:∀ r∈c.Requests,IJ r
theorem BS {n:Nat} (h:n≤1048576):n≤big:=by unfold big; omega
open Go Go.Rf
def inR (n lo hi:Int):Bool:=decide (lo≤n∧n≤hi)
theorem in1 (n lo hi:Int):Dk n lo hi = inR n lo hi:=by
 unfold Dk inR
 by_cases h:n ≥ lo
 ·simp [h]
 ·simp [h]
theorem in2 (n lo hi:Int):m63 n lo hi = inR n lo hi:=in1 n lo hi
theorem FX (k:Int):m25 k = inR k 1 3:=in1 _ _ _
theorem JO (k:Int):m97 k = inR k 0 20:=in1 _ _ _
theorem Ir (k:Int):OW k = inR k 1 30:=in1 _ _ _
theorem GL (k:Int):OU k = inR k 0 12:=in1 _ _ _
def BG (f:Int):Int:=wi .i64 ((wi .i64 (3 * f)) + 1)
theorem YM (f:Int):m75 f = BG f:=rfl
theorem Iu (f k:Int):m96 f k = inR k 1 (BG f):=in1 _ _ _
theorem Xh (f k:Int):Ub f k = inR k 1 (BG f):=in1 _ _ _
theorem UM (a b c d e f g h:Bool):(bif !a then
    some (LO.norm true)
   else
    bif !b then
     bif c then
      some (LO.norm true)
     else
      bif d then
       some (LO.norm true)
      else
       bif e then
        bif f then
         some (LO.norm true)
        else
         bif g then
          some (LO.norm h)
         else
          some (LO.norm false)
       else
        bif g then
         some (LO.norm h)
        else
         some (LO.norm false)
    else
     bif e then
      bif f then
       some (LO.norm true)
      else
       bif g then
        some (LO.norm h)
       else
        some (LO.norm false)
     else
      bif g then
       some (LO.norm h)
      else
       some (LO.norm false)) = some (LO.norm (!((a && (b || (!c && !d))) && ((!e || !f) && (!g || !h))))):=by
 cases a <;> cases b <;> cases c <;> cases d <;> cases e <;> cases f <;> cases g <;> cases h <;> rfl
theorem UL (a b c d e f g h:Bool):(bif a then
   bif b then
    bif e then
     bif g then
      some (LO.norm true)
     else
      some (LO.norm h)
    else
     bif f then
      bif g then
       some (LO.norm true)
      else
       some (LO.norm h)
     else
      some (LO.norm false)
   else
    bif c then
     bif d then
      bif e then
       bif g then
        some (LO.norm true)
       else
        some (LO.norm h)
      else
       bif f then
        bif g then
         some (LO.norm true)
        else
         some (LO.norm h)
       else
        some (LO.norm false)
     else
      some (LO.norm false)
    else
     some (LO.norm false)
  else
   some (LO.norm false)) = some (LO.norm ((a && (b || (c && d))) && ((e || f) && (g || h)))):=by
 cases a <;> cases b <;> cases c <;> cases d <;> cases e <;> cases f <;> cases g <;> cases h <;> rfl
theorem UK (a b c d e:Bool):(bif !a then
      some (LO.norm true)
     else
      bif !b then
       some (LO.norm true)
      else
       bif c then
        bif !d then
         some (LO.norm true)
        else
         some (LO.norm (!e))
       else
        some (LO.norm false)) = some (LO.norm (!a || (!b || (c && (!d || !e))))):=by
 cases a <;> cases b <;> cases c <;> cases d <;> cases e <;> rfl
theorem FW (a b c:Bool):(bif !a then
     some (LO.norm true)
    else
     bif !b then
      some (LO.norm true)
     else
      some (LO.norm (!c))) = some (LO.norm (!a || (!b || !c))):=by
 cases a <;> cases b <;> cases c <;> rfl
def GE (m:Ai):Bool:=(inR m.Kind 1 5 && (inR m.Kind 1 3 || ((m.Slot == 0) && (m.Value == 0)))) && (((m.Kind == 4) || ((m.Certs.length:Int) == 0)) && ((m.Kind == 5) || ((m.Refs.length:Int) == 0)))
def EA (f:Int) (m:Ai):Bool:=!inR m.View 0 20 || (!inR m.From 1 (BG f) || (inR m.Kind 1 3 && (!inR m.Slot 1 30 || !inR m.Value 0 12)))
def CO (v:Int) (c:AE):Bool:=!inR c.Slot 1 30 || (!inR c.View 0 (wi .i64 (v - 1)) || !inR c.Value 0 12)
def Dn (xs:List Int) (i:Nat):Bool:=decide (0 < i) && decide (A xs i≤A xs (i - 1))
def D8 (xs:List Int):Bool:=(BN (Dn xs) xs.length).isNone
def DR (r:Int):Bool:=!inR r 0 239
noncomputable def CB (f:Int) (m:Ai):Int:=bif GE m then bif EA f m then 3 else bif decide ((m.Certs.length:Int) > 30) then 2 else bif decide ((m.Refs.length:Int) > BG f) then 2 else bif D8 (m.Certs.map (·.Slot)) then bif D8 m.Refs then bif m.Certs.any (CO m.View) then 3 else bif m.Refs.any DR then 3 else 0 else 1 else 1 else 1
theorem JH {α:Type} {g:α→Int} {cs:List α} {i:Nat} (h:i < cs.length):A (cs.map g) i = g cs[i]:=by simp [A,h]
theorem Hn {i:Nat} (h0:0 < i) (h:i≤big):wi .i64 ((i:Int) - 1) = ((i - 1:Nat):Int):=by
 unfold big at h
 rw [Dp (by omega) (by omega)]; omega
theorem Nj {p:Nat→Bool} (n:Nat) (h0:p 0 = false):(BN (fun i=>p (i + 1)) (n - 1)).isNone = (BN p n).isNone:=by
 rw [Bool.eq_iff_iff,Option.isNone_iff_eq_none,Option.isNone_iff_eq_none,IL,IL]
 constructor
 ·intro h j hj
  cases j with
  | zero=>exact h0
  | succ j=>exact h j (by omega)
 ·intro h j hj; exact h (j + 1) (by omega)
theorem FO {β:Type} {x:Option Nat} {out:Nat→β} {fin:β} (h:x.isNone = true):orF x out fin = fin:=by
 cases x
 ·rfl
 ·cases h
theorem FN {β:Type} {x:Option Nat} {out:Nat→β} {fin:β} (h:x.isNone = false):∃ i,orF x out fin = out i:=by
 cases x
 ·cases h
 ·exact ⟨_,rfl⟩
theorem dB (m:Ai) (hg:Bd m) (s:Int):∃ j,Az (HU m) NN (s,0) = some (bif D8 (m.Certs.map (·.Slot)) then .exit 1 (s,j) else .ret (1,j)):=by
 rw [AG (f:=HU m) (s0:=(s,0)) (fun i=>(s,(i:Int))) m.Certs.length (Dn (m.Certs.map (·.Slot))) (fun i=>.ret (1,(i:Int))) (.exit 1 (s,(m.Certs.length:Int))) (fun i hi _ hp=>?_) (fun i hi _ hp=>?_) (fun _=>?_) (Bl hg.1) rfl]
 ·unfold D8
  rw [List.length_map]
  cases h:(BN (Dn (m.Certs.map (·.Slot))) m.Certs.length).isNone
  ·obtain ⟨i,hi⟩:=FN (out:=fun i=>LO.ret ((1:Int),(i:Int))) (fin:=.exit 1 (s,(m.Certs.length:Int))) h
   exact ⟨_,by rw [hi]; rfl⟩
  ·exact ⟨_,by rw [FO h]; rfl⟩
 ·have hc':(i:Int) < (m.Certs.length:Int):=by omega
  have hb:i≤big:=Nat.le_trans (Nat.le_of_lt hi) (BS hg.1)
  unfold HU
  simp only [hc',decide_true,cond_true,AW hi,obs]
  by_cases h0:0 < i
  ·have h0':(i:Int) > 0:=by omega
   unfold Dn at hp
   rw [JH hi,JH (show i - 1 < m.Certs.length by omega),decide_eq_true h0,Bool.true_and] at hp
   simp only [h0',decide_true,cond_true,Hn h0 hb,AW (show i - 1 < m.Certs.length by omega),obs,hp,cond_false,Ah,wi1 hb]
  ·have h0':¬ (i:Int) > 0:=by omega
   simp only [h0',decide_false,cond_false,obs,Ah,wi1 hb]
 ·have hc':(i:Int) < (m.Certs.length:Int):=by omega
  have hb:i≤big:=Nat.le_trans (Nat.le_of_lt hi) (BS hg.1)
  unfold HU
  unfold Dn at hp
  rw [Bool.and_eq_true,JH hi,JH (show i - 1 < m.Certs.length by omega)] at hp
  have h0:0 < i:=of_decide_eq_true hp.1
  have h0':(i:Int) > 0:=by omega
  simp only [hc',decide_true,cond_true,AW hi,obs,h0',Hn h0 hb,AW (show i - 1 < m.Certs.length by omega),hp.2,Ah]
  exact ⟨trivial,rfl⟩
 ·unfold HU
  simp only [Int.lt_irrefl,decide_false,cond_false]
  exact ⟨trivial,rfl⟩
theorem c8 (m:Ai) (hg:Bd m) (s:Int):∃ j,Az (HT m) NN (s,0) = some (bif D8 m.Refs then .exit 3 (s,j) else .ret (1,j)):=by
 rw [AG (f:=HT m) (s0:=(s,0)) (fun i=>(s,(i:Int))) m.Refs.length (Dn m.Refs) (fun i=>.ret (1,(i:Int))) (.exit 3 (s,(m.Refs.length:Int))) (fun i hi _ hp=>?_) (fun i hi _ hp=>?_) (fun _=>?_) (Bl hg.2) rfl]
 ·unfold D8
  cases h:(BN (Dn m.Refs) m.Refs.length).isNone
  ·obtain ⟨i,hi⟩:=FN (out:=fun i=>LO.ret ((1:Int),(i:Int))) (fin:=.exit 3 (s,(m.Refs.length:Int))) h
   exact ⟨_,by rw [hi]; rfl⟩
  ·exact ⟨_,by rw [FO h]; rfl⟩
 ·have hc':(i:Int) < (m.Refs.length:Int):=by omega
  have hb:i≤big:=Nat.le_trans (Nat.le_of_lt hi) (BS hg.2)
  unfold HT
  simp only [hc',decide_true,cond_true,AW hi,obs]
  by_cases h0:0 < i
  ·have h0':(i:Int) > 0:=by omega
   unfold Dn at hp
   rw [Ed hi,Ed (show i - 1 < m.Refs.length by omega),decide_eq_true h0,Bool.true_and] at hp
   simp only [h0',decide_true,cond_true,Hn h0 hb,AW (show i - 1 < m.Refs.length by omega),obs,hp,cond_false,Ah,wi1 hb]
  ·have h0':¬ (i:Int) > 0:=by omega
   simp only [h0',decide_false,cond_false,obs,Ah,wi1 hb]
 ·have hc':(i:Int) < (m.Refs.length:Int):=by omega
  have hb:i≤big:=Nat.le_trans (Nat.le_of_lt hi) (BS hg.2)
  unfold HT
  unfold Dn at hp
  rw [Bool.and_eq_true,Ed hi,Ed (show i - 1 < m.Refs.length by omega)] at hp
  have h0:0 < i:=of_decide_eq_true hp.1
  have h0':(i:Int) > 0:=by omega
  simp only [hc',decide_true,cond_true,AW hi,obs,h0',Hn h0 hb,AW (show i - 1 < m.Refs.length by omega),hp.2,Ah]
  exact ⟨trivial,rfl⟩
 ·unfold HT
  simp only [Int.lt_irrefl,decide_false,cond_false]
  exact ⟨trivial,rfl⟩
theorem U6 {i:Nat} (h:i≤1048576):wi .i64 ((i:Int) + 1 + 1) = ((i + 1:Nat):Int) + 1:=by rw [Dp (by omega) (by omega)]; omega
theorem JM {i:Nat} (h:i≤1048576):wi .i64 ((i:Int) + 1 - 1) = (i:Int):=by rw [Dp (by omega) (by omega)]; omega
theorem c9 (m:Ai) (hg:Bd m) (s:Int):∃ j,Az (Gw m) NN (s,1) = some (bif D8 (m.Certs.map (·.Slot)) then .exit 0 (s,j) else .ret (1,j)):=by
 have hg1:=hg.1
 rw [AG (f:=Gw m) (s0:=(s,1)) (fun i=>(s,(i:Int) + 1)) (m.Certs.length - 1) (fun i=>Dn (m.Certs.map (·.Slot)) (i + 1)) (fun i=>.ret (1,(i:Int) + 1)) (.exit 0 (s,((m.Certs.length - 1:Nat):Int) + 1)) (fun i hi _ hp=>?_) (fun i hi _ hp=>?_) (fun _=>?_) (Bl (by omega)) rfl]
 ·unfold D8
  rw [List.length_map,← Nj m.Certs.length (p:=Dn (m.Certs.map (·.Slot))) (by simp [Dn])]
  cases h:(BN (fun i=>Dn (m.Certs.map (·.Slot)) (i + 1)) (m.Certs.length - 1)).isNone
  ·obtain ⟨i,hi⟩:=FN (out:=fun i=>LO.ret ((1:Int),(i:Int) + 1)) (fin:=.exit 0 (s,((m.Certs.length - 1:Nat):Int) + 1)) h
   exact ⟨_,by rw [hi]; rfl⟩
  ·exact ⟨_,by rw [FO h]; rfl⟩
 ·have hc':(i:Int) + 1 < (m.Certs.length:Int):=by omega
  have h1:i + 1 < m.Certs.length:=by omega
  have g1:Ar m.Certs ((i:Int) + 1) = some m.Certs[i + 1]:=AW (i:=i + 1) h1
  unfold Gw
  unfold Dn at hp
  rw [JH h1,JH (show i + 1 - 1 < m.Certs.length by omega)] at hp
  simp only [Nat.add_sub_cancel,Nat.zero_lt_succ,decide_true,Bool.true_and] at hp
  simp only [hc',decide_true,cond_true,g1,JM (show i≤1048576 by omega),AW (show i < m.Certs.length by omega),obs,hp,cond_false,U6 (show i≤1048576 by omega)]
 ·have hc':(i:Int) + 1 < (m.Certs.length:Int):=by omega
  have h1:i + 1 < m.Certs.length:=by omega
  have g1:Ar m.Certs ((i:Int) + 1) = some m.Certs[i + 1]:=AW (i:=i + 1) h1
  unfold Gw
  unfold Dn at hp
  rw [JH h1,JH (show i + 1 - 1 < m.Certs.length by omega)] at hp
  simp only [Nat.add_sub_cancel,Nat.zero_lt_succ,decide_true,Bool.true_and] at hp
  simp only [hc',decide_true,cond_true,g1,JM (show i≤1048576 by omega),AW (show i < m.Certs.length by omega),obs,hp]
  exact ⟨trivial,rfl⟩
 ·have hc':¬ (((m.Certs.length - 1:Nat):Int) + 1 < (m.Certs.length:Int)):=by omega
  unfold Gw
  simp only [hc',decide_false,cond_false]
  exact ⟨trivial,rfl⟩
theorem c7 (m:Ai) (hg:Bd m) (s:Int):∃ j,Az (Gv m) NN (s,1) = some (bif D8 m.Refs then .exit 2 (s,j) else .ret (1,j)):=by
 have hg1:=hg.2
 rw [AG (f:=Gv m) (s0:=(s,1)) (fun i=>(s,(i:Int) + 1)) (m.Refs.length - 1) (fun i=>Dn m.Refs (i + 1)) (fun i=>.ret (1,(i:Int) + 1)) (.exit 2 (s,((m.Refs.length - 1:Nat):Int) + 1)) (fun i hi _ hp=>?_) (fun i hi _ hp=>?_) (fun _=>?_) (Bl (by omega)) rfl]
 ·unfold D8
  rw [← Nj m.Refs.length (p:=Dn m.Refs) (by simp [Dn])]
  cases h:(BN (fun i=>Dn m.Refs (i + 1)) (m.Refs.length - 1)).isNone
  ·obtain ⟨i,hi⟩:=FN (out:=fun i=>LO.ret ((1:Int),(i:Int) + 1)) (fin:=.exit 2 (s,((m.Refs.length - 1:Nat):Int) + 1)) h
   exact ⟨_,by rw [hi]; rfl⟩
  ·exact ⟨_,by rw [FO h]; rfl⟩
 ·have hc':(i:Int) + 1 < (m.Refs.length:Int):=by omega
  have h1:i + 1 < m.Refs.length:=by omega
  have g1:Ar m.Refs ((i:Int) + 1) = some m.Refs[i + 1]:=AW (i:=i + 1) h1
  unfold Gv
  unfold Dn at hp
  rw [Ed h1,Ed (show i + 1 - 1 < m.Refs.length by omega)] at hp
  simp only [Nat.add_sub_cancel,Nat.zero_lt_succ,decide_true,Bool.true_and] at hp
  simp only [hc',decide_true,cond_true,g1,JM (show i≤1048576 by omega),AW (show i < m.Refs.length by omega),obs,hp,cond_false,U6 (show i≤1048576 by omega)]
 ·have hc':(i:Int) + 1 < (m.Refs.length:Int):=by omega
  have h1:i + 1 < m.Refs.length:=by omega
  have g1:Ar m.Refs ((i:Int) + 1) = some m.Refs[i + 1]:=AW (i:=i + 1) h1
  unfold Gv
  unfold Dn at hp
  rw [Ed h1,Ed (show i + 1 - 1 < m.Refs.length by omega)] at hp
  simp only [Nat.add_sub_cancel,Nat.zero_lt_succ,decide_true,Bool.true_and] at hp
  simp only [hc',decide_true,cond_true,g1,JM (show i≤1048576 by omega),AW (show i < m.Refs.length by omega),obs,hp]
  exact ⟨trivial,rfl⟩
 ·have hc':¬ (((m.Refs.length - 1:Nat):Int) + 1 < (m.Refs.length:Int)):=by omega
  unfold Gv
  simp only [hc',decide_false,cond_false]
  exact ⟨trivial,rfl⟩
theorem LJ {α:Type} (q:α→Bool) (xs:List α):(BN (pAt q xs) xs.length).isNone = !xs.any q:=by
 rw [← C0]; cases BN (pAt q xs) xs.length <;> rfl
theorem lF (m:Ai) (hg:Bd m) (s:Int):∃ j,Az (Gu m) NN (s,0) = some (bif m.Certs.any (CO m.View) then .ret (3,j) else .exit 4 (s,j)):=by
 rw [AG (f:=Gu m) (s0:=(s,0)) (fun i=>(s,(i:Int))) m.Certs.length (pAt (CO m.View) m.Certs) (fun i=>.ret (3,(i:Int))) (.exit 4 (s,(m.Certs.length:Int))) (fun i hi _ hp=>?_) (fun i hi _ hp=>?_) (fun _=>?_) (Bl hg.1) rfl]
 ·have e:=LJ (CO m.View) m.Certs
  cases h:m.Certs.any (CO m.View)
  ·rw [h] at e; exact ⟨_,by rw [FO e]; rfl⟩
  ·rw [h] at e
   obtain ⟨i,hi⟩:=FN (out:=fun i=>LO.ret ((3:Int),(i:Int))) (fin:=.exit 4 (s,(m.Certs.length:Int))) e
   exact ⟨_,by rw [hi]; rfl⟩
 ·have hc':(i:Int) < (m.Certs.length:Int):=by omega
  have hb:i≤big:=Nat.le_trans (Nat.le_of_lt hi) (BS hg.1)
  rw [AQ hi] at hp
  unfold Gu
  simp only [hc',decide_true,cond_true,AW hi,obs,in1,FW]
  unfold CO at hp
  simp only [hp,cond_false,Ah,obs,wi1 hb]
 ·have hc':(i:Int) < (m.Certs.length:Int):=by omega
  rw [AQ hi] at hp
  unfold Gu
  simp only [hc',decide_true,cond_true,AW hi,obs,in1,FW]
  unfold CO at hp
  simp only [hp,cond_true,Ah,obs]
  exact ⟨trivial,rfl⟩
 ·unfold Gu
  simp only [Int.lt_irrefl,decide_false,cond_false]
  exact ⟨trivial,rfl⟩
theorem refL (m:Ai) (hg:Bd m) (s:Int):∃ j,Az (Gt m) NN (s,0) = some (bif m.Refs.any DR then .ret (3,j) else .exit 6 (s,j)):=by
 rw [AG (f:=Gt m) (s0:=(s,0)) (fun i=>(s,(i:Int))) m.Refs.length (pAt DR m.Refs) (fun i=>.ret (3,(i:Int))) (.exit 6 (s,(m.Refs.length:Int))) (fun i hi _ hp=>?_) (fun i hi _ hp=>?_) (fun _=>?_) (Bl hg.2) rfl]
 ·have e:=LJ DR m.Refs
  cases h:m.Refs.any DR
  ·rw [h] at e; exact ⟨_,by rw [FO e]; rfl⟩
  ·rw [h] at e
   obtain ⟨i,hi⟩:=FN (out:=fun i=>LO.ret ((3:Int),(i:Int))) (fin:=.exit 6 (s,(m.Refs.length:Int))) e
   exact ⟨_,by rw [hi]; rfl⟩
 ·have hc':(i:Int) < (m.Refs.length:Int):=by omega
  have hb:i≤big:=Nat.le_trans (Nat.le_of_lt hi) (BS hg.2)
  rw [AQ hi] at hp
  unfold Gt
  unfold DR at hp
  simp only [hc',decide_true,cond_true,AW hi,obs,in1,hp,cond_false,wi1 hb]
 ·have hc':(i:Int) < (m.Refs.length:Int):=by omega
  rw [AQ hi] at hp
  unfold Gt
  unfold DR at hp
  simp only [hc',decide_true,cond_true,AW hi,obs,in1,hp]
  exact ⟨trivial,rfl⟩
 ·unfold Gt
  simp only [Int.lt_irrefl,decide_false,cond_false]
  exact ⟨trivial,rfl⟩
theorem WZ (m:Ai) (hg:Bd m):W3 m = some (bif D8 (m.Certs.map (·.Slot)) then bif D8 m.Refs then bif m.Certs.any (CO m.View) then 3 else bif m.Refs.any DR then 3 else 0 else 1 else 1):=by
 unfold W3
 obtain ⟨j1,e1⟩:=c9 m hg 0
 rw [e1]
 cases D8 (m.Certs.map (·.Slot))
 ·rfl
 simp only [cond_true,obs,Ah,if_true]
 obtain ⟨j2,e2⟩:=c7 m hg 0
 rw [e2]
 cases D8 m.Refs
 ·rfl
 simp only [cond_true,obs,Ah,if_true]
 obtain ⟨j3,e3⟩:=lF m hg 0
 rw [e3]
 cases m.Certs.any (CO m.View)
 rotate_left
 ·rfl
 simp only [cond_false,obs,Ah,if_true]
 obtain ⟨j4,e4⟩:=refL m hg 0
 rw [e4]
 cases m.Refs.any DR <;> rfl
theorem Z8 (m:Ai):W4 m = some (GE m):=by
 unfold W4
 rw [UL]
 simp only [in1,obs,Ah]
 rfl
theorem OL (f:Int) (m:Ai) (hg:Bd m):WE f m = some (CB f m):=by
 unfold WE CB
 rw [Z8,obs,UK]
 cases hb:GE m
 ·rfl
 have hk:decide (m.Kind≤3) = inR m.Kind 1 3:=by
  unfold GE at hb
  rw [Bool.and_eq_true,Bool.and_eq_true] at hb
  have:=hb.1.1
  unfold inR at this ⊢
  have h1:=of_decide_eq_true this
  exact decide_eq_decide.2 ⟨fun h=>⟨h1.1,h⟩,fun h=>h.2⟩
 simp only [in1,Xh,hk,Bool.not_true,cond_false,cond_true,obs,Ah]
 rw [show (!inR m.View 0 20 || (!inR m.From 1 (BG f) || (inR m.Kind 1 3 && (!inR m.Slot 1 30 || !inR m.Value 0 12)))) = EA f m from rfl]
 cases hr:EA f m
 rotate_left
 ·rfl
 simp only [cond_false,obs,Ah]
 cases h1:decide ((m.Certs.length:Int) > 30)
 rotate_left
 ·rfl
 simp only [cond_false]
 cases h2:decide ((m.Refs.length:Int) > BG f)
 rotate_left
 ·have h2':decide ((m.Refs.length:Int) > wi .i64 ((wi .i64 (3 * f)) + 1)) = true:=h2
  rw [h2']; rfl
 have h2':decide ((m.Refs.length:Int) > wi .i64 ((wi .i64 (3 * f)) + 1)) = false:=h2
 simp only [h2',cond_false,obs,Ah,WZ m hg]
theorem lG (m:Ai) (c:AE):OR c m = some (CO m.View c):=by
 unfold OR
 rw [FW]
 simp only [Ir,GL,in2,obs,Ah]
 rfl
theorem KJ (f:Int) (m:Ai) (hg:Bd m):m94 f m = some (CB f m):=by
 unfold m94 CB
 rw [UM,UK]
 have hbare:(!((m63 m.Kind 1 5 && (m25 m.Kind || (!(m.Slot != 0) && !(m.Value != 0)))) && ((!(m.Kind != 4) || !decide ((m.Certs.length:Int) > 0)) && (!(m.Kind != 5) || !decide ((m.Refs.length:Int) > 0))))) = !GE m:=by
  have e1:∀ n:Nat,(!decide ((n:Int) > 0)) = ((n:Int) == 0):=fun n=>by
   cases n with
   | zero=>rfl
   | succ n=>
    have:((n + 1:Nat):Int) > 0:=by omega
    simp only [this,decide_true,Bool.not_true]
    symm
    simp; omega
  simp only [in2,FX,bne,Bool.not_not,e1]
  rfl
 rw [hbare]
 simp only [obs,Ah]
 cases hb:GE m
 ·rfl
 simp only [Bool.not_true,cond_false,cond_true,obs,Ah,JO,Iu,FX,Ir,GL]
 rw [show (!inR m.View 0 20 || (!inR m.From 1 (BG f) || (inR m.Kind 1 3 && (!inR m.Slot 1 30 || !inR m.Value 0 12)))) = EA f m from rfl]
 cases hr:EA f m
 rotate_left
 ·rfl
 simp only [cond_false,obs,Ah]
 cases h1:decide ((m.Certs.length:Int) > 30)
 rotate_left
 ·rfl
 simp only [cond_false]
 cases h2:decide ((m.Refs.length:Int) > BG f)
 rotate_left
 ·have h2':decide ((m.Refs.length:Int) > m75 f) = true:=h2
  rw [h2']; rfl
 have h2':decide ((m.Refs.length:Int) > m75 f) = false:=h2
 simp only [h2',cond_false,obs,Ah]
 obtain ⟨j1,e1⟩:=dB m hg 0
 rw [e1]
 cases D8 (m.Certs.map (·.Slot))
 ·rfl
 simp only [cond_true,obs,Ah,if_true]
 obtain ⟨j2,e2⟩:=c8 m hg 0
 rw [e2]
 cases D8 m.Refs
 ·rfl
 simp only [cond_true,obs,Ah,if_true]
 rw [show m60 m.Certs (fun x0_=>OR x0_ m) = some (m.Certs.any (CO m.View)) from G0 (Bl hg.1) (BS hg.1) (fun x _=>lG m x)]
 cases m.Certs.any (CO m.View)
 rotate_left
 ·rfl
 simp only [cond_false,obs]
 rw [show TW m.Refs (fun x0_=>some (Q9 x0_)) = some (m.Refs.any DR) from G0 (Bl hg.2) (BS hg.2) (fun x _=>by unfold Q9; rw [in2]; rfl)]
 cases m.Refs.any DR <;> rfl
open Go Go.Rf
def neC (x1 x2:AE):Bool:=!(((x1.Slot == x2.Slot) && ((x1.View == x2.View) && ((x1.Value == x2.Value) && true))))
theorem Wm (a b:AE):neC a b = !decide (a = b):=by
 obtain ⟨a1,a2,a3⟩:=a
 obtain ⟨b1,b2,b3⟩:=b
 unfold neC
 congr 1
 rw [Bool.eq_iff_iff]
 simp
theorem Wl (a b:Int):(a != b) = !decide (a = b):=by
 rw [Bool.eq_iff_iff]; simp
theorem Zn (xs ys:List AE) (h:xs.length≤1048576):YO xs ys = some (decide (xs = ys)):=bG (ne:=neC) Wm (Bl h) (BS h)
theorem SB (xs ys:List Int) (h:xs.length≤1048576):m52 xs ys = some (decide (xs = ys)):=bG (ne:=fun a b=>a != b) Wl (Bl h) (BS h)
theorem UJ (a b c d e p q:Bool):(bif a then
   bif b then
    bif c then
     bif d then
      bif e then
       (some p).bind fun y1=>
       bif y1 then
        (some q).bind fun y2=>
        some (LO.norm y2)
       else
        some (LO.norm false)
      else
       some (LO.norm false)
     else
      some (LO.norm false)
    else
     some (LO.norm false)
   else
    some (LO.norm false)
  else
   some (LO.norm false)) = some (LO.norm (a && (b && (c && (d && (e && (p && q))))))):=by
 cases a <;> cases b <;> cases c <;> cases d <;> cases e <;> cases p <;> cases q <;> rfl
theorem UI (a b c d e f g:Bool):(bif a then
    some (LO.norm true)
   else
    bif b then
     some (LO.norm true)
    else
     bif c then
      some (LO.norm true)
     else
      bif d then
       some (LO.norm true)
      else
       bif e then
        some (LO.norm true)
       else
        bif f then
         some (LO.norm true)
        else
         some (LO.norm g)) = some (LO.norm (a || (b || (c || (d || (e || (f || g))))))):=by
 cases a <;> cases b <;> cases c <;> cases d <;> cases e <;> cases f <;> cases g <;> rfl
theorem dW (a b:Ai):decide (a = b) = ((a.Kind == b.Kind) && ((a.View == b.View) && ((a.From == b.From) && ((a.Slot == b.Slot) && ((a.Value == b.Value) && (decide (a.Certs = b.Certs) && decide (a.Refs = b.Refs))))))):=by
 obtain ⟨a1,a2,a3,a4,a5,a6,a7⟩:=a
 obtain ⟨b1,b2,b3,b4,b5,b6,b7⟩:=b
 rw [Bool.eq_iff_iff]
 simp
theorem Tj (a b:Ai) (hg:Bd a):WG a b = some (decide (a = b)):=by
 unfold WG
 rw [Zn _ _ hg.1,SB _ _ hg.2,UJ,dW]
 rfl
theorem Ti (a b:Ai) (hg:Bd a):TO a b = some (decide (a = b)):=by
 unfold TO
 rw [UI]
 simp only [obs,Ah]
 cases hx:(a.Kind != b.Kind || (a.View != b.View || (a.From != b.From || (a.Slot != b.Slot || (a.Value != b.Value || ((a.Certs.length:Int) != (b.Certs.length:Int) || (a.Refs.length:Int) != (b.Refs.length:Int)))))))
 rotate_left
 ·simp only [cond_true,obs,Ah]
  congr 1
  symm
  rw [decide_eq_false_iff_not]
  rintro rfl
  simp at hx
 simp only [cond_false,obs,Ah]
 simp only [Bool.or_eq_false_iff,bne_eq_false_iff_eq] at hx
 obtain ⟨h1,h2,h3,h4,h5,h6,h7⟩:=hx
 have hl1:a.Certs.length = b.Certs.length:=by omega
 have hl2:a.Refs.length = b.Refs.length:=by omega
 rcases LI (ex:=0) (ne:=neC) (N:=NN) Wm (Bl hg.1) (BS hg.1) hl1 with ⟨e1,j,k1⟩ | ⟨e1,j,k1⟩
 rotate_left
 ·rw [show Az (JX a b) NN (false,0) = some (.ret (false,j)) from k1]
  simp only [obs,Ah]
  congr 1
  symm
  rw [decide_eq_false_iff_not]
  rintro rfl
  exact e1 rfl
 rw [show Az (JX a b) NN (false,0) = some (.exit 0 (false,j)) from k1]
 simp only [obs,Ah,if_true]
 rcases LI (ex:=2) (ne:=fun a b:Int=>a != b) (N:=NN) Wl (Bl hg.2) (BS hg.2) hl2 with ⟨e2,j2,k2⟩ | ⟨e2,j2,k2⟩
 rotate_left
 ·rw [show Az (JW a b) NN (false,0) = some (.ret (false,j2)) from k2]
  simp only [obs,Ah]
  congr 1
  symm
  rw [decide_eq_false_iff_not]
  rintro rfl
  exact e2 rfl
 rw [show Az (JW a b) NN (false,0) = some (.exit 2 (false,j2)) from k2]
 simp only [obs,Ah,if_true]
 congr 1
 symm
 rw [decide_eq_true_eq]
 obtain ⟨a1,a2,a3,a4,a5,a6,a7⟩:=a
 obtain ⟨b1,b2,b3,b4,b5,b6,b7⟩:=b
 simp only at h1 h2 h3 h4 h5 e1 e2
 subst h1; subst h2; subst h3; subst h4; subst h5; subst e1; subst e2
 rfl
def atM (xs:List Ai) (m:Ai):Int:=ixI (BN (pAt (fun x=>decide (x = m)) xs) xs.length)
theorem Kx (xs:List Ai) (m:Ai) (h:xs.length≤1048576) (g:∀ x∈xs,Bd x):m91 xs m = some (atM xs m):=by
 unfold m91
 rw [show m64 xs (fun x0_=>QA x0_ m) = some (atM xs m) from Ih (Bl h) (BS h) (fun x hx=>by unfold QA; rw [Tj x m (g x hx)]; rfl)]
 rfl
theorem Ot (xs:List Ai) (m:Ai) (h:xs.length≤1048576) (g:∀ x∈xs,Bd x):WC xs m = some (atM xs m):=Ih (f:=fun x=>TO x m) (Bl h) (BS h) (fun x hx=>Ti x m (g x hx))
def BB (k:Int) (m:Ai):Bool:=m.Refs.any fun r=>decide (r ≥ k)
theorem IZ (m:Ai) (k:Int) (hg:Bd m):m95 m k = some (!BB k m):=by
 unfold m95
 rw [show TW m.Refs (fun x0_=>some (TV x0_ k)) = some (BB k m) from G0 (Bl hg.2) (BS hg.2) (fun x _=>rfl)]
 rfl
theorem ML (m:Ai) (k:Int) (hg:Bd m):YP m k = some (!BB k m):=kY (q:=fun r=>decide (r ≥ k)) (Bl hg.2) (BS hg.2)
noncomputable def EZ (f:Int) (xs:List Ai) (i:Nat):Bool:=(xs[i]?).any fun x=>(CB f x != 0) || (BB i x || decide (x∈xs.take i))
noncomputable def LD (f:Int) (xs:List Ai) (i:Nat):Int:=match xs[i]? with
 | some x=>bif CB f x != 0 then CB f x else bif BB i x then 4 else 6
 | none=>0
noncomputable def Hh (f:Int) (xs:List Ai):Int:=bif !inR f 1 2 then 3 else bif decide ((xs.length:Int) > 240) then 2 else orF (BN (EZ f xs) xs.length) (LD f xs) 0
theorem DV {f:Int} {xs:List Ai} {i:Nat} (h:i < xs.length):EZ f xs i = ((CB f xs[i] != 0) || (BB i xs[i] || decide (xs[i]∈xs.take i))):=by
 unfold EZ; rw [List.getElem?_eq_getElem h]; rfl
theorem Gz {f:Int} {xs:List Ai} {i:Nat} (h:i < xs.length):LD f xs i = (bif CB f xs[i] != 0 then CB f xs[i] else bif BB i xs[i] then 4 else 6):=by
 unfold LD; rw [List.getElem?_eq_getElem h]
theorem Ef {α:Type} {xs:List α} {i:Nat} (h:i≤xs.length):D6 xs 0 (i:Int) = some (xs.take i):=by
 unfold D6
 rw [if_pos ⟨by omega,by omega,by omega⟩]
 simp
theorem PV {xs:List Ai} {i:Nat} (h:i < xs.length):decide (atM (xs.take i) xs[i] ≥ 0) = decide (xs[i]∈xs.take i):=by
 unfold atM
 rw [GX,C0,Bool.eq_iff_iff]
 simp
theorem Nz {xs:List Ai} {i:Nat} (h:i < xs.length):(atM xs xs[i] != (i:Int)) = decide (xs[i]∈xs.take i):=by
 unfold atM
 by_cases hm:xs[i]∈xs.take i
 ·rw [decide_eq_true hm]
  obtain ⟨j,hj,e⟩:=List.mem_iff_getElem.1 hm
  rw [List.length_take] at hj
  rw [List.getElem_take] at e
  rcases BF (pAt (fun x=>decide (x = xs[i])) xs) xs.length with h' | ⟨k,h1,h2,h3⟩
  ·have:=h' j (by omega)
   rw [AQ (by omega)] at this
   simp [e] at this
  ·rw [B7 h1 h2 h3]
   have hk:k≤j:=by
    rcases Nat.lt_or_ge j k with hlt | hge
    ·have:=h2 j hlt
     rw [AQ (by omega)] at this
     simp [e] at this
    ·exact hge
   simp only [ixI,bne_iff_ne,ne_eq]
   omega
 ·rw [decide_eq_false hm]
  rw [B7 h (fun j hj=>by
   rw [AQ (by omega),decide_eq_false_iff_not]
   intro e
   exact hm (List.mem_iff_getElem.2 ⟨j,by rw [List.length_take]; omega,by rw [List.getElem_take]; exact e⟩)) (by rw [AQ h]; simp)]
  simp [ixI]
theorem Xb (f:Int) (xs:List Ai) (h:xs.length≤1048576) (g:∀ x∈xs,Bd x):m50 f xs = some (Hh f xs):=by
 unfold m50 Hh
 rw [show m33 f = inR f 1 2 from in1 _ _ _]
 cases inR f 1 2
 ·rfl
 simp only [Bool.not_true,cond_false]
 cases decide ((xs.length:Int) > 240)
 rotate_left
 ·rfl
 simp only [cond_false]
 rw [AG (f:=Jk f xs) (s0:=(0,0)) (fun i=>(0,(i:Int))) xs.length (EZ f xs) (fun i=>.ret (LD f xs i,(i:Int))) (.exit 1 (0,(xs.length:Int))) (fun i hi _ hp=>?_) (fun i hi _ hp=>?_) (fun _=>?_) (Bl h) rfl]
 ·cases BN (EZ f xs) xs.length <;> rfl
 ·have hc':(i:Int) < (xs.length:Int):=by omega
  have gi:=g _ (List.getElem_mem hi)
  rw [DV hi,Bool.or_eq_false_iff,Bool.or_eq_false_iff] at hp
  obtain ⟨p1,p2,p3⟩:=hp
  unfold Jk
  simp only [hc',decide_true,cond_true,AW hi,obs,KJ f _ gi,p1,cond_false,IZ _ _ gi,p2,Bool.not_false,Bool.not_true,Ef (Nat.le_of_lt hi),Kx (xs.take i) xs[i] (by rw [List.length_take]; omega) (fun x hx=>g x (List.mem_of_mem_take hx)),PV hi,p3,wi1 (show i≤1099511627776 by omega)]
 ·have hc':(i:Int) < (xs.length:Int):=by omega
  have gi:=g _ (List.getElem_mem hi)
  rw [DV hi] at hp
  rw [Gz hi]
  unfold Jk
  simp only [hc',decide_true,cond_true,AW hi,obs,KJ f _ gi,IZ _ _ gi,Ef (Nat.le_of_lt hi),Kx (xs.take i) xs[i] (by rw [List.length_take]; omega) (fun x hx=>g x (List.mem_of_mem_take hx)),PV hi]
  cases e1:CB f xs[i] != 0
  ·cases e2:BB i xs[i]
   ·rw [e1,e2,Bool.false_or,Bool.false_or] at hp
    rw [hp]
    exact ⟨rfl,rfl⟩
   ·exact ⟨rfl,rfl⟩
  ·exact ⟨rfl,rfl⟩
 ·unfold Jk
  simp only [Int.lt_irrefl,decide_false,cond_false]
  exact ⟨trivial,rfl⟩
theorem Xa (f:Int) (xs:List Ai) (h:xs.length≤1048576) (g:∀ x∈xs,Bd x):m65 f xs = some (Hh f xs):=by
 unfold m65 YU Hh
 rw [show YV f = inR f 1 2 from in1 _ _ _]
 cases inR f 1 2
 ·rfl
 simp only [Bool.not_true,cond_false]
 cases decide ((xs.length:Int) > 240)
 rotate_left
 ·rfl
 simp only [cond_false]
 rw [AG (f:=H4 f xs) (s0:=(0,0)) (fun i=>(0,(i:Int))) xs.length (EZ f xs) (fun i=>.ret (LD f xs i,(i:Int))) (.exit 0 (0,(xs.length:Int))) (fun i hi _ hp=>?_) (fun i hi _ hp=>?_) (fun _=>?_) (Bl h) rfl]
 ·cases BN (EZ f xs) xs.length <;> rfl
 ·have hc':(i:Int) < (xs.length:Int):=by omega
  have gi:=g _ (List.getElem_mem hi)
  rw [DV hi,Bool.or_eq_false_iff,Bool.or_eq_false_iff] at hp
  obtain ⟨p1,p2,p3⟩:=hp
  unfold H4
  simp only [hc',decide_true,cond_true,AW hi,obs,OL f _ gi,p1,cond_false,ML _ _ gi,p2,Bool.not_false,Bool.not_true,Ot xs xs[i] h g,Nz hi,p3,wi1 (show i≤1099511627776 by omega)]
 ·have hc':(i:Int) < (xs.length:Int):=by omega
  have gi:=g _ (List.getElem_mem hi)
  rw [DV hi] at hp
  rw [Gz hi]
  unfold H4
  simp only [hc',decide_true,cond_true,AW hi,obs,OL f _ gi,ML _ _ gi,Ot xs xs[i] h g,Nz hi]
  cases e1:CB f xs[i] != 0
  ·cases e2:BB i xs[i]
   ·rw [e1,e2,Bool.false_or,Bool.false_or] at hp
    rw [hp]
    exact ⟨rfl,rfl⟩
   ·exact ⟨rfl,rfl⟩
  ·exact ⟨rfl,rfl⟩
 ·unfold H4
  simp only [Int.lt_irrefl,decide_false,cond_false]
  exact ⟨trivial,rfl⟩
structure Yf (f:Int) (m:Ai):Prop where
 kind:1≤m.Kind∧m.Kind≤5
 bare:4≤m.Kind→m.Slot = 0∧m.Value = 0
 certs0:m.Kind≠4→m.Certs = []
 refs0:m.Kind≠5→m.Refs = []
 view:0≤m.View∧m.View≤20
 frm:1≤m.From∧m.From≤BG f
 slot:m.Kind≤3→1≤m.Slot∧m.Slot≤30
 value:m.Kind≤3→0≤m.Value∧m.Value≤12
 certsl:m.Certs.length≤30
 refsl:(m.Refs.length:Int)≤BG f
 cert:∀ c∈m.Certs,(1≤c.Slot∧c.Slot≤30)∧(0≤c.View∧c.View≤m.View - 1)∧(0≤c.Value∧c.Value≤12)
 ref:∀ r∈m.Refs,0≤r∧r≤239
theorem Bv {n lo hi:Int}:inR n lo hi = true ↔ lo≤n∧n≤hi:=by unfold inR; simp
theorem XA {f:Int} {m:Ai} (h:CB f m = 0):Yf f m:=by
 unfold CB at h
 cases hb:GE m
 ·rw [hb] at h; cases h
 cases hr:EA f m
 rotate_left
 ·rw [hb,hr] at h; cases h
 cases h1:decide ((m.Certs.length:Int) > 30)
 rotate_left
 ·rw [hb,hr,h1] at h; cases h
 cases h2:decide ((m.Refs.length:Int) > BG f)
 rotate_left
 ·rw [hb,hr,h1,h2] at h; cases h
 rw [hb,hr,h1,h2] at h
 simp only [cond_true,cond_false] at h
 cases h3:D8 (m.Certs.map (·.Slot))
 ·rw [h3] at h; cases h
 cases h4:D8 m.Refs
 ·rw [h3,h4] at h; cases h
 cases h5:m.Certs.any (CO m.View)
 rotate_left
 ·rw [h3,h4,h5] at h; cases h
 cases h6:m.Refs.any DR
 rotate_left
 ·rw [h3,h4,h5,h6] at h; cases h
 unfold GE at hb
 unfold EA at hr
 simp only [Bool.and_eq_true,Bool.or_eq_true,Bv,beq_iff_eq] at hb
 simp only [Bool.or_eq_false_iff,Bool.not_eq_false',Bool.and_eq_false_imp,Bv] at hr
 obtain ⟨⟨b1,b2⟩,b3,b4⟩:=hb
 obtain ⟨r1,r2,r3⟩:=hr
 rw [decide_eq_false_iff_not] at h1 h2
 rw [List.any_eq_false] at h5 h6
 refine ⟨b1,fun hk=>?_,fun hk=>?_,fun hk=>?_,r1,r2,fun hk=>(r3 ⟨b1.1,hk⟩).1,fun hk=>(r3 ⟨b1.1,hk⟩).2,by omega,by omega,fun c hc=>?_,fun r hr=>?_⟩
 ·rcases b2 with b2 | b2
  ·omega
  ·exact b2
 ·rcases b3 with b3 | b3
  ·exact absurd b3 hk
  ·exact List.eq_nil_of_length_eq_zero (by omega)
 ·rcases b4 with b4 | b4
  ·exact absurd b4 hk
  ·exact List.eq_nil_of_length_eq_zero (by omega)
 ·have:=h5 c hc
  unfold CO at this
  simp only [Bool.not_eq_true,Bool.or_eq_false_iff,Bool.not_eq_false',Bv] at this
  obtain ⟨c1,c2,c3⟩:=this
  rw [Dp (by omega) (by omega)] at c2
  exact ⟨c1,c2,c3⟩
 ·have:=h6 r hr
  unfold DR at this
  simp only [Bool.not_eq_true,Bool.not_eq_false',Bv] at this
  exact this
structure BJ (f:Int) (xs:List Ai):Prop where
 f12:1≤f∧f≤2
 len:xs.length≤240
 msg:∀ x∈xs,Yf f x
 refs:∀ (i:Nat) (h:i < xs.length),∀ r∈xs[i].Refs,r < i
 nd:xs.Nodup
theorem PK {f:Int} {xs:List Ai} (h:Hh f xs = 0):BJ f xs:=by
 unfold Hh at h
 cases h1:inR f 1 2
 ·rw [h1] at h; cases h
 cases h2:decide ((xs.length:Int) > 240)
 rotate_left
 ·rw [h1,h2] at h; cases h
 rw [h1,h2] at h
 simp only [Bool.not_true,cond_false] at h
 have hall:∀ j,j < xs.length→EZ f xs j = false:=by
  rcases BF (EZ f xs) xs.length with h' | ⟨i,k1,k2,k3⟩
  ·exact h'
  ·rw [B7 k1 k2 k3] at h
   simp only [orF] at h
   rw [Gz k1] at h
   cases e1:CB f xs[i] != 0
   ·rw [e1] at h
    cases e2:BB i xs[i] <;> rw [e2] at h <;> cases h
   ·rw [e1] at h
    simp only [cond_true] at h
    rw [h] at e1
    cases e1
 rw [Bv] at h1
 rw [decide_eq_false_iff_not] at h2
 have hi:∀ (i:Nat) (h:i < xs.length),CB f xs[i] = 0∧BB i xs[i] = false∧xs[i] ∉ xs.take i:=fun i hl=>by
  have:=hall i hl
  rw [DV hl] at this
  simpa using this
 refine ⟨h1,by omega,fun x hx=>?_,fun i hl r hr=>?_,?_⟩
 ·obtain ⟨i,hl,rfl⟩:=List.mem_iff_getElem.1 hx
  exact XA (hi i hl).1
 ·have:=(hi i hl).2.1
  unfold BB at this
  rw [List.any_eq_false] at this
  have:=this r hr
  simp at this; omega
 ·rw [List.nodup_iff_pairwise_ne,List.pairwise_iff_getElem]
  intro i j hi1 hj1 hij e
  exact (hi j hj1).2.2 (List.mem_iff_getElem.2 ⟨i,by rw [List.length_take]; omega,by rw [List.getElem_take]; exact e⟩)
open Go Go.Rf
def CX (n:Nat):List Int:=(List.range n).map fun (j:Nat)=>((j:Int) + 1)
theorem FF (n:Nat):CX (n + 1) = CX n++[(n:Int) + 1]:=by simp [CX,List.range_succ]
theorem K0 (n:Nat) (k:Int):k∈CX n ↔ 1≤k∧k≤n:=by
 simp only [CX,List.mem_map,List.mem_range]
 constructor
 ·rintro ⟨j,h,rfl⟩; omega
 ·intro h; exact ⟨(k - 1).toNat,by omega,by omega⟩
theorem Yy (n:Nat):(CX n).Pairwise (· < ·):=by
 unfold CX
 rw [List.pairwise_map]
 exact List.pairwise_lt_range.imp fun h=>by omega
theorem IX:∀ (xs ys:List Int),xs.Pairwise (· < ·)→ys.Pairwise (· < ·)→(∀ k,k∈xs ↔ k∈ys)→xs = ys
 | [],[],_,_,_=>rfl
 | [],y::ys,_,_,h=>by have:=(h y).2 (by simp); cases this
 | x::xs,[],_,_,h=>by have:=(h x).1 (by simp); cases this
 | x::xs,y::ys,hx,hy,h=>by
  rw [List.pairwise_cons] at hx hy
  have e:x = y:=by
   rcases List.mem_cons.1 ((h x).1 (by simp)) with e | e
   ·exact e
   ·rcases List.mem_cons.1 ((h y).2 (by simp)) with e' | e'
    ·exact e'.symm
    ·have:=hy.1 x e; have:=hx.1 y e'; omega
  subst e
  rw [IX xs ys hx.2 hy.2 fun k=>?_]
  have:=h k
  simp only [List.mem_cons] at this
  constructor
  ·intro hk
   rcases this.1 (.inr hk) with e | e
   ·subst e; have:=hx.1 k hk; omega
   ·exact e
  ·intro hk
   rcases this.2 (.inr hk) with e | e
   ·subst e; have:=hy.1 k hk; omega
   ·exact e
theorem MB {L:List Int} {k:Int} (h:L.length≤1000):B0 8 L [k] = some (L++[k]):=by
 unfold B0
 rw [if_pos (by simp; omega)]
theorem Cf {f:Int} (h:1≤f∧f≤2):BG f = 3 * f + 1:=by
 unfold BG
 rw [Dp (x:=3 * f) (by omega) (by omega),Dp (by omega) (by omega)]
theorem BJ.good {f:Int} {xs:List Ai} (h:BJ f xs):∀ x∈xs,Bd x:=fun x hx=>by
 have m:=h.msg x hx
 have:=m.refsl
 have:=Cf h.f12
 have:=h.f12
 exact ⟨Nat.le_trans m.certsl (by omega),by omega⟩
theorem BJ.len' {f:Int} {xs:List Ai} (h:BJ f xs):xs.length≤1048576:=Nat.le_trans h.len (by omega)
def FI (k v s a:Int) (x:Ai):Bool:=(x.Kind == k) && ((x.View == v) && ((x.Slot == s) && (x.Value == a)))
def G7 (xs:List Ai) (k v s a id:Int):Bool:=xs.any fun x=>FI k v s a x && (x.From == id)
def HI (f:Int) (xs:List Ai) (k v s a:Int):List Int:=(CX (3 * f + 1).toNat).filter (G7 xs k v s a)
theorem FY {f:Int} {x:Ai} (h:Yf f x) (hk:x.Kind≤3):x.Certs = []∧x.Refs = []:=⟨h.certs0 (by omega),h.refs0 (by omega)⟩
theorem UU {f:Int} {xs:List Ai} (H:BJ f xs) {k v s a id:Int} (hk:k≤3):decide (atM xs (⟨k,v,id,s,a,[],[]⟩:Ai) ≥ 0) = G7 xs k v s a id:=by
 unfold atM G7
 rw [GX,C0,Bool.eq_iff_iff]
 simp only [List.any_eq_true,decide_eq_true_eq]
 constructor
 ·rintro ⟨x,hx,rfl⟩; exact ⟨_,hx,by simp [FI]⟩
 ·rintro ⟨x,hx,hs⟩
  refine ⟨x,hx,?_⟩
  unfold FI at hs
  simp only [Bool.and_eq_true,beq_iff_eq] at hs
  obtain ⟨⟨h1,h2,h3,h4⟩,h5⟩:=hs
  obtain ⟨e1,e2⟩:=FY (H.msg x hx) (by omega)
  obtain ⟨x1,x2,x3,x4,x5,x6,x7⟩:=x
  simp only at h1 h2 h3 h4 h5 e1 e2
  subst h1; subst h2; subst h3; subst h4; subst h5; subst e1; subst e2
  rfl
theorem DL {f:Int} (hf:1≤f∧f≤2) {p:Int→Bool} {i:Nat} (hi:i≤7):((CX i).filter p).length≤1000:=Nat.le_trans (List.length_filter_le _ _) (by simp [CX]; omega)
theorem Qf {f:Int} {xs:List Ai} (H:BJ f xs) {k:Int} (hk:k≤3) (c:AE):WQ f xs k c = some (HI f xs k c.View c.Slot c.Value):=by
 have hf:=H.f12
 have hm:=Cf hf
 unfold WQ
 rw [Dv (f:=ID f xs k c) (s0:=(1,[])) (fun i=>((i:Int) + 1,(CX i).filter (G7 xs k c.View c.Slot c.Value))) (3 * f + 1).toNat (.exit 0 (((3 * f + 1).toNat:Int) + 1,HI f xs k c.View c.Slot c.Value)) (fun i hi=>?_) ?_ rfl (Bl (by omega)) rfl]
 ·rfl
 ·unfold ID
  have hc:¬ (((3 * f + 1).toNat:Int) + 1≤BG f):=by omega
  have hc':decide ((((3 * f + 1).toNat:Int) + 1)≤wi .i64 ((wi .i64 (3 * f)) + 1)) = false:=decide_eq_false hc
  dsimp only
  rw [hc',cond_false]
  rfl
 ·unfold ID
  have hc:(i:Int) + 1≤BG f:=by omega
  have hc':decide ((i:Int) + 1≤wi .i64 ((wi .i64 (3 * f)) + 1)) = true:=decide_eq_true hc
  dsimp only
  rw [hc',cond_true,Ot xs _ H.len' H.good,obs,UU H hk,FF,List.filter_append]
  have e:wi .i64 ((i:Int) + 1 + 1) = ((i + 1:Nat):Int) + 1:=by rw [Dp (by omega) (by omega)]; omega
  cases hs:G7 xs k c.View c.Slot c.Value ((i:Int) + 1)
  ·simp only [cond_false,obs,Ah,e]
   simp [hs]
  ·simp only [cond_true,MB (DL hf (i:=i) (by omega)),obs,Ah,e]
   simp [hs]
theorem Y1 (a b c d:Bool):(bif a then
     bif b then
      bif c then
       some (LO.norm d)
      else
       some (LO.norm false)
     else
      some (LO.norm false)
    else
     some (LO.norm false)) = some (LO.norm (a && (b && (c && d)))):=by
 cases a <;> cases b <;> cases c <;> rfl
theorem Qp {f:Int} {xs:List Ai} (H:BJ f xs) {k:Int} (hk:k≤3) (v s a:Int) (n:Nat):(((xs.take n).filter (FI k v s a)).map (·.From)).length≤8:=by
 have hf:=H.f12
 have hm:=Cf hf
 refine Q3 ?_ ?_
 ·rw [List.Nodup,List.pairwise_map]
  have h1:((xs.take n).filter (FI k v s a)).Nodup:=(H.nd.sublist (List.take_sublist _ _)).filter _
  refine List.Pairwise.imp_of_mem (fun {x y} hx hy hxy e=>hxy ?_) h1
  rw [List.mem_filter] at hx hy
  have mx:=H.msg x (List.mem_of_mem_take hx.1)
  have my:=H.msg y (List.mem_of_mem_take hy.1)
  have h2:=hx.2
  have h3:=hy.2
  unfold FI at h2 h3
  simp only [Bool.and_eq_true,beq_iff_eq] at h2 h3
  obtain ⟨a1,a2⟩:=FY mx (by omega)
  obtain ⟨b1,b2⟩:=FY my (by omega)
  obtain ⟨x1,x2,x3,x4,x5,x6,x7⟩:=x
  obtain ⟨y1,y2,y3,y4,y5,y6,y7⟩:=y
  simp only at h2 h3 a1 a2 b1 b2 e
  obtain ⟨p1,p2,p3,p4⟩:=h2
  obtain ⟨q1,q2,q3,q4⟩:=h3
  subst p1; subst p2; subst p3; subst p4; subst q1; subst q2; subst q3; subst q4; subst a1; subst a2; subst b1; subst b2; subst e
  rfl
 ·intro z hz
  obtain ⟨x,hx,rfl⟩:=List.mem_map.1 hz
  have:=(H.msg x (List.mem_of_mem_take (List.mem_filter.1 hx).1)).frm
  omega
theorem Qg {f:Int} {xs:List Ai} (H:BJ f xs) {k:Int} (hk:k≤3) (v s a:Int):WN xs k v s a = some (HI f xs k v s a):=by
 have hf:=H.f12
 have hm:=Cf hf
 have hlen:=Qp H hk v s a
 unfold WN
 rw [Dv (f:=IC xs k v s a) (s0:=(0,[])) (fun i=>((i:Int),((xs.take i).filter (FI k v s a)).map (·.From))) xs.length (.exit 0 ((xs.length:Int),((xs.take xs.length).filter (FI k v s a)).map (·.From))) (fun i hi=>?_) ?_ rfl (Bl H.len') rfl]
 ·have hl:=hlen xs.length
  obtain ⟨ys,k1,k2,k3⟩:=bL (xs:=((xs.take xs.length).filter (FI k v s a)).map (·.From)) (by omega)
  simp only [obs,Ah,if_true,k1]
  rw [oV (by rw [k2.length_eq]; omega),obs]
  congr 1
  refine IX _ _ (LW ys k3) ((Yy _).filter _) fun id=>?_
  rw [LX,k2.mem_iff,List.take_length]
  unfold HI G7
  simp only [List.mem_map,List.mem_filter,K0,List.any_eq_true,Bool.and_eq_true,beq_iff_eq]
  constructor
  ·rintro ⟨x,⟨hx,hs⟩,rfl⟩
   have:=(H.msg x hx).frm
   exact ⟨by omega,x,hx,hs,rfl⟩
  ·rintro ⟨_,x,hx,hs,rfl⟩
   exact ⟨x,⟨hx,hs⟩,rfl⟩
 ·unfold IC
  simp only [Int.lt_irrefl,decide_false,cond_false]
 ·have hc':(i:Int) < (xs.length:Int):=by omega
  have hil:i≤1099511627776:=by have:=H.len; omega
  unfold IC
  simp only [hc',decide_true,cond_true,AW hi,obs,Y1,Ah]
  rw [E7 hi,List.filter_append,List.map_append]
  have hl:=hlen i
  have e:(xs[i].Kind == k && (xs[i].View == v && (xs[i].Slot == s && (xs[i].Value == a)))) = FI k v s a xs[i]:=rfl
  rw [e]
  cases hs:FI k v s a xs[i]
  ·simp only [cond_false,obs,Ah,wi1 hil]
   simp [hs]
  ·simp only [cond_true,MB (L:=((xs.take i).filter (FI k v s a)).map (·.From)) (by omega),obs,Ah,wi1 hil]
   simp [hs]
def DI (f:Int):Int:=wi .i64 ((wi .i64 (2 * f)) + 1)
def BO (f:Int) (xs:List Ai) (k v s a:Int):Bool:=decide (((HI f xs k v s a).length:Int) ≥ DI f)
theorem JC {f:Int} {xs:List Ai} (H:BJ f xs) {k:Int} (hk:k≤3) (v s a:Int):m73 f xs k v s a = some (BO f xs k v s a):=by
 unfold m73
 rw [Qg H hk]; rfl
theorem GZ {f:Int} {xs:List Ai} (H:BJ f xs) {k:Int} (hk:k≤3) (c:AE):m71 f xs k c = some (BO f xs k c.View c.Slot c.Value):=by
 unfold m71
 rw [Qf H hk]; rfl
def GB (f:Int) (xs:List Ai) (c:AE):Bool:=BO f xs 2 c.View c.Slot c.Value
theorem Nv {f:Int} {xs:List Ai} (H:BJ f xs) (c:AE) (h1:1≤c.Slot∧c.Slot≤30) (h2:0≤c.View∧c.View≤20) (h3:0≤c.Value∧c.Value≤12):m62 f xs c = some (GB f xs c):=by
 unfold m62
 rw [Ir,JO,GL,Bv.2 h1,Bv.2 h2,Bv.2 h3,JC H (by omega)]
 rfl
open Go Go.Rf
theorem Ek {α:Type} {xs:List α} {i:Int} {x:α} (h:Ar xs i = some x):x∈xs:=by
 unfold Ar at h
 split at h
 ·exact List.mem_of_getElem? h
 ·cases h
theorem NZ {α:Type} {xs:List α} (hl:xs.length≤1048576) (i:Int):inR i 0 (wi .i64 ((xs.length:Int) - 1)) = (Ar xs i).isSome:=by
 rw [Dp (by omega) (by omega)]
 unfold Ar
 by_cases h:0≤i
 ·rw [if_pos h]
  by_cases h2:i.toNat < xs.length
  ·rw [List.getElem?_eq_getElem h2]
   exact Bv.2 ⟨h,by omega⟩
  ·rw [List.getElem?_eq_none (by omega)]
   refine Bool.eq_false_iff.2 fun h3=>?_
   have:=Bv.1 h3; omega
 ·rw [if_neg h]
  refine Bool.eq_false_iff.2 fun h3=>?_
  have:=Bv.1 h3; omega
theorem aX {xs:List Ai} (hl:xs.length≤1048576) (i k:Int):m59 xs i k = some (match Ar xs i with | some m=>(m,(m.Kind == k) && decide (m.View > 0)) | none=>((⟨0,0,0,0,0,[],[]⟩:Ai),false)):=by
 unfold m59
 rw [in2,NZ hl]
 cases hg:Ar xs i with
 | none=>rfl
 | some m=>
  simp only [Option.isSome_some,Bool.not_true,cond_false,obs]
  cases m.Kind == k <;> rfl
theorem bF {xs:List Ai} (hl:xs.length≤1048576) (i k:Int):m70 xs i k = some (match Ar xs i with | some m=>m.Kind == k | none=>false):=by
 unfold m70
 rw [in1,NZ hl]
 cases hg:Ar xs i with
 | none=>rfl
 | some m=>rfl
def ES (f:Int) (xs:List Ai) (m:Ai):Bool:=(m.Kind == 4) && (decide (m.View > 0) && !m.Certs.any fun c=>!GB f xs c)
def BE (f:Int) (xs:List Ai) (i:Int):Bool:=match Ar xs i with
 | some m=>ES f xs m
 | none=>false
theorem EH {f:Int} {xs:List Ai} (H:BJ f xs) (i:Int):m24 f xs i = some (BE f xs i):=by
 unfold m24 BE
 rw [aX H.len',obs]
 cases hg:Ar xs i with
 | none=>rfl
 | some m=>
  have mo:=H.msg m (Ek hg)
  have mv:=mo.view
  dsimp only
  unfold ES
  rw [show m60 m.Certs (fun x0_=>m61 x0_ f xs) = some (m.Certs.any fun c=>!GB f xs c) from G0 (Bl (Nat.le_trans mo.certsl (by omega))) (BS (Nat.le_trans mo.certsl (by omega))) (fun c hc=>by
   unfold m61
   obtain ⟨c1,c2,c3⟩:=mo.cert c hc
   rw [Nv H c c1 ⟨c2.1,by omega⟩ c3]; rfl)]
  cases m.Kind == 4
  ·rfl
  ·cases decide (m.View > 0) <;> rfl
theorem F5 {f:Int} {xs:List Ai} (H:BJ f xs) (i:Int):m30 f xs i = some (BE f xs i):=by
 unfold m30 BE
 rw [bF H.len',obs]
 cases hg:Ar xs i with
 | none=>rfl
 | some m=>
  have mo:=H.msg m (Ek hg)
  have hcl:m.Certs.length≤1048576:=Nat.le_trans mo.certsl (by omega)
  dsimp only
  unfold ES
  cases m.Kind == 4
  ·rfl
  simp only [Bool.not_true,cond_false,obs]
  by_cases hv:m.View < 1
  ·have hv':¬ m.View > 0:=by omega
   simp only [hv,hv',decide_true,decide_false,cond_true,obs,Ah,Bool.true_and,Bool.false_and]
  have hv':m.View > 0:=by omega
  simp only [hv,hv',decide_true,decide_false,cond_false,obs,Ah,Bool.true_and]
  rw [AG (f:=Jl f xs i) (s0:=(false,0)) (fun j=>(false,(j:Int))) m.Certs.length (pAt (fun c=>!GB f xs c) m.Certs) (fun j=>.ret (false,(j:Int))) (.exit 0 (false,(m.Certs.length:Int))) (fun j hj _ hp=>?_) (fun j hj _ hp=>?_) (fun _=>?_) (Bl hcl) rfl]
  ·rw [← C0]
   cases BN (pAt (fun c=>!GB f xs c) m.Certs) m.Certs.length <;> rfl
  ·rw [AQ hj] at hp
   have hc':(j:Int) < (m.Certs.length:Int):=by omega
   unfold Jl
   simp only [hg,hc',decide_true,cond_true,AW hj,obs,GZ H (show (2:Int)≤3 by omega)]
   unfold GB at hp
   simp only [hp,cond_false,wi1 (show j≤1099511627776 by omega)]
  ·rw [AQ hj] at hp
   have hc':(j:Int) < (m.Certs.length:Int):=by omega
   unfold Jl
   simp only [hg,hc',decide_true,cond_true,AW hj,obs,GZ H (show (2:Int)≤3 by omega)]
   unfold GB at hp
   simp only [hp]
   exact ⟨rfl,rfl⟩
  ·unfold Jl
   simp only [hg,obs,Int.lt_irrefl,decide_false,cond_false]
   exact ⟨trivial,rfl⟩
def Dz (f v:Int):Int:=wi .i64 (1 + v.tmod (BG f))
theorem FL {f:Int} (hf:1≤f∧f≤2) (v:Int):NP f v = some (Dz f v):=by
 have hm:=Cf hf
 unfold NP
 rw [YM]
 unfold Ix
 rw [if_neg (by omega)]; rfl
theorem Tz {f:Int} (hf:1≤f∧f≤2) (v:Int):Wy f v = some (Dz f v):=(rfl:Wy f v = NP f v).trans (FL hf v)
def BK (xs:List Ai) (r:Int):Int:=((Ar xs r).map (·.View)).getD 0
def Bc (xs:List Ai) (r:Int):Int:=((Ar xs r).map (·.From)).getD 0
def Gp (f:Int) (xs:List Ai) (m:Ai) (i:Nat):Bool:=(m.Refs[i]?).any fun r=>!BE f xs r || (BK xs r != m.View || decide (Bc xs r∈(m.Refs.take i).map (Bc xs)))
theorem DU {f:Int} {xs:List Ai} {m:Ai} {i:Nat} (h:i < m.Refs.length):Gp f xs m i = (!BE f xs m.Refs[i] || (BK xs m.Refs[i] != m.View || decide (Bc xs m.Refs[i]∈(m.Refs.take i).map (Bc xs)))):=by
 unfold Gp; rw [List.getElem?_eq_getElem h]; rfl
def Jh (f:Int) (xs:List Ai) (m:Ai):Bool:=((m.Kind == 5) && decide (m.View > 0)) && ((m.From == Dz f m.View) && (!decide ((m.Refs.length:Int) < DI f) && (BN (Gp f xs m) m.Refs.length).isNone))
def EY (f:Int) (xs:List Ai) (i:Int):Bool:=match Ar xs i with
 | some m=>Jh f xs m
 | none=>false
theorem Ea {f:Int} {xs:List Ai} {r:Int} (h:BE f xs r = true):∃ x,Ar xs r = some x∧BK xs r = x.View∧Bc xs r = x.From:=by
 unfold BE at h
 cases hg:Ar xs r with
 | none=>rw [hg] at h; cases h
 | some x=>exact ⟨x,rfl,by simp [BK,hg],by simp [Bc,hg]⟩
theorem cT (a b c:Bool):(bif a then some (LO.norm true) else bif b then some (LO.norm true) else some (LO.norm c)) = some (LO.norm (a || (b || c))):=by
 cases a <;> cases b <;> rfl
theorem KI {f:Int} {xs:List Ai} (H:BJ f xs) (i:Int):m93 f xs i = some (EY f xs i):=by
 unfold m93 EY
 have hf:=H.f12
 have hm:=Cf hf
 rw [aX H.len',obs]
 cases hg:Ar xs i with
 | none=>rfl
 | some m=>
  have mo:=H.msg m (Ek hg)
  have hrl:m.Refs.length≤7:=by have:=mo.refsl; omega
  dsimp only
  unfold Jh
  cases e1:(m.Kind == 5 && decide (m.View > 0))
  ·rfl
  simp only [Bool.not_true,cond_false,FL hf,obs,Bool.true_and]
  cases e2:m.From == Dz f m.View
  ·have:(m.From != Dz f m.View) = true:=by unfold bne; rw [e2]; rfl
   rw [this]; rfl
  have:(m.From != Dz f m.View) = false:=by unfold bne; rw [e2]; rfl
  rw [this]
  simp only [cond_false,obs,Ah,Bool.true_and]
  rw [show decide ((m.Refs.length:Int) < wi .i64 ((wi .i64 (2 * f)) + 1)) = decide ((m.Refs.length:Int) < DI f) from rfl]
  cases decide ((m.Refs.length:Int) < DI f)
  rotate_left
  ·rfl
  simp only [cond_false,obs,Ah,Bool.not_false,Bool.true_and]
  rw [AG (f:=Ji f xs (m,true)) (s0:=(false,0,[])) (fun j=>(false,(j:Int),(m.Refs.take j).map (Bc xs))) m.Refs.length (Gp f xs m) (fun j=>.ret (false,(j:Int),(m.Refs.take j).map (Bc xs))) (.exit 0 (false,(m.Refs.length:Int),(m.Refs.take m.Refs.length).map (Bc xs))) (fun j hj _ hp=>?_) (fun j hj _ hp=>?_) (fun _=>?_) (Bl (by omega)) rfl]
  ·cases BN (Gp f xs m) m.Refs.length <;> rfl
  ·have hc':(j:Int) < (m.Refs.length:Int):=by omega
   rw [DU hj,Bool.or_eq_false_iff,Bool.or_eq_false_iff] at hp
   obtain ⟨p1,p2,p3⟩:=hp
   rw [Bool.not_eq_false'] at p1
   obtain ⟨x,g1,g2,g3⟩:=Ea p1
   rw [g2] at p2
   rw [g3] at p3
   have hfl:((m.Refs.take j).map (Bc xs)).length≤1000:=by simp; omega
   unfold Ji
   simp only [hc',decide_true,cond_true,AW hj,obs,EH H,p1,Bool.not_true,cond_false,g1,p2]
   rw [show m72 ((m.Refs.take j).map (Bc xs)) x.From = some (decide (x.From∈(m.Refs.take j).map (Bc xs))) from Js (Bl (by omega)) (BS (by omega)),p3]
   simp only [obs,Ah,cond_false,g1,MB hfl,wi1 (show j≤1099511627776 by omega)]
   rw [E7 hj,List.map_append]
   simp [g3]
  ·have hc':(j:Int) < (m.Refs.length:Int):=by omega
   rw [DU hj] at hp
   have hfl:((m.Refs.take j).map (Bc xs)).length≤1000:=by simp; omega
   unfold Ji
   simp only [hc',decide_true,cond_true,AW hj,obs,EH H]
   cases p1:BE f xs m.Refs[j]
   ·exact ⟨rfl,rfl⟩
   obtain ⟨x,g1,g2,g3⟩:=Ea p1
   rw [p1,g2,g3] at hp
   simp only [Bool.not_true,cond_false,g1,obs]
   cases p2:x.View != m.View
   rotate_left
   ·exact ⟨rfl,rfl⟩
   rw [p2] at hp
   rw [show m72 ((m.Refs.take j).map (Bc xs)) x.From = some (decide (x.From∈(m.Refs.take j).map (Bc xs))) from Js (Bl (by omega)) (BS (by omega))]
   simp only [Bool.not_true,Bool.false_or] at hp
   rw [hp]
   exact ⟨rfl,rfl⟩
  ·unfold Ji
   simp only [Int.lt_irrefl,decide_false,cond_false]
   exact ⟨trivial,rfl⟩
theorem Nk {xs:List Ai} {rs:List Int} (hl:rs.length≤1048576) (hr:∀ r∈rs,∃ x,Ar xs r = some x) (v:Int):Wx xs rs v = some (decide (v∈rs.map (Bc xs))):=by
 unfold Wx
 rw [AG (f:=Hy xs rs v) (s0:=(false,0)) (fun j=>(false,(j:Int))) rs.length (pAt (fun r=>Bc xs r == v) rs) (fun j=>.ret (true,(j:Int))) (.exit 0 (false,(rs.length:Int))) (fun j hj _ hp=>?_) (fun j hj _ hp=>?_) (fun _=>?_) (Bl hl) rfl]
 ·have e:decide (v∈rs.map (Bc xs)) = rs.any fun r=>Bc xs r == v:=by
   rw [Bool.eq_iff_iff]
   simp
  rw [e,← C0]
  cases BN (pAt (fun r=>Bc xs r == v) rs) rs.length <;> rfl
 ·rw [AQ hj] at hp
  have hc':(j:Int) < (rs.length:Int):=by omega
  obtain ⟨x,g⟩:=hr _ (List.getElem_mem hj)
  have g3:Bc xs rs[j] = x.From:=by simp [Bc,g]
  rw [g3] at hp
  unfold Hy
  simp only [hc',decide_true,cond_true,AW hj,obs,g,hp,cond_false,wi1 (show j≤1099511627776 by omega)]
 ·rw [AQ hj] at hp
  have hc':(j:Int) < (rs.length:Int):=by omega
  obtain ⟨x,g⟩:=hr _ (List.getElem_mem hj)
  have g3:Bc xs rs[j] = x.From:=by simp [Bc,g]
  rw [g3] at hp
  unfold Hy
  simp only [hc',decide_true,cond_true,AW hj,obs,g,hp]
  exact ⟨trivial,rfl⟩
 ·unfold Hy
  simp only [Int.lt_irrefl,decide_false,cond_false]
  exact ⟨trivial,rfl⟩
theorem BJ.ref_in {f:Int} {xs:List Ai} (H:BJ f xs) {m:Ai} (hm:m∈xs):∀ r∈m.Refs,∃ x,Ar xs r = some x:=fun r hr=>by
 have h1:=(H.msg m hm).ref r hr
 obtain ⟨i,hi,rfl⟩:=List.mem_iff_getElem.1 hm
 have h2:=H.refs i hi r hr
 refine ⟨xs[r.toNat]'(by omega),?_⟩
 unfold Ar
 rw [if_pos h1.1,List.getElem?_eq_getElem]
theorem Wi {f:Int} {xs:List Ai} (H:BJ f xs) (i:Int):W2 f xs i = some (EY f xs i):=by
 unfold W2 EY
 have hf:=H.f12
 have hm:=Cf hf
 rw [bF H.len',obs]
 cases hg:Ar xs i with
 | none=>rfl
 | some m=>
  have mo:=H.msg m (Ek hg)
  have hrl:m.Refs.length≤7:=by have:=mo.refsl; omega
  have hri:=H.ref_in (Ek hg)
  dsimp only
  unfold Jh
  cases e1:(m.Kind == 5)
  ·rfl
  simp only [Bool.not_true,cond_false,Tz hf,obs,Bool.true_and]
  by_cases hv:m.View < 1
  ·have hv':¬ m.View > 0:=by omega
   simp only [hv,hv',decide_true,decide_false,cond_true,obs,Ah,Bool.true_and,Bool.false_and]
  have hv':m.View > 0:=by omega
  simp only [hv,hv',decide_true,decide_false,cond_false,obs,Ah,Bool.true_and]
  cases e2:m.From == Dz f m.View
  ·have:(m.From != Dz f m.View) = true:=by unfold bne; rw [e2]; rfl
   rw [this]; rfl
  have:(m.From != Dz f m.View) = false:=by unfold bne; rw [e2]; rfl
  rw [this]
  simp only [cond_false,obs,Ah,Bool.true_and]
  rw [show decide ((m.Refs.length:Int) < WO f) = decide ((m.Refs.length:Int) < DI f) from rfl]
  cases decide ((m.Refs.length:Int) < DI f)
  rotate_left
  ·rfl
  simp only [cond_false,obs,Ah,Bool.not_false,Bool.true_and]
  rw [AG (f:=H2 f xs m) (s0:=(false,0)) (fun j=>(false,(j:Int))) m.Refs.length (Gp f xs m) (fun j=>.ret (false,(j:Int))) (.exit 0 (false,(m.Refs.length:Int))) (fun j hj _ hp=>?_) (fun j hj _ hp=>?_) (fun _=>?_) (Bl (by omega)) rfl]
  ·cases BN (Gp f xs m) m.Refs.length <;> rfl
  ·have hc':(j:Int) < (m.Refs.length:Int):=by omega
   rw [DU hj,Bool.or_eq_false_iff,Bool.or_eq_false_iff] at hp
   obtain ⟨p1,p2,p3⟩:=hp
   rw [Bool.not_eq_false'] at p1
   obtain ⟨x,g1,g2,g3⟩:=Ea p1
   rw [g2] at p2
   rw [g3] at p3
   unfold H2
   simp only [hc',decide_true,cond_true,AW hj,obs,F5 H,p1,Bool.not_true,cond_false,g1,p2,Ef (Nat.le_of_lt hj)]
   rw [Nk (by rw [List.length_take]; omega) (fun r hr=>hri r (List.mem_of_mem_take hr)),p3]
   simp only [obs,Ah,cond_false,wi1 (show j≤1099511627776 by omega)]
  ·have hc':(j:Int) < (m.Refs.length:Int):=by omega
   rw [DU hj] at hp
   unfold H2
   simp only [hc',decide_true,cond_true,AW hj,obs,F5 H]
   cases p1:BE f xs m.Refs[j]
   ·exact ⟨rfl,rfl⟩
   obtain ⟨x,g1,g2,g3⟩:=Ea p1
   rw [p1,g2,g3] at hp
   simp only [Bool.not_true,cond_false,g1,obs]
   cases p2:x.View != m.View
   rotate_left
   ·exact ⟨rfl,rfl⟩
   rw [p2] at hp
   simp only [cond_false,Ef (Nat.le_of_lt hj),obs]
   rw [Nk (by rw [List.length_take]; omega) (fun r hr=>hri r (List.mem_of_mem_take hr))]
   simp only [Bool.not_true,Bool.false_or] at hp
   rw [hp]
   exact ⟨rfl,rfl⟩
  ·unfold H2
   simp only [Int.lt_irrefl,decide_false,cond_false]
   exact ⟨trivial,rfl⟩
open Go Go.Rf
def Ff (n:Nat):List Int:=(List.range n).map fun (j:Nat)=>(j:Int)
theorem QJ (n:Nat):Ff (n + 1) = Ff n++[(n:Int)]:=by simp [Ff,List.range_succ]
theorem Uh (n:Nat) (k:Int):k∈Ff n ↔ 0≤k∧k < n:=by
 simp only [Ff,List.mem_map,List.mem_range]
 constructor
 ·rintro ⟨j,h,rfl⟩; omega
 ·intro h; exact ⟨k.toNat,by omega,by omega⟩
theorem Xp (n:Nat):(Ff n).Pairwise (· < ·):=by
 unfold Ff
 rw [List.pairwise_map]
 exact List.pairwise_lt_range.imp fun h=>by omega
def IQ (f:Int) (xs:List Ai) (s v:Int) (x:Ai):Bool:=((x.Kind == 3) && ((x.Slot == s) && (x.Value == v))) && BO f xs 3 x.View s v
def Ha (f:Int) (xs:List Ai) (s v:Int):Bool:=xs.any (IQ f xs s v)
def Fp (f:Int) (xs:List Ai) (s:Int):List Int:=(Ff 13).filter (Ha f xs s)
theorem Y2 (a b c:Bool):(bif a then
     bif b then
      some (LO.norm c)
     else
      some (LO.norm false)
    else
     some (LO.norm false)) = some (LO.norm (a && (b && c))):=by
 cases a <;> cases b <;> rfl
theorem XV {α:Type} {xs:List α} {q:α→Bool} {i:Nat} (h:i < xs.length):(xs.take (i + 1)).any q = ((xs.take i).any q || q xs[i]):=by
 rw [E7 h,List.any_append]; simp
theorem Ui {f:Int} {xs:List Ai} (H:BJ f xs) (s v:Int) (L:List Int):∃ j,Az (KT f xs s (v,L)) NN (false,0) = some (.exit 2 (Ha f xs s v,j)):=by
 obtain ⟨o,h1,j,rfl⟩:=Dh (f:=KT f xs s (v,L)) (fun i t=>t = ((xs.take i).any (IQ f xs s v),(i:Int))) xs.length (fun o=>∃ j,o = .exit 2 (Ha f xs s v,j)) (fun i t hi ht=>by
  subst ht
  unfold KT
  dsimp only
  by_cases hc:i < xs.length
  ·have hc':(i:Int) < (xs.length:Int):=by omega
   simp only [hc',decide_true,cond_true,obs,Ah]
   cases hf:(xs.take i).any (IQ f xs s v)
   ·simp only [Bool.not_false,cond_true,obs,Ah,AW hc,Y2]
    have e:=XV (q:=IQ f xs s v) hc
    rw [hf,Bool.false_or] at e
    rw [GZ H (show (3:Int)≤3 by omega)]
    refine .inl ⟨hc,((xs.take (i + 1)).any (IQ f xs s v),((i + 1:Nat):Int)),?_,rfl⟩
    rw [e]
    unfold IQ
    cases (xs[i].Kind == 3 && (xs[i].Slot == s && (xs[i].Value == v)))
    ·simp only [cond_false,obs,Ah,wi1 (show i≤1099511627776 by have:=H.len; omega),Bool.false_and]
    ·simp only [cond_true,obs,Ah,wi1 (show i≤1099511627776 by have:=H.len; omega),Bool.true_and]
   ·simp only [Bool.not_true,cond_false,obs,Ah]
    refine .inr (.inl ⟨_,_,rfl,(i:Int),?_⟩)
    have:Ha f xs s v = true:=by
     unfold Ha
     rw [List.any_eq_true] at hf ⊢
     obtain ⟨x,hx,hq⟩:=hf
     exact ⟨x,List.mem_of_mem_take hx,hq⟩
    rw [this]
  ·have hc':¬ (i:Int) < (xs.length:Int):=by omega
   have:i = xs.length:=by omega
   subst this
   simp only [hc',decide_false,cond_false,obs,Ah,List.take_length]
   exact .inr (.inl ⟨_,_,rfl,_,rfl⟩)) NN 0 (false,0) (Nat.zero_le _) (Bl H.len') rfl
 exact ⟨j,h1⟩
theorem Xq (p:Int→Bool) {i:Nat} (hi:i≤13):((Ff i).filter p).length≤1000:=Nat.le_trans (List.length_filter_le _ _) (by simp [Ff]; omega)
theorem P9 {f:Int} {xs:List Ai} (H:BJ f xs) (s:Int):m32 f xs s = some (Fp f xs s):=by
 unfold m32
 rw [Dv (f:=KR f xs s) (s0:=(0,[])) (fun i=>((i:Int),(Ff i).filter (Ha f xs s))) 13 (.exit 0 (13,Fp f xs s)) (fun i hi=>?_) ?_ rfl (Bl (by omega)) rfl]
 ·rfl
 ·unfold KR
  rfl
 ·unfold KR
  have hc:(i:Int)≤12:=by omega
  have e:wi .i64 ((i:Int) + 1) = ((i + 1:Nat):Int):=wi1 (by omega)
  obtain ⟨j,hj⟩:=Ui H s (i:Int) ((Ff i).filter (Ha f xs s))
  simp only [hc,decide_true,cond_true,hj,obs,Ah,if_true]
  rw [QJ,List.filter_append]
  cases hd:Ha f xs s (i:Int)
  ·simp only [cond_false,obs,Ah,e]
   simp [hd]
  ·simp only [cond_true,MB (Xq (Ha f xs s) (i:=i) (by omega)),obs,Ah,e]
   simp [hd]
def EP (p:Ai→Bool) (L:List Int) (x:Ai):List Int:=if (p x && !decide (x.Value∈L)) = true then L++[x.Value] else L
theorem UP (p:Ai→Bool) (L:List Int) (x:Ai):EP p L x = bif (p x && !decide (x.Value∈L)) then L++[x.Value] else L:=by
 unfold EP; rw [Z7]
theorem LL (p:Ai→Bool):∀ (l:List Ai) (L:List Int) (v:Int),v∈l.foldl (EP p) L ↔ v∈L∨∃ x∈l,p x = true∧x.Value = v
 | [],L,v=>by simp
 | x::l,L,v=>by
  rw [List.foldl_cons,LL p l]
  unfold EP
  by_cases h:(p x && !decide (x.Value∈L)) = true
  ·rw [if_pos h,List.mem_append,List.mem_singleton]
   rw [Bool.and_eq_true] at h
   constructor
   ·rintro ((h1 | rfl) | ⟨y,hy,h2⟩)
    ·exact .inl h1
    ·exact .inr ⟨x,by simp,h.1,rfl⟩
    ·exact .inr ⟨y,by simp [hy],h2⟩
   ·rintro (h1 | ⟨y,hy,h2,h3⟩)
    ·exact .inl (.inl h1)
    ·rcases List.mem_cons.1 hy with rfl | hy
     ·exact .inl (.inr h3.symm)
     ·exact .inr ⟨y,hy,h2,h3⟩
  ·rw [if_neg h]
   constructor
   ·rintro (h1 | ⟨y,hy,h2⟩)
    ·exact .inl h1
    ·exact .inr ⟨y,by simp [hy],h2⟩
   ·rintro (h1 | ⟨y,hy,h2,h3⟩)
    ·exact .inl h1
    ·rcases List.mem_cons.1 hy with rfl | hy
     ·left
      rw [h2] at h
      simp at h
      rw [← h3]; exact h
     ·exact .inr ⟨y,hy,h2,h3⟩
theorem Oc (p:Ai→Bool):∀ (l:List Ai) (L:List Int),L.Nodup→(l.foldl (EP p) L).Nodup
 | [],L,h=>h
 | x::l,L,h=>by
  rw [List.foldl_cons]
  refine Oc p l _ ?_
  unfold EP
  by_cases hc:(p x && !decide (x.Value∈L)) = true
  ·rw [if_pos hc]
   rw [Bool.and_eq_true] at hc
   have h2:=hc.2
   simp at h2
   rw [List.nodup_append]
   refine ⟨h,by simp,fun a ha b hb e=>?_⟩
   rw [List.mem_singleton] at hb
   subst hb; subst e
   exact h2 ha
  ·rw [if_neg hc]; exact h
def Fg (f:Int) (xs:List Ai) (s:Int) (x:Ai):Bool:=(x.Kind == 3) && ((x.Slot == s) && BO f xs 3 x.View s x.Value)
theorem cU (a b c d:Bool):(bif a then
     bif b then
      (some c).bind fun y1=>
      bif !y1 then
       (some d).bind fun y2=>
       some (LO.norm y2)
      else
       some (LO.norm false)
     else
      some (LO.norm false)
    else
     some (LO.norm false)) = some (LO.norm ((a && (b && d)) && !c)):=by
 cases a <;> cases b <;> cases c <;> cases d <;> rfl
def ZJ (f:Int) (xs:List Ai):Prop:=∀ (s:Int) (n:Nat),((xs.take n).foldl (EP (Fg f xs s)) []).length≤12
theorem PC {f:Int} {xs:List Ai} (H:BJ f xs) (W:ZJ f xs) (s:Int):m31 f xs s = some (Fp f xs s):=by
 have hlen:=W s
 unfold m31
 rw [Dv (f:=KU f xs s) (s0:=(0,[])) (fun i=>((i:Int),(xs.take i).foldl (EP (Fg f xs s)) [])) xs.length (.exit 0 ((xs.length:Int),(xs.take xs.length).foldl (EP (Fg f xs s)) [])) (fun i hi=>?_) ?_ rfl (Bl H.len') rfl]
 ·have hl:=hlen xs.length
  obtain ⟨ys,k1,k2,k3⟩:=bL (xs:=(xs.take xs.length).foldl (EP (Fg f xs s)) []) (by omega)
  simp only [obs,Ah,if_true,k1]
  congr 1
  have hnd:ys.Nodup:=k2.nodup_iff.2 (Oc _ _ _ List.nodup_nil)
  refine IX _ _ ?_ ((Xp _).filter _) fun v=>?_
  ·rw [List.Nodup] at hnd
   exact (List.pairwise_and_iff.2 ⟨k3,hnd⟩).imp fun h=>by omega
  ·rw [k2.mem_iff,List.take_length,LL]
   unfold Fp
   rw [List.mem_filter,Uh]
   unfold Ha
   rw [List.any_eq_true]
   constructor
   ·rintro (h | ⟨x,hx,hp,rfl⟩)
    ·cases h
    ·unfold Fg at hp
     simp only [Bool.and_eq_true,beq_iff_eq] at hp
     have:=(H.msg x hx).value (by omega)
     refine ⟨by omega,x,hx,?_⟩
     unfold IQ
     simp only [Bool.and_eq_true,beq_iff_eq]
     exact ⟨⟨hp.1,hp.2.1,trivial⟩,hp.2.2⟩
   ·rintro ⟨_,x,hx,hp⟩
    unfold IQ at hp
    simp only [Bool.and_eq_true,beq_iff_eq] at hp
    obtain ⟨⟨h1,h2,h3⟩,h4⟩:=hp
    refine .inr ⟨x,hx,?_,h3⟩
    unfold Fg
    simp only [Bool.and_eq_true,beq_iff_eq]
    subst h3
    exact ⟨h1,h2,h4⟩
 ·unfold KU
  simp only [Int.lt_irrefl,decide_false,cond_false]
 ·have hc':(i:Int) < (xs.length:Int):=by omega
  have hil:i≤1099511627776:=by have:=H.len; omega
  have hl:=hlen i
  unfold KU
  simp only [hc',decide_true,cond_true,AW hi,obs]
  rw [show m72 ((xs.take i).foldl (EP (Fg f xs s)) []) xs[i].Value = some (decide (xs[i].Value∈(xs.take i).foldl (EP (Fg f xs s)) [])) from Js (Bl (by omega)) (BS (by omega)),JC H (show (3:Int)≤3 by omega),cU]
  rw [E7 hi,List.foldl_append,List.foldl_cons,List.foldl_nil]
  have e:((xs[i].Kind == 3 && (xs[i].Slot == s && BO f xs 3 xs[i].View s xs[i].Value)) && !decide (xs[i].Value∈(xs.take i).foldl (EP (Fg f xs s)) [])) = (Fg f xs s xs[i] && !decide (xs[i].Value∈(xs.take i).foldl (EP (Fg f xs s)) [])):=rfl
  rw [e]
  rw [UP]
  cases hs:(Fg f xs s xs[i] && !decide (xs[i].Value∈(xs.take i).foldl (EP (Fg f xs s)) []))
  ·simp only [obs,Ah,cond_false,wi1 hil]
  ·simp only [obs,Ah,cond_true,MB (show ((xs.take i).foldl (EP (Fg f xs s)) []).length≤1000 by omega),wi1 hil]
def GY (f:Int) (xs:List Ai) (i:Nat):List Int:=(CX i).map fun s=>(Fp f xs s).headD 0
def DT (f:Int) (xs:List Ai) (i:Nat):Bool:=(Fp f xs ((i:Int) + 1)).isEmpty
def Ey (f:Int) (xs:List Ai):List Int:=orF (BN (DT f xs) 30) (GY f xs) (GY f xs 30)
theorem H6 (f:Int) (xs:List Ai) (i:Nat):(GY f xs i).length = i:=by simp [GY,CX]
theorem Po (f:Int) (xs:List Ai) (i:Nat):GY f xs (i + 1) = GY f xs i++[(Fp f xs ((i:Int) + 1)).headD 0]:=by
 unfold GY; rw [FF,List.map_append]; rfl
theorem I5 {l:List Int}:((l.length:Int) == 0) = l.isEmpty:=by
 cases l with
 | nil=>rfl
 | cons x r=>
  rw [Bool.eq_iff_iff]
  simp; omega
theorem Pn {l:List Int} (h:l.isEmpty = false):Ar l 0 = some (l.headD 0):=by
 cases l with
 | nil=>cases h
 | cons x r=>rfl
theorem Ho {i:Nat} (h:i≤1048576):wi .i64 ((i:Int) + 1 + 1) = ((i + 1:Nat):Int) + 1:=by rw [Dp (by omega) (by omega)]; omega
theorem OZ {f:Int} {xs:List Ai} (H:BJ f xs) (W:ZJ f xs):m53 f xs = some (Ey f xs):=by
 unfold m53 Ey
 rw [AG (f:=KP f xs) (s0:=(1,[])) (fun i=>((i:Int) + 1,GY f xs i)) 30 (DT f xs) (fun i=>.exit 0 ((i:Int) + 1,GY f xs i)) (.exit 0 (31,GY f xs 30)) (fun i hi _ hp=>?_) (fun i hi _ hp=>?_) (fun _=>?_) (Bl (by omega)) rfl]
 ·cases BN (DT f xs) 30 <;> rfl
 ·have hc:(i:Int) + 1≤30:=by omega
  unfold KP
  unfold DT at hp
  have hl:=H6 f xs i
  simp only [hc,decide_true,cond_true,PC H W,obs,I5,hp,cond_false,Pn hp,MB (show (GY f xs i).length≤1000 by omega),Ho (show i≤1048576 by omega),Po]
 ·have hc:(i:Int) + 1≤30:=by omega
  unfold KP
  unfold DT at hp
  simp only [hc,decide_true,cond_true,PC H W,obs,I5,hp]
  exact ⟨trivial,rfl⟩
 ·exact ⟨rfl,rfl⟩
theorem WW {f:Int} {xs:List Ai} (H:BJ f xs):TT f xs = some (Ey f xs):=by
 unfold TT Ey
 rw [AG (f:=IA f xs) (s0:=(false,1,[])) (fun i=>(false,(i:Int) + 1,GY f xs i)) 30 (DT f xs) (fun i=>.ret (true,(i:Int) + 1,GY f xs i)) (.exit 0 (false,31,GY f xs 30)) (fun i hi _ hp=>?_) (fun i hi _ hp=>?_) (fun _=>?_) (Bl (by omega)) rfl]
 ·cases BN (DT f xs) 30 <;> rfl
 ·have hc:(i:Int) + 1≤30:=by omega
  unfold IA
  unfold DT at hp
  have hl:=H6 f xs i
  simp only [hc,decide_true,cond_true,P9 H,obs,I5,hp,cond_false,Pn hp,MB (show (GY f xs i).length≤1000 by omega),Ho (show i≤1048576 by omega),Po]
 ·have hc:(i:Int) + 1≤30:=by omega
  unfold IA
  unfold DT at hp
  simp only [hc,decide_true,cond_true,cond_false,P9 H,obs,I5,hp]
  exact ⟨trivial,rfl⟩
 ·exact ⟨rfl,rfl⟩
theorem NS (f:Int) (xs:List Ai):(Ey f xs).length≤30:=by
 unfold Ey
 rcases BF (DT f xs) 30 with h | ⟨i,h1,h2,h3⟩
 ·rw [BM h]; simp [orF,H6]
 ·rw [B7 h1 h2 h3]; simp [orF,H6]; omega
open Go Go.Rf
def CQ (f:Int) (xs:List Ai) (r:Af):Bool:=(r.Start != (-1)) && ((r.View == 0) || (!EY f xs r.Start || (BK xs r.Start != r.View)))
def Dt (f:Int) (r:Af):Bool:=!inR r.Id 1 (BG f) || (!inR r.View 0 20 || !inR r.Done 0 30)
def BV (f:Int) (xs:List Ai) (r:Af):Int:=bif Dt f r then 3 else bif CQ f xs r then 1 else bif decide (r.Done > ((Ey f xs).length:Int)) then 8 else 0
theorem EG {f:Int} {xs:List Ai} {r:Int} (h:EY f xs r = true):∃ x,Ar xs r = some x∧BK xs r = x.View:=by
 unfold EY at h
 cases hg:Ar xs r with
 | none=>rw [hg] at h; cases h
 | some x=>exact ⟨x,rfl,by simp [BK,hg]⟩
theorem OB {f:Int} {xs:List Ai} (H:BJ f xs) (r:Af):m54 f xs r ((Ey f xs).length:Int) = some (BV f xs r):=by
 unfold m54 BV
 rw [Iu,JO,in2,FW]
 simp only [obs,Ah]
 rw [show (!inR r.Id 1 (BG f) || (!inR r.View 0 20 || !inR r.Done 0 30)) = Dt f r from rfl]
 cases Dt f r
 rotate_left
 ·rfl
 simp only [cond_false,KI H,obs]
 unfold CQ
 cases r.Start != (-1)
 ·simp only [cond_false,obs,Ah,Bool.false_and]
  cases decide (r.Done > ((Ey f xs).length:Int)) <;> rfl
 simp only [cond_true,Bool.true_and]
 cases r.View == 0
 rotate_left
 ·rfl
 simp only [cond_false,Bool.false_or]
 cases hn:EY f xs r.Start
 ·rfl
 obtain ⟨x,g1,g2⟩:=EG hn
 simp only [Bool.not_true,cond_false,Bool.false_or,g1,obs,g2,Ah]
 cases x.View != r.View
 rotate_left
 ·rfl
 cases decide (r.Done > ((Ey f xs).length:Int)) <;> rfl
theorem Qj {f:Int} {xs:List Ai} (H:BJ f xs) (v i:Int) (hv:(v == 0) = false):WB f xs v i = some (EY f xs i && (BK xs i == v)):=by
 unfold WB
 rw [hv,cond_false,Wi H,obs]
 cases hn:EY f xs i
 ·rfl
 obtain ⟨x,g1,g2⟩:=EG hn
 rw [g1,g2]; rfl
theorem O9 {f:Int} {xs:List Ai} (H:BJ f xs) (r:Af):WR f xs r = some (BV f xs r):=by
 unfold WR BV
 rw [Xh,in1,in1,FW]
 simp only [obs,Ah]
 rw [show (!inR r.Id 1 (BG f) || (!inR r.View 0 20 || !inR r.Done 0 30)) = Dt f r from rfl]
 cases hb:Dt f r
 rotate_left
 ·rfl
 have hd:0≤r.Done:=by
  unfold Dt at hb
  simp only [Bool.or_eq_false_iff,Bool.not_eq_false',Bv] at hb
  exact hb.2.2.1
 have tail:((bif decide (r.Done > 0) then
     (TT f xs).bind fun y2=>
     bif decide (r.Done > (y2.length:Int)) then
      some (LO.ret 8)
     else
      some (LO.norm (0:Int))
    else
     some (LO.norm 0)).bind (Ah (fun s10=>
    some (0:Int)) (fun i5 s10=>
    none) (fun s10=>
    some s10))) = some (bif decide (r.Done > ((Ey f xs).length:Int)) then 8 else 0):=by
  rw [WW H]
  by_cases h0:r.Done > 0
  ·simp only [h0,decide_true,cond_true,obs]
   cases decide (r.Done > ((Ey f xs).length:Int)) <;> rfl
  ·have h1:¬ r.Done > ((Ey f xs).length:Int):=by omega
   simp only [h0,h1,decide_false,cond_false,obs,Ah]
 simp only [cond_false,obs,Ah]
 unfold CQ
 cases r.Start != (-1)
 ·simp only [cond_false,obs,Ah,Bool.false_and]
  exact tail
 simp only [cond_true,Bool.true_and]
 cases hv:r.View == 0
 rotate_left
 ·rfl
 simp only [cond_false,Bool.false_or,Qj H _ _ hv,obs,Ah]
 have e:(!(EY f xs r.Start && (BK xs r.Start == r.View))) = (!EY f xs r.Start || (BK xs r.Start != r.View)):=by
  unfold bne; rw [Bool.not_and]
 rw [e]
 cases (!EY f xs r.Start || (BK xs r.Start != r.View))
 rotate_left
 ·rfl
 simp only [cond_false,obs,Ah]
 exact tail
def PU (f:Int) (bs:List Int) (i:Nat):Bool:=!inR (A bs i) 1 (BG f) || Dn bs i
def F6 (f:Int) (bs:List Int):Int:=orF (BN (PU f bs) bs.length) (fun i=>bif !inR (A bs i) 1 (BG f) then 3 else 1) 0
theorem Ny {f:Int} {bs:List Int} {i:Nat} (h:i < bs.length):PU f bs i = (!inR bs[i] 1 (BG f) || (decide (0 < i) && decide (bs[i]≤bs[i - 1]))):=by
 unfold PU Dn
 rw [Ed h,Ed (show i - 1 < bs.length by omega)]
theorem Me (f:Int) (bs:List Int) (h:bs.length≤1048576):m51 f bs = some (F6 f bs):=by
 unfold m51 F6
 rw [AG (f:=GU f bs) (s0:=(0,0)) (fun i=>(0,(i:Int))) bs.length (PU f bs) (fun i=>.ret (bif !inR (A bs i) 1 (BG f) then 3 else 1,(i:Int))) (.exit 0 (0,(bs.length:Int))) (fun i hi _ hp=>?_) (fun i hi _ hp=>?_) (fun _=>?_) (Bl h) rfl]
 ·cases BN (PU f bs) bs.length <;> rfl
 ·have hc':(i:Int) < (bs.length:Int):=by omega
  have hb:i≤big:=Nat.le_trans (Nat.le_of_lt hi) (BS h)
  rw [Ny hi,Bool.or_eq_false_iff] at hp
  unfold GU
  simp only [hc',decide_true,cond_true,AW hi,obs,Iu,hp.1,cond_false]
  by_cases h0:0 < i
  ·have h0':(i:Int) > 0:=by omega
   have hp2:=hp.2
   rw [decide_eq_true h0,Bool.true_and] at hp2
   simp only [h0',decide_true,cond_true,Hn h0 hb,AW (show i - 1 < bs.length by omega),obs,hp2,cond_false,Ah,wi1 hb]
  ·have h0':¬ (i:Int) > 0:=by omega
   simp only [h0',decide_false,cond_false,obs,Ah,wi1 hb]
 ·have hc':(i:Int) < (bs.length:Int):=by omega
  have hb:i≤big:=Nat.le_trans (Nat.le_of_lt hi) (BS h)
  rw [Ny hi] at hp
  unfold GU
  simp only [hc',decide_true,cond_true,AW hi,obs,Iu,Ed hi]
  cases hr:!inR bs[i] 1 (BG f)
  ·rw [hr,Bool.false_or,Bool.and_eq_true] at hp
   have h0:0 < i:=of_decide_eq_true hp.1
   have h0':(i:Int) > 0:=by omega
   simp only [cond_false,h0',decide_true,cond_true,Hn h0 hb,AW (show i - 1 < bs.length by omega),obs,hp.2,Ah]
   exact ⟨trivial,rfl⟩
  ·exact ⟨rfl,rfl⟩
 ·unfold GU
  simp only [Int.lt_irrefl,decide_false,cond_false]
  exact ⟨trivial,rfl⟩
theorem XM (f:Int) (bs:List Int):NM f bs = GU f bs:=by
 funext s
 unfold NM GU
 cases hg:Ar bs s.2 with
 | none=>rfl
 | some x=>
  simp only [obs,Xh,Iu]
theorem XN (f:Int) (bs:List Int) (h:bs.length≤1048576):m66 f bs = some (bif decide ((bs.length:Int) > f) then 2 else F6 f bs):=by
 unfold m66
 cases decide ((bs.length:Int) > f)
 rotate_left
 ·rfl
 simp only [cond_false]
 rw [XM]
 exact Me f bs h
def EK (bs:List Int) (id:Int):Bool:=!decide (id∈bs)
def CN (f:Int) (bs:List Int):List Int:=(CX (3 * f + 1).toNat).filter (EK bs)
theorem J4 {f:Int} (hf:1≤f∧f≤2) (bs:List Int) (h:bs.length≤1048576):m36 f bs = some (CN f bs):=by
 have hm:=Cf hf
 unfold m36
 rw [Dv (f:=KQ f bs) (s0:=(1,[])) (fun i=>((i:Int) + 1,(CX i).filter (EK bs))) (3 * f + 1).toNat (.exit 0 (((3 * f + 1).toNat:Int) + 1,CN f bs)) (fun i hi=>?_) ?_ rfl (Bl (by omega)) rfl]
 ·rfl
 ·unfold KQ
  have hc:¬ (((3 * f + 1).toNat:Int) + 1≤BG f):=by omega
  have hc':decide ((((3 * f + 1).toNat:Int) + 1)≤m75 f) = false:=decide_eq_false hc
  dsimp only
  rw [hc',cond_false]
  rfl
 ·unfold KQ
  have hc:(i:Int) + 1≤BG f:=by omega
  have hc':decide ((i:Int) + 1≤m75 f) = true:=decide_eq_true hc
  dsimp only
  rw [hc',cond_true,show m72 bs ((i:Int) + 1) = some (decide ((i:Int) + 1∈bs)) from Js (Bl h) (BS h),obs,FF,List.filter_append]
  have e:wi .i64 ((i:Int) + 1 + 1) = ((i + 1:Nat):Int) + 1:=Ho (by omega)
  cases hs:EK bs ((i:Int) + 1)
  ·have hs':(!decide ((i:Int) + 1∈bs)) = false:=hs
   simp only [hs',cond_false,obs,Ah,e]
   simp [hs]
  ·have hs':(!decide ((i:Int) + 1∈bs)) = true:=hs
   simp only [hs',cond_true,MB (DL hf (p:=EK bs) (i:=i) (by omega)),obs,Ah,e]
   simp [hs]
theorem Kt (bs:List Int) (v:Int) (h:bs.length≤1048576):m29 bs v = some (!EK bs v):=by
 unfold m29
 rw [AG (f:=Jm bs v) (s0:=(false,0)) (fun i=>(false,(i:Int))) bs.length (pAt (fun x=>x == v) bs) (fun i=>.ret (true,(i:Int))) (.exit 0 (false,(bs.length:Int))) (fun i hi _ hp=>?_) (fun i hi _ hp=>?_) (fun _=>?_) (Bl h) rfl]
 ·have e:(!EK bs v) = bs.any fun x=>x == v:=by
   unfold EK
   rw [Bool.not_not,Bool.eq_iff_iff]
   simp
  rw [e,← C0]
  cases BN (pAt (fun x=>x == v) bs) bs.length <;> rfl
 ·rw [AQ hi] at hp
  have hc':(i:Int) < (bs.length:Int):=by omega
  unfold Jm
  simp only [hc',decide_true,cond_true,AW hi,obs,hp,cond_false,wi1 (show i≤1099511627776 by omega)]
 ·rw [AQ hi] at hp
  have hc':(i:Int) < (bs.length:Int):=by omega
  unfold Jm
  simp only [hc',decide_true,cond_true,AW hi,obs,hp]
  exact ⟨trivial,rfl⟩
 ·unfold Jm
  simp only [Int.lt_irrefl,decide_false,cond_false]
  exact ⟨trivial,rfl⟩
def FQ (bs:List Int) (i:Nat):Nat:=((CX i).filter (EK bs)).length
theorem Nr (bs:List Int) (i:Nat):FQ bs (i + 1) = FQ bs i + if EK bs ((i:Int) + 1) = true then 1 else 0:=by
 unfold FQ
 rw [FF,List.filter_append,List.length_append]
 by_cases h:EK bs ((i:Int) + 1) = true
 ·rw [if_pos h]; simp [h]
 ·rw [if_neg h]; simp [h]
theorem Zy (bs:List Int) (i:Nat):FQ bs i≤i:=by
 unfold FQ
 exact Nat.le_trans (List.length_filter_le _ _) (by simp [CX])
def J6 (bs ids:List Int) (i:Nat):Bool:=EK bs ((i:Int) + 1) && !decide (ids[FQ bs i]? = some ((i:Int) + 1))
theorem Pi (bs ids:List Int):∀ n,(∀ j,j < n→J6 bs ids j = false)→(CX n).filter (EK bs) = ids.take (FQ bs n)
 | 0,_=>rfl
 | n + 1,h=>by
  have ih:=Pi bs ids n fun j hj=>h j (by omega)
  rw [Nr,FF,List.filter_append,ih]
  have h2:=h n (by omega)
  unfold J6 at h2
  by_cases ho:EK bs ((n:Int) + 1) = true
  ·rw [ho,Bool.true_and] at h2
   simp at h2
   rw [if_pos ho,List.take_add_one,h2]
   simp [ho]
  ·rw [if_neg ho]; simp [ho]
theorem QG (bs ids:List Int) (n:Nat):ids = (CX n).filter (EK bs) ↔ (∀ j,j < n→J6 bs ids j = false)∧FQ bs n = ids.length:=by
 constructor
 ·intro e
  refine ⟨fun j hj=>?_,by rw [e]; rfl⟩
  unfold J6
  cases ho:EK bs ((j:Int) + 1)
  ·rfl
  rw [Bool.true_and,e]
  have e2:CX n = CX j++(((j:Int) + 1)::(CX n).drop (j + 1)):=by
   have e3:(CX n).take j = CX j:=by
    unfold CX
    rw [← List.map_take,List.take_range]
    congr 2; omega
   have hl:j < (CX n).length:=by simp [CX]; omega
   have e4:(CX n)[j] = (j:Int) + 1:=by simp [CX]
   have:=List.take_append_drop j (CX n)
   rw [List.drop_eq_getElem_cons hl,e3,e4] at this
   exact this.symm
  rw [e2,List.filter_append,List.filter_cons,if_pos ho]
  have:FQ bs j = ((CX j).filter (EK bs)).length:=rfl
  rw [List.getElem?_append_right (by omega),this,Nat.sub_self]
  simp
 ·rintro ⟨h1,h2⟩
  rw [Pi bs ids n h1,h2,List.take_length]
theorem Tt (c:Aa) (hf:1≤c.F∧c.F≤2) (hb:c.Bad.length≤1048576) (hr:c.Replicas.length≤1048576) :
  (c.Replicas.map (·.Id) = CN c.F c.Bad∧∃ j,Az (Gs c) NN (0,0,1) = some (.exit 0 (0,(c.Replicas.length:Int),j))) ∨
  (c.Replicas.map (·.Id)≠CN c.F c.Bad∧((∃ a j,Az (Gs c) NN (0,0,1) = some (.exit 0 (0,a,j))∧a≠(c.Replicas.length:Int))∨∃ s,Az (Gs c) NN (0,0,1) = some (.ret s)∧s.1 = 1)):=by
 have hm:=Cf hf
 have key:=AG (f:=Gs c) (N:=NN) (s0:=(0,0,1)) (fun i=>(0,(FQ c.Bad i:Int),(i:Int) + 1)) (3 * c.F + 1).toNat (J6 c.Bad (c.Replicas.map (·.Id))) (fun i=>.ret (1,(FQ c.Bad i:Int),(i:Int) + 1)) (.exit 0 (0,(FQ c.Bad (3 * c.F + 1).toNat:Int),((3 * c.F + 1).toNat:Int) + 1)) (fun i hi _ hp=>by
   have hc:(i:Int) + 1≤BG c.F:=by omega
   have hc':decide ((i:Int) + 1≤wi .i64 ((wi .i64 (3 * c.F)) + 1)) = true:=decide_eq_true hc
   have e:wi .i64 ((i:Int) + 1 + 1) = ((i + 1:Nat):Int) + 1:=Ho (by omega)
   have hcl:=Zy c.Bad i
   unfold Gs
   dsimp only
   rw [hc',cond_true,Kt _ _ hb,obs,Nr]
   unfold J6 at hp
   cases ho:EK c.Bad ((i:Int) + 1)
   ·simp [Ah,e]
   ·rw [ho,Bool.true_and] at hp
    simp only [Bool.not_eq_false',decide_eq_true_eq] at hp
    have hlt:FQ c.Bad i < c.Replicas.length:=by
     have:=(List.getElem?_eq_some_iff.1 hp).1
     simpa using this
    rw [List.getElem?_map,List.getElem?_eq_getElem hlt,Option.map_some,Option.some.injEq] at hp
    have h1:¬ ((FQ c.Bad i:Int) ≥ (c.Replicas.length:Int)):=by omega
    have h2:(c.Replicas[FQ c.Bad i].Id != (i:Int) + 1) = false:=by rw [hp]; simp
    simp only [Bool.not_true,cond_false,h1,decide_false,AW hlt,obs,h2,Ah,wi1 (show FQ c.Bad i≤1099511627776 by omega),e,if_true]) (fun i hi _ hp=>by
   have hc:(i:Int) + 1≤BG c.F:=by omega
   have hc':decide ((i:Int) + 1≤wi .i64 ((wi .i64 (3 * c.F)) + 1)) = true:=decide_eq_true hc
   unfold Gs
   dsimp only
   rw [hc',cond_true,Kt _ _ hb,obs]
   unfold J6 at hp
   rw [Bool.and_eq_true] at hp
   rw [hp.1]
   have hp2:=hp.2
   simp only [Bool.not_eq_true',decide_eq_false_iff_not] at hp2
   by_cases h1:((FQ c.Bad i:Int) ≥ (c.Replicas.length:Int))
   ·simp only [Bool.not_true,cond_false,h1,decide_true,cond_true,obs,Ah]
    exact ⟨trivial,rfl⟩
   ·have hlt:FQ c.Bad i < c.Replicas.length:=by omega
    rw [List.getElem?_map,List.getElem?_eq_getElem hlt,Option.map_some,Option.some.injEq] at hp2
    have h2:(c.Replicas[FQ c.Bad i].Id != (i:Int) + 1) = true:=by simpa using hp2
    simp only [Bool.not_true,cond_false,h1,decide_false,AW hlt,obs,h2,cond_true,Ah]
    exact ⟨trivial,rfl⟩) (fun _=>by
   have hc:¬ (((3 * c.F + 1).toNat:Int) + 1≤BG c.F):=by omega
   have hc':decide ((((3 * c.F + 1).toNat:Int) + 1)≤wi .i64 ((wi .i64 (3 * c.F)) + 1)) = false:=decide_eq_false hc
   unfold Gs
   dsimp only
   rw [hc',cond_false]
   exact ⟨rfl,rfl⟩) (Bl (by omega)) rfl
 have hiff:=QG c.Bad (c.Replicas.map (·.Id)) (3 * c.F + 1).toNat
 rw [List.length_map] at hiff
 rw [key]
 rcases BF (J6 c.Bad (c.Replicas.map (·.Id))) (3 * c.F + 1).toNat with h | ⟨i,h1,h2,h3⟩
 ·rw [BM h]
  by_cases hl:FQ c.Bad (3 * c.F + 1).toNat = c.Replicas.length
  ·exact .inl ⟨hiff.2 ⟨h,hl⟩,_,by simp only [orF,hl]; rfl⟩
  ·exact .inr ⟨fun e=>hl (hiff.1 e).2,.inl ⟨_,_,rfl,by omega⟩⟩
 ·rw [B7 h1 h2 h3]
  refine .inr ⟨fun e=>?_,.inr ⟨_,rfl,rfl⟩⟩
  rw [(hiff.1 e).1 i h1] at h3
  cases h3
open Go Go.Rf
theorem fN {L:List Str} {k:Str} (h:L.length≤1048577):B0 16 L [k] = some (L++[k]):=by
 unfold B0
 rw [if_pos (by simp; omega)]
theorem gU (b:UInt8):((b.toNat:Int) == 47) = (b == 47):=by
 rw [Bool.eq_iff_iff,beq_iff_eq,beq_iff_eq]
 constructor
 ·intro h
  apply UInt8.toNat_inj.1
  have:(47:UInt8).toNat = 47:=rfl
  omega
 ·rintro rfl; rfl
theorem JP {xs:Str} {i j:Nat} (h1:i≤j) (h2:j≤xs.length):D6 xs (i:Int) (j:Int) = some ((xs.drop i).take (j - i)):=by
 unfold D6
 rw [if_pos ⟨by omega,by omega,by omega⟩,Int.toNat_natCast,show ((j:Int) - (i:Int)).toNat = j - i by omega]
theorem X5 (a:Str) (h:a.length≤1000):TN a 47 = some (spl 47 a):=by
 unfold TN
 obtain ⟨o,h1,s,rfl,h2⟩:=Dh (f:=I6 a 47) (fun i s=>(i≤a.length∧∃ (fr:Nat) (out:List Str),s = ((fr:Int),(i:Int),out)∧fr≤i∧out.length≤i∧out++hd1 ((a.drop fr).take (i - fr)) (spl 47 (a.drop i)) = spl 47 a)∨(i = a.length + 1∧∃ fr:Int,s = (fr,(i:Int),spl 47 a))) (a.length + 1) (fun o=>∃ s,o = .exit 0 s∧s.2.2 = spl 47 a) (fun i s hi hs=>by
  rcases hs with ⟨hil,fr,out,rfl,h1,h2,h3⟩ | ⟨rfl,fr,rfl⟩
  ·unfold I6
   dsimp only
   have hc:(i:Int)≤(a.length:Int):=by omega
   simp only [hc,decide_true,cond_true]
   by_cases he:i = a.length
   ·subst he
    have e1:((a.length:Int) == (a.length:Int)) = true:=by simp
    simp only [e1,cond_true,JP h1 (Nat.le_refl _),obs,fN (show out.length≤1048577 by omega),Ah,wi1 (show a.length≤1099511627776 by omega)]
    refine .inl ⟨by omega,(((a.length + 1:Nat):Int),((a.length + 1:Nat):Int),out++[(a.drop fr).take (a.length - fr)]),rfl,.inr ⟨trivial,((a.length + 1:Nat):Int),?_⟩⟩
    rw [← h3,List.drop_length]
    simp [spl,hd1]
   ·have hlt:i < a.length:=by omega
    have e1:((i:Int) == (a.length:Int)) = false:=by
     rw [Bool.eq_false_iff]; simp; omega
    rw [List.drop_eq_getElem_cons hlt] at h3
    simp only [e1,cond_false,AW hlt,obs,gU]
    cases hb:a[i] == 47
    ·simp only [cond_false,obs,Ah,wi1 (show i≤1099511627776 by omega)]
     rw [Zh hb] at h3
     refine .inl ⟨by omega,_,rfl,.inl ⟨by omega,fr,out,rfl,by omega,by omega,?_⟩⟩
     rw [← h3]
     congr 2
     rw [show i + 1 - fr = (i - fr) + 1 by omega,List.take_add_one,List.getElem?_drop,show fr + (i - fr) = i by omega,List.getElem?_eq_getElem hlt]
     rfl
    ·simp only [cond_true,JP h1 (Nat.le_of_lt hlt),obs,fN (show out.length≤1048577 by omega),Ah,wi1 (show i≤1099511627776 by omega)]
     rw [Zi hb] at h3
     refine .inl ⟨by omega,_,rfl,.inl ⟨by omega,i + 1,out++[(a.drop fr).take (i - fr)],rfl,by omega,by simp; omega,?_⟩⟩
     rw [← h3]
     simp [Su _ (Ql 47 (a.drop (i + 1)))]
  ·unfold I6
   have hc:¬ (((a.length + 1:Nat):Int)≤(a.length:Int)):=by omega
   simp only [hc,decide_false,cond_false]
   exact .inr (.inl ⟨_,_,rfl,_,rfl,rfl⟩)) NN 0 (0,0,[]) (Nat.zero_le _) (Bl (by omega)) (.inl ⟨Nat.zero_le _,0,[],rfl,Nat.le_refl _,Nat.le_refl _,by simp [Su _ (Ql 47 a)]⟩)
 rw [h1]
 simp [Ah,h2]
theorem LV (a:Str):Lib.countByte a 47≤a.length:=List.count_le_length
theorem RZ (c n:Nat) (h:c≤n):TM ((c + 1:Nat):Int) ((n + 1:Nat):Int) = ((c + 1:Nat):Int):=by
 unfold TM
 rw [if_neg (by omega)]
theorem US (a:Str) (h:a.length≤1000):W6 a [47] = some (spl 47 a):=by
 unfold W6 YN
 have hcl:=LV a
 have e0:((-1:Int) == 0) = false:=rfl
 have e1:(([47]:Str) == ([]:Str)) = false:=rfl
 have e2:decide ((-1:Int) < 0) = true:=rfl
 have e3:TP a [47] = some (Lib.countByte a 47:Int):=rfl
 have e4:wi .i64 ((Lib.countByte a 47:Int) + 1) = ((Lib.countByte a 47 + 1:Nat):Int):=wi1 (by omega)
 have e5:wi .i64 ((a.length:Int) + 1) = ((a.length + 1:Nat):Int):=wi1 (by omega)
 have e6:mkO 16 ((Lib.countByte a 47 + 1:Nat):Int) ([]:Str) = some (List.replicate (Lib.countByte a 47 + 1) []):=by
  unfold mkO
  rw [if_pos ⟨by omega,by rw [Int.toNat_natCast]; omega⟩,Int.toNat_natCast]
 simp only [e0,e1,e2,e3,e4,e5,RZ _ _ hcl,e6,cond_false,cond_true,obs,Ah]
 obtain ⟨o,h1,s,rfl,h2⟩:=Dh (f:=JV a [47] 0 ((Lib.countByte a 47 + 1:Nat):Int)) (fun i s=>∃ (t:Str) (b:List Str),s = (t,(i:Int),b)∧b.length = Lib.countByte a 47 + 1∧b.take i++spl 47 t = spl 47 a∧Lib.countByte t 47 + i = Lib.countByte a 47∧t.length≤a.length) (Lib.countByte a 47) (fun o=>∃ s,o = .exit 0 s∧∃ (t:Str) (b:List Str),s = (t,(Lib.countByte a 47:Int),b)∧b.length = Lib.countByte a 47 + 1∧b.take (Lib.countByte a 47)++[t] = spl 47 a) (fun i s hi hs=>by
  obtain ⟨t,b,rfl,g1,g2,g3,g4⟩:=hs
  unfold JV
  have e7:wi .i64 (((Lib.countByte a 47 + 1:Nat):Int) - 1) = (Lib.countByte a 47:Int):=by rw [Dp (by omega) (by omega)]; omega
  dsimp only
  rw [e5,RZ _ _ hcl,e7]
  by_cases hc:i < Lib.countByte a 47
  ·have hc':(i:Int) < (Lib.countByte a 47:Int):=by omega
   rcases H5 47 t with hn | ⟨m,hm⟩
   ·have:=(LH 47 t).1 hn; omega
   ·obtain ⟨q1,q2,q3⟩:=UT 47 t m hm
    have e8:W7 t [47] = some (m:Int):=by rw [← hm]; rfl
    have e9:¬ ((m:Int) < 0):=by omega
    have e10:wi .i64 ((m:Int) + 0) = (m:Int):=by rw [Dp (by omega) (by omega)]; omega
    have e11:wi .i64 ((m:Int) + (([47]:Str).length:Int)) = ((m + 1:Nat):Int):=by
     rw [show (([47]:Str).length:Int) = 1 from rfl]; exact wi1 (by omega)
    have e12:D6 t 0 (m:Int) = some (t.take m):=by
     have:=JP (xs:=t) (i:=0) (j:=m) (Nat.zero_le _) (by omega)
     simpa using this
    have e13:D6 t ((m + 1:Nat):Int) (t.length:Int) = some (t.drop (m + 1)):=by
     rw [JP (by omega) (Nat.le_refl _),List.take_of_length_le (by simp)]
    simp only [hc',decide_true,cond_true,e8,obs,e9,decide_false,cond_false,e10,e11,e12,e13,AW (show i < b.length by omega),Int.toNat_natCast,wi1 (show i≤1099511627776 by omega)]
    refine .inl ⟨hc,_,rfl,_,_,rfl,by simp [g1],?_,by omega,by simp; omega⟩
    rw [← g2,q2]
    rw [List.take_add_one,List.take_set_of_le (Nat.le_refl _),List.getElem?_set,if_pos rfl,if_pos (by omega)]
    simp
  ·have hc':¬ (i:Int) < (Lib.countByte a 47:Int):=by omega
   simp only [hc',decide_false,cond_false]
   have hi2:i = Lib.countByte a 47:=by omega
   refine .inr (.inl ⟨_,_,rfl,_,rfl,t,b,by rw [hi2],g1,?_⟩)
   rw [← g2,O2 47 t (by omega),hi2]) NN 0 (a,0,List.replicate (Lib.countByte a 47 + 1) []) (Nat.zero_le _) (Bl (by omega)) ⟨a,_,rfl,by simp,by simp,by omega,Nat.le_refl _⟩
 obtain ⟨t,b,rfl,g1,g2⟩:=h2
 rw [h1]
 have e14:wi .i64 ((Lib.countByte a 47:Int) + 1) = ((Lib.countByte a 47 + 1:Nat):Int):=e4
 simp only [obs,Ah,if_true,AW (show Lib.countByte a 47 < b.length by omega),Int.toNat_natCast,e14]
 have e15:D6 (b.set (Lib.countByte a 47) t) 0 ((Lib.countByte a 47 + 1:Nat):Int) = some (spl 47 a):=by
  rw [Ef (xs:=b.set (Lib.countByte a 47) t) (i:=Lib.countByte a 47 + 1) (by simp [g1]),← g2]
  rw [List.take_add_one,List.take_set_of_le (Nat.le_refl _),List.getElem?_set,if_pos rfl,if_pos (by omega)]
  simp
 rw [e15]; rfl
theorem YL (s:Str) (h:s.length≤1048576):∃ b,OP s = some b:=by
 unfold OP
 obtain ⟨o,h1,h2⟩:=Dh (f:=JU s) (fun i t=>t = (false,(i:Int))) s.length (fun o=>(∃ t,o = .exit 0 t)∨∃ t,o = .ret t) (fun i t hi ht=>by
  subst ht
  unfold JU
  dsimp only
  by_cases hc:i < s.length
  ·have hc':(i:Int) < (s.length:Int):=by omega
   simp only [hc',decide_true,cond_true,AW hc,obs]
   have key:∀ b:Bool,((some (LO.norm b):Option (LO Bool)).bind (Ah (fun s4=>
    bif s4 then
     some (LO.ret false)
    else
     some (LO.norm false)) (fun i1 s4=>
    if i1 = 1 then
     some (LO.norm false)
    else
     some (LO.exit i1 false)) (fun s4=>
    some (LO.ret false)))).bind (Ah (fun s5=>
   some (LO.norm (s5,wi .i64 ((i:Int) + 1)))) (fun i2 s5=>
   some (LO.exit i2 (s5,(i:Int)))) (fun s5=>
   some (LO.ret (s5,(i:Int))))) = some (LO.norm (false,((i + 1:Nat):Int)))∨((some (LO.norm b):Option (LO Bool)).bind (Ah (fun s4=>
    bif s4 then
     some (LO.ret false)
    else
     some (LO.norm false)) (fun i1 s4=>
    if i1 = 1 then
     some (LO.norm false)
    else
     some (LO.exit i1 false)) (fun s4=>
    some (LO.ret false)))).bind (Ah (fun s5=>
   some (LO.norm (s5,wi .i64 ((i:Int) + 1)))) (fun i2 s5=>
   some (LO.exit i2 (s5,(i:Int)))) (fun s5=>
   some (LO.ret (s5,(i:Int))))) = some (LO.ret (false,(i:Int))):=fun b=>by
    cases b
    ·left; simp only [cond_false,obs,Ah,wi1 (show i≤1099511627776 by omega)]
    ·right; rfl
   have tree:∀ a b c d:Bool,∃ e,(bif a then bif c then some (LO.norm true) else some (LO.norm d) else bif b then bif c then some (LO.norm true) else some (LO.norm d) else some (LO.norm false)) = (some (LO.norm e):Option (LO Bool)):=fun a b c d=>by
    cases a <;> cases b <;> cases c <;> exact ⟨_,rfl⟩
   obtain ⟨e,he⟩:=tree (decide ((s[i].toNat:Int) < 97)) (decide ((s[i].toNat:Int) > 122)) (decide ((s[i].toNat:Int) < 48)) (decide ((s[i].toNat:Int) > 57))
   rw [he]
   rcases key e with k | k
   ·exact .inl ⟨hc,_,k,rfl⟩
   ·exact .inr (.inr ⟨_,k,.inr ⟨_,rfl⟩⟩)
  ·have hc':¬ (i:Int) < (s.length:Int):=by omega
   simp only [hc',decide_false,cond_false]
   exact .inr (.inl ⟨_,_,rfl,.inl ⟨_,rfl⟩⟩)) NN 0 (false,0) (Nat.zero_le _) (Bl h) rfl
 rw [h1]
 rcases h2 with ⟨t,rfl⟩ | ⟨t,rfl⟩
 ·exact ⟨_,rfl⟩
 ·exact ⟨_,rfl⟩
noncomputable def RJ (s:Str):Bool:=(OP s).getD false
theorem Wp (s:Str) (h:s.length≤1048576):OP s = some (RJ s):=by
 obtain ⟨b,hb⟩:=YL s h
 unfold RJ; rw [hb]; rfl
theorem aY (s:Str) (h:s.length≤1048576):W5 s = some (RJ s):=(rfl:W5 s = OP s).trans (Wp s h)
theorem FG (c:UInt8):∀ (a:Str),∀ x∈spl c a,x.length≤a.length
 | [],x,hx=>by
  simp [spl] at hx; subst hx; simp
 | b::r,x,hx=>by
  have ih:=FG c r
  unfold spl at hx
  by_cases e:(b == c) = true
  ·rw [if_pos e] at hx
   rcases List.mem_cons.1 hx with rfl | hx
   ·simp
   ·have:=ih x hx; simp; omega
  ·rw [if_neg e] at hx
   obtain ⟨h,t,e2⟩:=Iq c r
   rw [e2] at hx ih
   rcases List.mem_cons.1 hx with rfl | hx
   ·have:=ih h (by simp); simp; omega
   ·have:=ih x (by simp [hx]); simp; omega
noncomputable def Ep (x:Str):Bool:=!RJ x
noncomputable def GQ (a:Str):Int:=bif decide ((a.length:Int) > 24) then 2 else bif decide ((Lib.countByte a 47:Int) > 4) then 2 else bif a == ([47]:Str) then 0 else bif decide (((spl 47 a).length:Int) < 2) then 5 else bif !((spl 47 a).headD [] == ([]:Str)) then 5 else bif ((spl 47 a).drop 1).any Ep then 5 else 0
theorem Pm (a:Str):Ar (spl 47 a) 0 = some ((spl 47 a).headD []):=by
 obtain ⟨h,t,e⟩:=Iq 47 a
 rw [e]; rfl
theorem TE (a:Str):TU a = some (GQ a):=by
 unfold TU GQ
 by_cases hl:(a.length:Int) > 24
 ·simp only [hl,decide_true,cond_true,obs,Ah]
 simp only [hl,decide_false,cond_false]
 rw [show TP a [47] = some (Lib.countByte a 47:Int) from rfl,obs]
 cases decide ((Lib.countByte a 47:Int) > 4)
 rotate_left
 ·rfl
 simp only [cond_false,obs,Ah]
 cases a == ([47]:Str)
 rotate_left
 ·rfl
 simp only [cond_false,US a (by omega),obs]
 cases hw:decide (((spl 47 a).length:Int) < 2)
 rotate_left
 ·rfl
 simp only [cond_false,Pm,obs]
 cases !((spl 47 a).headD [] == ([]:Str))
 rotate_left
 ·rfl
 have hsl:=JQ 47 a
 have hcl:=LV a
 have e1:D6 (spl 47 a) 1 ((spl 47 a).length:Int) = some ((spl 47 a).drop 1):=by
  unfold D6
  rw [if_pos ⟨by omega,by omega,by omega⟩]
  rw [List.take_of_length_le (by simp)]
  rfl
 simp only [cond_false,obs,Ah,e1]
 have hdl:((spl 47 a).drop 1).length≤1048576:=by simp; omega
 rw [AG (f:=H3 ((spl 47 a).drop 1)) (s0:=(0,0)) (fun i=>(0,(i:Int))) ((spl 47 a).drop 1).length (pAt Ep ((spl 47 a).drop 1)) (fun i=>.ret (5,(i:Int))) (.exit 0 (0,(((spl 47 a).drop 1).length:Int))) (fun i hi _ hp=>?_) (fun i hi _ hp=>?_) (fun _=>?_) (Bl hdl) rfl]
 ·rw [← C0]
  cases BN (pAt Ep ((spl 47 a).drop 1)) ((spl 47 a).drop 1).length <;> rfl
 ·rw [AQ hi] at hp
  have hc':(i:Int) < (((spl 47 a).drop 1).length:Int):=by omega
  have hx:=FG 47 a _ (List.mem_of_mem_drop (List.getElem_mem hi))
  unfold H3
  unfold Ep at hp
  simp only [hc',decide_true,cond_true,AW hi,obs,aY _ (show ((spl 47 a).drop 1)[i].length≤1048576 by omega),hp,cond_false,wi1 (show i≤1099511627776 by omega)]
 ·rw [AQ hi] at hp
  have hc':(i:Int) < (((spl 47 a).drop 1).length:Int):=by omega
  have hx:=FG 47 a _ (List.mem_of_mem_drop (List.getElem_mem hi))
  unfold H3
  unfold Ep at hp
  simp only [hc',decide_true,cond_true,AW hi,obs,aY _ (show ((spl 47 a).drop 1)[i].length≤1048576 by omega),hp]
  exact ⟨trivial,rfl⟩
 ·unfold H3
  simp only [Int.lt_irrefl,decide_false,cond_false]
  exact ⟨trivial,rfl⟩
theorem Q5 (a:Str) (h:a.length≤24) (hs:(a == ([47]:Str)) = false):∃ l,W1 a = some (l,!(bif decide (((spl 47 a).length:Int) < 2) then true else bif !((spl 47 a).headD [] == ([]:Str)) then true else ((spl 47 a).drop 1).any Ep)):=by
 unfold W1
 rw [hs,cond_false,X5 a (by omega),obs]
 cases hw:decide (((spl 47 a).length:Int) < 2)
 rotate_left
 ·exact ⟨_,rfl⟩
 simp only [cond_false,Pm,obs]
 cases !((spl 47 a).headD [] == ([]:Str))
 rotate_left
 ·exact ⟨_,rfl⟩
 have hsl:=JQ 47 a
 have hcl:=LV a
 have e1:D6 (spl 47 a) 1 ((spl 47 a).length:Int) = some ((spl 47 a).drop 1):=by
  unfold D6
  rw [if_pos ⟨by omega,by omega,by omega⟩]
  rw [List.take_of_length_le (by simp)]
  rfl
 simp only [cond_false,obs,Ah]
 have hdl:((spl 47 a).drop 1).length≤1048576:=by simp; omega
 have hdl2:((spl 47 a).drop 1).length + 1 = (spl 47 a).length:=by simp; omega
 rw [AG (f:=Hz (spl 47 a)) (s0:=([],false,1)) (fun i=>([],false,(i:Int) + 1)) ((spl 47 a).drop 1).length (pAt Ep ((spl 47 a).drop 1)) (fun i=>.ret ([],false,(i:Int) + 1)) (.exit 0 ([],false,(((spl 47 a).drop 1).length:Int) + 1)) (fun i hi _ hp=>?_) (fun i hi _ hp=>?_) (fun _=>?_) (Bl hdl) rfl]
 ·rw [← C0]
  cases BN (pAt Ep ((spl 47 a).drop 1)) ((spl 47 a).drop 1).length
  ·exact ⟨_,by simp only [orF,obs,Ah,if_true,e1,Option.isSome_none]; rfl⟩
  ·exact ⟨_,rfl⟩
 ·rw [AQ hi] at hp
  have hc':(i:Int) + 1 < ((spl 47 a).length:Int):=by omega
  have hx:=FG 47 a _ (List.mem_of_mem_drop (List.getElem_mem hi))
  have g1:Ar (spl 47 a) ((i:Int) + 1) = some ((spl 47 a).drop 1)[i]:=by
   rw [show ((i:Int) + 1) = ((i + 1:Nat):Int) by omega,AW (show i + 1 < (spl 47 a).length by omega)]
   simp [Nat.add_comm]
  unfold Hz
  unfold Ep at hp
  simp only [hc',decide_true,cond_true,g1,obs,Wp _ (show ((spl 47 a).drop 1)[i].length≤1048576 by omega),hp,cond_false,Ho (show i≤1048576 by omega)]
 ·rw [AQ hi] at hp
  have hc':(i:Int) + 1 < ((spl 47 a).length:Int):=by omega
  have hx:=FG 47 a _ (List.mem_of_mem_drop (List.getElem_mem hi))
  have g1:Ar (spl 47 a) ((i:Int) + 1) = some ((spl 47 a).drop 1)[i]:=by
   rw [show ((i:Int) + 1) = ((i + 1:Nat):Int) by omega,AW (show i + 1 < (spl 47 a).length by omega)]
   simp [Nat.add_comm]
  unfold Hz
  unfold Ep at hp
  simp only [hc',decide_true,cond_true,g1,obs,Wp _ (show ((spl 47 a).drop 1)[i].length≤1048576 by omega),hp]
  exact ⟨trivial,rfl⟩
 ·have hc':¬ ((((spl 47 a).drop 1).length:Int) + 1 < ((spl 47 a).length:Int)):=by omega
  unfold Hz
  simp only [hc',decide_false,cond_false]
  exact ⟨trivial,rfl⟩
theorem TD (a:Str):TS a = some (GQ a):=by
 unfold TS GQ
 by_cases hl:(a.length:Int) > 24
 ·simp only [hl,decide_true,cond_true,obs,Ah]
 simp only [hl,decide_false,cond_false]
 cases hs:a == ([47]:Str)
 rotate_left
 ·have e:a = [47]:=by simpa using hs
  subst e
  rfl
 have hsl:=JQ 47 a
 obtain ⟨l,hn⟩:=Q5 a (by omega) hs
 have e5:decide (((spl 47 a).length:Int) > 5) = decide ((Lib.countByte a 47:Int) > 4):=decide_eq_decide.2 (by omega)
 simp only [Bool.not_false,cond_true,X5 a (by omega),obs,e5,Ah]
 cases decide ((Lib.countByte a 47:Int) > 4)
 rotate_left
 ·rfl
 simp only [cond_false,obs,Ah,hn]
 cases decide (((spl 47 a).length:Int) < 2)
 rotate_left
 ·rfl
 cases !((spl 47 a).headD [] == ([]:Str))
 rotate_left
 ·rfl
 cases ((spl 47 a).drop 1).any Ep <;> rfl
open Go Go.Rf
theorem kT:AX ([112]:Str) ((A6 1).2) = some true:=rfl
theorem kV:AX ([100]:Str) ((A6 1).2) = some true:=rfl
theorem kR:AX ([118]:Str) ((A6 1).2) = some true:=rfl
theorem kS:AX ([115]:Str) ((A6 1).2) = some true:=rfl
theorem kU:AX ([111]:Str) ((A6 1).2) = some true:=rfl
theorem kp1:JL 1 = false:=rfl
theorem kd1:JK 1 = false:=rfl
theorem kv1:II 1 = some false:=rfl
theorem ki1:Dk 1 1 8 = true:=rfl
theorem kj1:m63 1 1 8 = true:=rfl
theorem k31:((1:Int) != 3) = true:=rfl
theorem kO:AX ([112]:Str) ((A6 2).2) = some true:=rfl
theorem kQ:AX ([100]:Str) ((A6 2).2) = some true:=rfl
theorem kM:AX ([118]:Str) ((A6 2).2) = some true:=rfl
theorem kN:AX ([115]:Str) ((A6 2).2) = some true:=rfl
theorem kP:AX ([111]:Str) ((A6 2).2) = some true:=rfl
theorem kp2:JL 2 = false:=rfl
theorem kd2:JK 2 = false:=rfl
theorem kv2:II 2 = some false:=rfl
theorem ki2:Dk 2 1 8 = true:=rfl
theorem kj2:m63 2 1 8 = true:=rfl
theorem k32:((2:Int) != 3) = true:=rfl
theorem kJ:AX ([112]:Str) ((A6 3).2) = some false:=rfl
theorem kL:AX ([100]:Str) ((A6 3).2) = some false:=rfl
theorem kH:AX ([118]:Str) ((A6 3).2) = some true:=rfl
theorem kI:AX ([115]:Str) ((A6 3).2) = some false:=rfl
theorem kK:AX ([111]:Str) ((A6 3).2) = some false:=rfl
theorem kp3:JL 3 = true:=rfl
theorem kd3:JK 3 = true:=rfl
theorem kv3:II 3 = some false:=rfl
theorem ki3:Dk 3 1 8 = true:=rfl
theorem kj3:m63 3 1 8 = true:=rfl
theorem k33:((3:Int) != 3) = false:=rfl
theorem kE:AX ([112]:Str) ((A6 4).2) = some false:=rfl
theorem kG:AX ([100]:Str) ((A6 4).2) = some true:=rfl
theorem kC:AX ([118]:Str) ((A6 4).2) = some false:=rfl
theorem kD:AX ([115]:Str) ((A6 4).2) = some true:=rfl
theorem kF:AX ([111]:Str) ((A6 4).2) = some true:=rfl
theorem kp4:JL 4 = true:=rfl
theorem kd4:JK 4 = false:=rfl
theorem kv4:II 4 = some true:=rfl
theorem ki4:Dk 4 1 8 = true:=rfl
theorem kj4:m63 4 1 8 = true:=rfl
theorem k34:((4:Int) != 3) = true:=rfl
theorem j9:AX ([112]:Str) ((A6 5).2) = some false:=rfl
theorem kB:AX ([100]:Str) ((A6 5).2) = some false:=rfl
theorem j7:AX ([118]:Str) ((A6 5).2) = some false:=rfl
theorem j8:AX ([115]:Str) ((A6 5).2) = some true:=rfl
theorem kA:AX ([111]:Str) ((A6 5).2) = some true:=rfl
theorem kp5:JL 5 = true:=rfl
theorem kd5:JK 5 = true:=rfl
theorem kv5:II 5 = some true:=rfl
theorem ki5:Dk 5 1 8 = true:=rfl
theorem kj5:m63 5 1 8 = true:=rfl
theorem k35:((5:Int) != 3) = true:=rfl
theorem jZ:AX ([112]:Str) ((A6 6).2) = some false:=rfl
theorem j6:AX ([100]:Str) ((A6 6).2) = some true:=rfl
theorem jX:AX ([118]:Str) ((A6 6).2) = some true:=rfl
theorem jY:AX ([115]:Str) ((A6 6).2) = some true:=rfl
theorem j5:AX ([111]:Str) ((A6 6).2) = some true:=rfl
theorem kp6:JL 6 = true:=rfl
theorem kd6:JK 6 = false:=rfl
theorem kv6:II 6 = some false:=rfl
theorem ki6:Dk 6 1 8 = true:=rfl
theorem kj6:m63 6 1 8 = true:=rfl
theorem k36:((6:Int) != 3) = true:=rfl
theorem jU:AX ([112]:Str) ((A6 7).2) = some false:=rfl
theorem jW:AX ([100]:Str) ((A6 7).2) = some true:=rfl
theorem jS:AX ([118]:Str) ((A6 7).2) = some true:=rfl
theorem jT:AX ([115]:Str) ((A6 7).2) = some true:=rfl
theorem jV:AX ([111]:Str) ((A6 7).2) = some true:=rfl
theorem kp7:JL 7 = true:=rfl
theorem kd7:JK 7 = false:=rfl
theorem kv7:II 7 = some false:=rfl
theorem ki7:Dk 7 1 8 = true:=rfl
theorem kj7:m63 7 1 8 = true:=rfl
theorem k37:((7:Int) != 3) = true:=rfl
theorem jP:AX ([112]:Str) ((A6 8).2) = some false:=rfl
theorem jR:AX ([100]:Str) ((A6 8).2) = some true:=rfl
theorem jN:AX ([118]:Str) ((A6 8).2) = some false:=rfl
theorem jO:AX ([115]:Str) ((A6 8).2) = some true:=rfl
theorem jQ:AX ([111]:Str) ((A6 8).2) = some true:=rfl
theorem kp8:JL 8 = true:=rfl
theorem kd8:JK 8 = false:=rfl
theorem kv8:II 8 = some true:=rfl
theorem ki8:Dk 8 1 8 = true:=rfl
theorem kj8:m63 8 1 8 = true:=rfl
theorem k38:((8:Int) != 3) = true:=rfl
theorem FP (path:Str) (d v s4:Int):∃ y,((TS path).bind fun y5=>
     bif y5 != 0 then
      some (LO.ret y5)
     else
      some (LO.norm s4)).bind (Ah (fun s6=>
    (
     bif !(TR d) then
      some (LO.ret 3)
     else
      bif !(Dk v (-1) 999) then
       some (LO.ret 3)
      else
       some (LO.norm s6)).bind (Ah (fun s8=>
     some (0:Int)) (fun i4 s8=>
     none) (fun s8=>
     some s8))) (fun i3 s6=>
    none) (fun s6=>
    some s6)) = some y∧((TU path).bind fun y33=>
  bif y33 != 0 then
   some y33
  else
   (
    bif !(WF d) then
     some (LO.ret 3)
    else
     bif !(m63 v (-1) 999) then
      some (LO.ret 3)
     else
      some (LO.norm s4)).bind (Ah (fun s6=>
    some (0:Int)) (fun i3 s6=>
    none) (fun s6=>
    some s6))) = some y:=by
 rw [TD,TE,in1,in2,show TR d = inR d 0 9999 from in1 _ _ _,show WF d = inR d 0 9999 from in1 _ _ _]
 simp only [obs]
 cases GQ path != 0
 ·cases inR d 0 9999
  ·exact ⟨_,rfl,rfl⟩
  ·cases inR v (-1) 999 <;> exact ⟨_,rfl,rfl⟩
 ·exact ⟨_,rfl,rfl⟩
theorem VZ (o:TOp):∃ y,NQ o = some y∧OX o = some y∧(y = 0→1≤o.Kind):=by
 by_cases hk:1≤o.Kind∧o.Kind≤8
 rotate_left
 ·have h1:Dk o.Kind 1 8 = false:=by rw [in1]; exact Bool.eq_false_iff.2 fun h=>hk (Bv.1 h)
  have h2:m63 o.Kind 1 8 = false:=by rw [in2]; exact Bool.eq_false_iff.2 fun h=>hk (Bv.1 h)
  refine ⟨1,?_,?_,fun h=>by cases h⟩
  ·unfold NQ; rw [h1]; rfl
  ·unfold OX; rw [h2]; rfl
 suffices h:∃ y,NQ o = some y∧OX o = some y by
  obtain ⟨y,a,b⟩:=h
  exact ⟨y,a,b,fun _=>hk.1⟩
 obtain ⟨k,path,d,v,sq,ow⟩:=o
 unfold NQ OX
 dsimp only at hk ⊢
 have hk8:k = 1∨k = 2∨k = 3∨k = 4∨k = 5∨k = 6∨k = 7∨k = 8:=by omega
 have fin:∀ (d v:Int),(d != 0) = false→(v != 0) = false→TR d = true∧Dk v (-1) 999 = true:=fun d v h1 h2=>by
  have e1:d = 0:=by simpa using h1
  have e2:v = 0:=by simpa using h2
  subst e1; subst e2; exact ⟨rfl,rfl⟩
 rcases hk8 with rfl | rfl | rfl | rfl | rfl | rfl | rfl | rfl
 ·simp only [kT,kV,kR,kS,kU,kp1,kd1,kv1,ki1,kj1,k31,Bool.not_true,Bool.not_false,cond_true,cond_false,obs]
  cases path == ([]:Str)
  ·exact ⟨_,rfl,rfl⟩
  cases h2:d != 0
  rotate_left
  ·exact ⟨_,rfl,rfl⟩
  cases h3:v != 0
  rotate_left
  ·exact ⟨_,rfl,rfl⟩
  cases sq
  rotate_left
  ·exact ⟨_,rfl,rfl⟩
  cases ow
  rotate_left
  ·exact ⟨_,rfl,rfl⟩
  obtain ⟨f1,f2⟩:=fin d v h2 h3
  simp only [Bool.not_true,Bool.not_false,cond_true,cond_false,obs,Ah,f1,f2]
  exact ⟨_,rfl,rfl⟩
 ·simp only [kO,kQ,kM,kN,kP,kp2,kd2,kv2,ki2,kj2,k32,Bool.not_true,Bool.not_false,cond_true,cond_false,obs]
  cases path == ([]:Str)
  ·exact ⟨_,rfl,rfl⟩
  cases h2:d != 0
  rotate_left
  ·exact ⟨_,rfl,rfl⟩
  cases h3:v != 0
  rotate_left
  ·exact ⟨_,rfl,rfl⟩
  cases sq
  rotate_left
  ·exact ⟨_,rfl,rfl⟩
  cases ow
  rotate_left
  ·exact ⟨_,rfl,rfl⟩
  obtain ⟨f1,f2⟩:=fin d v h2 h3
  simp only [Bool.not_true,Bool.not_false,cond_true,cond_false,obs,Ah,f1,f2]
  exact ⟨_,rfl,rfl⟩
 ·simp only [kJ,kL,kH,kI,kK,kp3,kd3,kv3,ki3,kj3,k33,Bool.not_true,Bool.not_false,cond_true,cond_false,obs]
  cases v != 0
  rotate_left
  ·exact ⟨_,rfl,rfl⟩
  simp only [Bool.not_true,Bool.not_false,cond_true,cond_false,obs,Ah]
  exact FP path d v 0
 ·simp only [kE,kG,kC,kD,kF,kp4,kd4,kv4,ki4,kj4,k34,Bool.not_true,Bool.not_false,cond_true,cond_false,obs]
  cases d != 0
  rotate_left
  ·exact ⟨_,rfl,rfl⟩
  cases sq
  rotate_left
  ·exact ⟨_,rfl,rfl⟩
  cases ow
  rotate_left
  ·exact ⟨_,rfl,rfl⟩
  simp only [Bool.not_true,Bool.not_false,cond_true,cond_false,obs,Ah]
  exact FP path d v 0
 ·simp only [j9,kB,j7,j8,kA,kp5,kd5,kv5,ki5,kj5,k35,Bool.not_true,Bool.not_false,cond_true,cond_false,obs]
  cases sq
  rotate_left
  ·exact ⟨_,rfl,rfl⟩
  cases ow
  rotate_left
  ·exact ⟨_,rfl,rfl⟩
  simp only [Bool.not_true,Bool.not_false,cond_true,cond_false,obs,Ah]
  exact FP path d v 0
 ·simp only [jZ,j6,jX,jY,j5,kp6,kd6,kv6,ki6,kj6,k36,Bool.not_true,Bool.not_false,cond_true,cond_false,obs]
  cases d != 0
  rotate_left
  ·exact ⟨_,rfl,rfl⟩
  cases v != 0
  rotate_left
  ·exact ⟨_,rfl,rfl⟩
  cases sq
  rotate_left
  ·exact ⟨_,rfl,rfl⟩
  cases ow
  rotate_left
  ·exact ⟨_,rfl,rfl⟩
  simp only [Bool.not_true,Bool.not_false,cond_true,cond_false,obs,Ah]
  exact FP path d v 0
 ·simp only [jU,jW,jS,jT,jV,kp7,kd7,kv7,ki7,kj7,k37,Bool.not_true,Bool.not_false,cond_true,cond_false,obs]
  cases d != 0
  rotate_left
  ·exact ⟨_,rfl,rfl⟩
  cases v != 0
  rotate_left
  ·exact ⟨_,rfl,rfl⟩
  cases sq
  rotate_left
  ·exact ⟨_,rfl,rfl⟩
  cases ow
  rotate_left
  ·exact ⟨_,rfl,rfl⟩
  simp only [Bool.not_true,Bool.not_false,cond_true,cond_false,obs,Ah]
  exact FP path d v 0
 ·simp only [jP,jR,jN,jO,jQ,kp8,kd8,kv8,ki8,kj8,k38,Bool.not_true,Bool.not_false,cond_true,cond_false,obs]
  cases d != 0
  rotate_left
  ·exact ⟨_,rfl,rfl⟩
  cases sq
  rotate_left
  ·exact ⟨_,rfl,rfl⟩
  cases ow
  rotate_left
  ·exact ⟨_,rfl,rfl⟩
  simp only [Bool.not_true,Bool.not_false,cond_true,cond_false,obs,Ah]
  exact FP path d v 0
noncomputable def FA (o:TOp):Int:=(NQ o).getD 0
theorem op1 (o:TOp):NQ o = some (FA o):=by
 obtain ⟨y,h,_⟩:=VZ o
 unfold FA; rw [h]; rfl
theorem op2 (o:TOp):OX o = some (FA o):=by
 obtain ⟨y,h,k,_⟩:=VZ o
 unfold FA; rw [h,k]; rfl
theorem op3 (o:TOp) (h:FA o = 0):1≤o.Kind:=by
 obtain ⟨y,h1,k,h2⟩:=VZ o
 unfold FA at h; rw [h1] at h
 exact h2 h
noncomputable def HD (o:TOp):Bool:=FA o != 0
def J5 (o:TOp):Bool:=decide (o.Kind≤2)
theorem opsS (r:Ag) (h:r.Ops.length≤3):(r.Ops.any HD = false∧∃ j,Az (GR r) NN (0,0) = some (.exit 0 (0,j))∧Az (GT r) NN (0,0) = some (.exit 1 (0,j)))∨(r.Ops.any HD = true∧∃ y j,Az (GR r) NN (0,0) = some (.ret (y,j))∧Az (GT r) NN (0,0) = some (.ret (y,j))):=by
 have k1:=AG (f:=GR r) (N:=NN) (s0:=(0,0)) (fun i=>(0,(i:Int))) r.Ops.length (pAt HD r.Ops) (fun i=>.ret (((r.Ops[i]?).map FA).getD 0,(i:Int))) (.exit 0 (0,(r.Ops.length:Int))) (fun i hi _ hp=>by
   rw [AQ hi] at hp
   unfold HD at hp
   have hc':(i:Int) < (r.Ops.length:Int):=by omega
   unfold GR
   simp only [hc',decide_true,cond_true,AW hi,obs,op1,hp,cond_false,wi1 (show i≤1099511627776 by omega)]) (fun i hi _ hp=>by
   rw [AQ hi] at hp
   unfold HD at hp
   have hc':(i:Int) < (r.Ops.length:Int):=by omega
   unfold GR
   rw [List.getElem?_eq_getElem hi]
   simp only [hc',decide_true,cond_true,AW hi,obs,op1,hp,Option.map_some,Option.getD_some]
   exact ⟨trivial,rfl⟩) (fun _=>by
   unfold GR
   simp only [Int.lt_irrefl,decide_false,cond_false]
   exact ⟨trivial,rfl⟩) (Bl (by omega)) rfl
 have k2:=AG (f:=GT r) (N:=NN) (s0:=(0,0)) (fun i=>(0,(i:Int))) r.Ops.length (pAt HD r.Ops) (fun i=>.ret (((r.Ops[i]?).map FA).getD 0,(i:Int))) (.exit 1 (0,(r.Ops.length:Int))) (fun i hi _ hp=>by
   rw [AQ hi] at hp
   unfold HD at hp
   have hc':(i:Int) < (r.Ops.length:Int):=by omega
   unfold GT
   simp only [hc',decide_true,cond_true,AW hi,obs,op2,hp,cond_false,wi1 (show i≤1099511627776 by omega)]) (fun i hi _ hp=>by
   rw [AQ hi] at hp
   unfold HD at hp
   have hc':(i:Int) < (r.Ops.length:Int):=by omega
   unfold GT
   rw [List.getElem?_eq_getElem hi]
   simp only [hc',decide_true,cond_true,AW hi,obs,op2,hp,Option.map_some,Option.getD_some]
   exact ⟨trivial,rfl⟩) (fun _=>by
   unfold GT
   simp only [Int.lt_irrefl,decide_false,cond_false]
   exact ⟨trivial,rfl⟩) (Bl (by omega)) rfl
 rw [k1,k2,← C0]
 cases BN (pAt HD r.Ops) r.Ops.length
 ·exact .inl ⟨rfl,_,rfl,rfl⟩
 ·exact .inr ⟨rfl,_,_,rfl,rfl⟩
theorem jD (r:Ag) (h:r.Ops.length≤3) (hl:(r.Ops.length:Int) > 1):∃ s,Az (Gq r) NN (0,0) = some (bif r.Ops.any J5 then .ret (1,s) else .exit 2 (0,s)):=by
 rw [AG (f:=Gq r) (N:=NN) (s0:=(0,0)) (fun i=>(0,(i:Int))) r.Ops.length (pAt J5 r.Ops) (fun i=>.ret (1,(i:Int))) (.exit 2 (0,(r.Ops.length:Int))) (fun i hi _ hp=>by
   rw [AQ hi] at hp
   unfold J5 at hp
   have hc':(i:Int) < (r.Ops.length:Int):=by omega
   unfold Gq
   simp only [hc',hl,decide_true,cond_true,AW hi,obs,Ah,hp,cond_false,wi1 (show i≤1099511627776 by omega)]) (fun i hi _ hp=>by
   rw [AQ hi] at hp
   unfold J5 at hp
   have hc':(i:Int) < (r.Ops.length:Int):=by omega
   unfold Gq
   simp only [hc',hl,decide_true,cond_true,AW hi,obs,Ah,hp]
   exact ⟨trivial,rfl⟩) (fun _=>by
   unfold Gq
   simp only [Int.lt_irrefl,decide_false,cond_false,obs,Ah]
   exact ⟨trivial,rfl⟩) (Bl (by omega)) rfl,← C0]
 cases BN (pAt J5 r.Ops) r.Ops.length <;> exact ⟨_,rfl⟩
theorem V8 (r:Ag):∃ y,m68 r = some y∧m55 r = some y:=by
 unfold m68 m55
 rw [FW,FW]
 simp only [obs,Ah]
 rw [show YT r.Client = inR r.Client 1 9 from in1 _ _ _,show m98 r.Client = inR r.Client 1 9 from in1 _ _ _,in1,in2,show YS r.Time = inR r.Time 0 9000 from in1 _ _ _,show m99 r.Time = inR r.Time 0 9000 from in1 _ _ _,in2]
 cases (!inR r.Client 1 9 || (!inR r.Number 1 99 || !inR r.Time 0 9000))
 rotate_left
 ·exact ⟨_,rfl,rfl⟩
 simp only [cond_false,obs,Ah]
 by_cases h1:(r.Ops.length:Int) < 1
 ·have e:inR (r.Ops.length:Int) 1 3 = false:=Bool.eq_false_iff.2 fun h=>by have:=Bv.1 h; omega
  simp only [h1,e,decide_true,cond_true,Bool.not_false,obs,Ah]
  exact ⟨_,rfl,rfl⟩
 by_cases h2:(r.Ops.length:Int) > 3
 ·have e:inR (r.Ops.length:Int) 1 3 = false:=Bool.eq_false_iff.2 fun h=>by have:=Bv.1 h; omega
  simp only [h1,h2,e,decide_true,decide_false,cond_true,cond_false,Bool.not_false,obs,Ah]
  exact ⟨_,rfl,rfl⟩
 have e:inR (r.Ops.length:Int) 1 3 = true:=Bv.2 ⟨by omega,by omega⟩
 simp only [h1,h2,e,decide_false,cond_false,Bool.not_true,obs,Ah]
 rcases opsS r (by omega) with ⟨g,j,k1,k2⟩ | ⟨g,y,j,k1,k2⟩
 rotate_left
 ·rw [k1,k2]; exact ⟨_,rfl,rfl⟩
 rw [k1,k2]
 simp only [obs,Ah,if_true]
 by_cases hl:(r.Ops.length:Int) > 1
 rotate_left
 ·have hx:Az (Gq r) NN (0,0) = some (.exit 2 (0,0)):=by
   refine EU (by have:=Bl (n:=0) (by omega); omega) ?_ rfl
   unfold Gq
   have h0:(0:Int) < (r.Ops.length:Int):=by omega
   simp only [h0,hl,decide_true,decide_false,cond_true,cond_false,obs,Ah]
  rw [hx]
  simp only [hl,decide_false,cond_false,obs,Ah,if_true]
  exact ⟨_,rfl,rfl⟩
 obtain ⟨s,hs⟩:=jD r (by omega) hl
 rw [hs]
 have e3:YX r.Ops (fun x0_=>some (QD x0_)) = some (r.Ops.any J5):=G0 (Bl (by omega)) (BS (by omega)) (fun o ho=>by
  congr 1
  have h0:FA o = 0:=by
   rw [List.any_eq_false] at g
   have:=g o ho
   unfold HD at this
   simpa using this
  have h1:=op3 o h0
  unfold QD J5
  by_cases e1:o.Kind = 1
  ·rw [e1]; rfl
  ·by_cases e2:o.Kind = 2
   ·rw [e2]; rfl
   ·have e4:(o.Kind == 1) = false:=by simpa using e1
    have e5:(o.Kind == 2) = false:=by simpa using e2
    rw [e4,e5]
    symm
    exact decide_eq_false (by omega))
 simp only [hl,decide_true,cond_true,e3,obs]
 cases r.Ops.any J5 <;> exact ⟨_,rfl,rfl⟩
noncomputable def Cm (r:Ag):Int:=(m68 r).getD 0
theorem iL (r:Ag):m68 r = some (Cm r):=by
 obtain ⟨y,h,_⟩:=V8 r
 unfold Cm; rw [h]; rfl
theorem dC (r:Ag):m55 r = some (Cm r):=by
 obtain ⟨y,h,k⟩:=V8 r
 unfold Cm; rw [h,k]; rfl
open Go Go.Rf
def E0 (y x:Ag):Bool:=(x.Client == y.Client) && (x.Number == y.Number)
theorem Px {α:Type} {q:α→Bool} {xs:List α} {i:Nat} (h:i < xs.length) (hq:q xs[i] = true):(ixI (BN (pAt q xs) xs.length) != (i:Int)) = (xs.take i).any q:=by
 cases hm:(xs.take i).any q
 ·rw [List.any_eq_false] at hm
  rw [B7 h (fun j hj=>by
   rw [AQ (by omega)]
   have:=hm xs[j] (List.mem_iff_getElem.2 ⟨j,by rw [List.length_take]; omega,by rw [List.getElem_take]⟩)
   simpa using this) (by rw [AQ h]; exact hq)]
  simp [ixI]
 ·rw [List.any_eq_true] at hm
  obtain ⟨x,hx,hqx⟩:=hm
  obtain ⟨j,hj,e⟩:=List.mem_iff_getElem.1 hx
  rw [List.length_take] at hj
  rw [List.getElem_take] at e
  rcases BF (pAt q xs) xs.length with h' | ⟨k,h1,h2,h3⟩
  ·have:=h' j (by omega)
   rw [AQ (by omega),e,hqx] at this
   cases this
  ·rw [B7 h1 h2 h3]
   have hk:k≤j:=by
    rcases Nat.lt_or_ge j k with hlt | hge
    ·have:=h2 j hlt
     rw [AQ (by omega),e,hqx] at this
     cases this
    ·exact hge
   simp only [ixI,bne_iff_ne,ne_eq]
   omega
theorem PW (xs:List Ag) (y:Ag) (h:xs.length≤1048576):m69 xs y.Client y.Number = some (ixI (BN (pAt (E0 y) xs) xs.length)):=by
 unfold m69
 rw [AG (f:=Jj xs y.Client y.Number) (s0:=(0,0)) (fun i=>(0,(i:Int))) xs.length (pAt (E0 y) xs) (fun i=>.ret ((i:Int),(i:Int))) (.exit 0 (0,(xs.length:Int))) (fun i hi _ hp=>?_) (fun i hi _ hp=>?_) (fun _=>?_) (Bl h) rfl]
 ·cases BN (pAt (E0 y) xs) xs.length <;> rfl
 ·rw [AQ hi] at hp
  unfold E0 at hp
  have hc':(i:Int) < (xs.length:Int):=by omega
  unfold Jj
  simp only [hc',decide_true,cond_true,AW hi,obs]
  cases h1:xs[i].Client == y.Client
  ·simp only [cond_false,obs,Ah,wi1 (show i≤1099511627776 by omega)]
  ·rw [h1,Bool.true_and] at hp
   simp only [cond_true,hp,cond_false,obs,Ah,wi1 (show i≤1099511627776 by omega)]
 ·rw [AQ hi] at hp
  unfold E0 at hp
  rw [Bool.and_eq_true] at hp
  have hc':(i:Int) < (xs.length:Int):=by omega
  unfold Jj
  simp only [hc',decide_true,cond_true,AW hi,obs,hp.1,hp.2,Ah]
  exact ⟨trivial,rfl⟩
 ·unfold Jj
  simp only [Int.lt_irrefl,decide_false,cond_false]
  exact ⟨trivial,rfl⟩
theorem K6 (xs:List Ag) (y:Ag) (h:xs.length≤1048576):m56 xs y = some (ixI (BN (pAt (E0 y) xs) xs.length)):=by
 unfold m56
 rw [show YW xs (fun x0_=>some (QC x0_ y)) = some (ixI (BN (pAt (E0 y) xs) xs.length)) from Ih (Bl h) (BS h) (fun x _=>by
  congr 1
  unfold QC E0
  cases x.Client == y.Client <;> rfl)]
 rfl
noncomputable def Eg (xs:List Ag) (i:Nat):Bool:=(xs[i]?).any fun x=>(Cm x != 0) || (xs.take i).any (E0 x)
noncomputable def IY (xs:List Ag) (i:Nat):Int:=match xs[i]? with
 | some x=>bif Cm x != 0 then Cm x else 6
 | none=>0
theorem Dx {xs:List Ag} {i:Nat} (h:i < xs.length):Eg xs i = ((Cm xs[i] != 0) || (xs.take i).any (E0 xs[i])):=by
 unfold Eg; rw [List.getElem?_eq_getElem h]; rfl
theorem HO {xs:List Ag} {i:Nat} (h:i < xs.length):IY xs i = (bif Cm xs[i] != 0 then Cm xs[i] else 6):=by
 unfold IY; rw [List.getElem?_eq_getElem h]
noncomputable def D9 (xs:List Ag):Int:=orF (BN (Eg xs) xs.length) (IY xs) 0
theorem K4 (x:Ag):E0 x x = true:=by simp [E0]
theorem Tm (c:Aa) (h:c.Requests.length≤12):(Az (HW c) NN (0,0)).bind (Ah (fun _=>none) (fun i1 s2=>
      if i1 = 0 then
       some 0
      else
       none) (fun s2=>
      some s2.1)) = some (D9 c.Requests):=by
 rw [AG (f:=HW c) (s0:=(0,0)) (fun i=>(0,(i:Int))) c.Requests.length (Eg c.Requests) (fun i=>.ret (IY c.Requests i,(i:Int))) (.exit 0 (0,(c.Requests.length:Int))) (fun i hi _ hp=>?_) (fun i hi _ hp=>?_) (fun _=>?_) (Bl (by omega)) rfl]
 ·unfold D9
  cases BN (Eg c.Requests) c.Requests.length <;> rfl
 ·rw [Dx hi,Bool.or_eq_false_iff] at hp
  have hc':(i:Int) < (c.Requests.length:Int):=by omega
  unfold HW
  simp only [hc',decide_true,cond_true,AW hi,obs,iL,hp.1,cond_false,PW c.Requests c.Requests[i] (by omega),Px hi (K4 _),hp.2,wi1 (show i≤1099511627776 by omega)]
 ·rw [Dx hi] at hp
  rw [HO hi]
  have hc':(i:Int) < (c.Requests.length:Int):=by omega
  unfold HW
  simp only [hc',decide_true,cond_true,AW hi,obs,iL,PW c.Requests c.Requests[i] (by omega),Px hi (K4 _)]
  cases h1:Cm c.Requests[i] != 0
  ·rw [h1,Bool.false_or] at hp
   rw [hp]; exact ⟨rfl,rfl⟩
  ·exact ⟨rfl,rfl⟩
 ·unfold HW
  simp only [Int.lt_irrefl,decide_false,cond_false]
  exact ⟨trivial,rfl⟩
theorem Tn (c:Aa) (h:c.Requests.length≤12):(Az (HY c) NN (0,0)).bind (Ah (fun _=>none) (fun i4 s8=>
          if i4 = 4 then
           some 0
          else
           none) (fun s8=>
          some s8.1)) = some (D9 c.Requests):=by
 rw [AG (f:=HY c) (s0:=(0,0)) (fun i=>(0,(i:Int))) c.Requests.length (Eg c.Requests) (fun i=>.ret (IY c.Requests i,(i:Int))) (.exit 4 (0,(c.Requests.length:Int))) (fun i hi _ hp=>?_) (fun i hi _ hp=>?_) (fun _=>?_) (Bl (by omega)) rfl]
 ·unfold D9
  cases BN (Eg c.Requests) c.Requests.length <;> rfl
 ·rw [Dx hi,Bool.or_eq_false_iff] at hp
  have hc':(i:Int) < (c.Requests.length:Int):=by omega
  unfold HY
  simp only [hc',decide_true,cond_true,AW hi,obs,dC,hp.1,cond_false,Ef (Nat.le_of_lt hi),K6 (c.Requests.take i) c.Requests[i] (by rw [List.length_take]; omega),GX,C0,hp.2,wi1 (show i≤1099511627776 by omega)]
 ·rw [Dx hi] at hp
  rw [HO hi]
  have hc':(i:Int) < (c.Requests.length:Int):=by omega
  unfold HY
  simp only [hc',decide_true,cond_true,AW hi,obs,dC,Ef (Nat.le_of_lt hi),K6 (c.Requests.take i) c.Requests[i] (by rw [List.length_take]; omega),GX,C0]
  cases h1:Cm c.Requests[i] != 0
  ·rw [h1,Bool.false_or] at hp
   rw [hp]; exact ⟨rfl,rfl⟩
  ·exact ⟨rfl,rfl⟩
 ·unfold HY
  simp only [Int.lt_irrefl,decide_false,cond_false]
  exact ⟨trivial,rfl⟩
noncomputable def Fv (c:Aa) (r:Af):Bool:=BV c.F c.Ledger r != 0
noncomputable def Ht (c:Aa) (i:Nat):Int:=((c.Replicas[i]?).map (BV c.F c.Ledger)).getD 0
noncomputable def JR (c:Aa):Option Nat:=BN (pAt (Fv c) c.Replicas) c.Replicas.length
theorem To (c:Aa) (H:BJ c.F c.Ledger) (hr:c.Replicas.length≤1048576):Az (HV c) NN (0,0) = some (orF (JR c) (fun i=>.ret (Ht c i,(i:Int))) (.exit 2 (0,(c.Replicas.length:Int)))):=by
 exact AG (f:=HV c) (s0:=(0,0)) (fun i=>(0,(i:Int))) c.Replicas.length (pAt (Fv c) c.Replicas) (fun i=>.ret (Ht c i,(i:Int))) (.exit 2 (0,(c.Replicas.length:Int))) (fun i hi _ hp=>by
  rw [AQ hi] at hp
  unfold Fv at hp
  have hc':(i:Int) < (c.Replicas.length:Int):=by omega
  unfold HV
  simp only [hc',decide_true,cond_true,AW hi,obs,O9 H,hp,cond_false,wi1 (show i≤1099511627776 by omega)]) (fun i hi _ hp=>by
  rw [AQ hi] at hp
  unfold Fv at hp
  have hc':(i:Int) < (c.Replicas.length:Int):=by omega
  unfold HV Ht
  rw [List.getElem?_eq_getElem hi]
  simp only [hc',decide_true,cond_true,AW hi,obs,O9 H,hp,Option.map_some,Option.getD_some]
  exact ⟨trivial,rfl⟩) (fun _=>by
  unfold HV
  simp only [Int.lt_irrefl,decide_false,cond_false]
  exact ⟨trivial,rfl⟩) (Bl hr) rfl
theorem Tq (c:Aa) (H:BJ c.F c.Ledger) (hr:c.Replicas.length≤1048576):Az (HZ c (Ey c.F c.Ledger)) NN (0,0) = some (orF (JR c) (fun i=>.ret (Ht c i,(i:Int))) (.exit 2 (0,(c.Replicas.length:Int)))):=by
 exact AG (f:=HZ c (Ey c.F c.Ledger)) (s0:=(0,0)) (fun i=>(0,(i:Int))) c.Replicas.length (pAt (Fv c) c.Replicas) (fun i=>.ret (Ht c i,(i:Int))) (.exit 2 (0,(c.Replicas.length:Int))) (fun i hi _ hp=>by
  rw [AQ hi] at hp
  unfold Fv at hp
  have hc':(i:Int) < (c.Replicas.length:Int):=by omega
  unfold HZ
  simp only [hc',decide_true,cond_true,AW hi,obs,OB H,hp,cond_false,wi1 (show i≤1099511627776 by omega)]) (fun i hi _ hp=>by
  rw [AQ hi] at hp
  unfold Fv at hp
  have hc':(i:Int) < (c.Replicas.length:Int):=by omega
  unfold HZ Ht
  rw [List.getElem?_eq_getElem hi]
  simp only [hc',decide_true,cond_true,AW hi,obs,OB H,hp,Option.map_some,Option.getD_some]
  exact ⟨trivial,rfl⟩) (fun _=>by
  unfold HZ
  simp only [Int.lt_irrefl,decide_false,cond_false]
  exact ⟨trivial,rfl⟩) (Bl hr) rfl
theorem oO {L:List Int} {k:Int} (h:L.length≤1048576):B0 8 L [k] = some (L++[k]):=by
 unfold B0
 rw [if_pos (by simp; omega)]
theorem eJ (c:Aa) (hr:c.Replicas.length≤1048576):Az (Jn c) NN (0,[]) = some (.exit 0 ((c.Replicas.length:Int),c.Replicas.map (·.Id))):=by
 rw [Dv (f:=Jn c) (s0:=(0,[])) (fun i=>((i:Int),(c.Replicas.take i).map (·.Id))) c.Replicas.length (.exit 0 ((c.Replicas.length:Int),(c.Replicas.take c.Replicas.length).map (·.Id))) (fun i hi=>?_) ?_ rfl (Bl hr) rfl]
 ·rw [List.take_length]
 ·unfold Jn
  simp only [Int.lt_irrefl,decide_false,cond_false]
 ·have hc':(i:Int) < (c.Replicas.length:Int):=by omega
  unfold Jn
  simp only [hc',decide_true,cond_true,AW hi,obs,oO (show ((c.Replicas.take i).map (·.Id)).length≤1048576 by simp; omega),wi1 (show i≤1099511627776 by omega)]
  rw [E7 hi,List.map_append]
  rfl
structure JG (c:Aa):Prop where
 led:BJ c.F c.Ledger
 badl:(c.Bad.length:Int)≤c.F
 reql:c.Requests.length≤12
 bad:F6 c.F c.Bad = 0
 ids:c.Replicas.map (·.Id) = CN c.F c.Bad
 reps:∀ r∈c.Replicas,BV c.F c.Ledger r = 0
structure HA (c:Aa):Prop extends JG c where
 cl:Hh c.F c.Ledger = 0
 reqs:D9 c.Requests = 0
theorem MJ {c:Aa} (F:HA c):JR c = none:=by
 unfold JR
 refine BM fun i hi=>?_
 rw [AQ hi]
 unfold Fv
 rw [F.reps _ (List.getElem_mem hi)]; rfl
theorem Nu {c:Aa} (g:Eu c) (F:HA c) (W:ZJ c.F c.Ledger):m22 c = some 0:=by
 have H:=F.led
 have e1:¬ (c.Requests.length:Int) > 12:=by have:=F.reql; omega
 have e2:¬ (c.Bad.length:Int) > c.F:=by have:=F.badl; omega
 have e0:((0:Int) != 0) = false:=rfl
 unfold m22
 rw [Xb _ _ g.led g.msg,F.cl]
 simp only [obs,e0,cond_false,e1,e2,decide_false,Ah,Me _ _ g.bad,F.bad,eJ c g.rep,if_true]
 rw [J4 H.f12 _ g.bad,obs,SB _ _ (by rw [List.length_map]; exact g.rep),obs,decide_eq_true F.ids]
 simp only [Bool.not_true,cond_false]
 rw [OZ H W,obs,Tq c H g.rep,MJ F]
 simp only [orF,obs,Ah,if_true]
 rw [Tn c F.reql,F.reqs]
theorem Us {c:Aa} (g:Eu c) (F:HA c):m28 c = some 0:=by
 have H:=F.led
 have e1:¬ (c.Requests.length:Int) > 12:=by have:=F.reql; omega
 have e2:¬ (c.Bad.length:Int) > c.F:=by have:=F.badl; omega
 have e0:((0:Int) != 0) = false:=rfl
 unfold m28
 rw [Xa _ _ g.led g.msg,F.cl]
 simp only [obs,e0,cond_false,e1,decide_false]
 rw [XN _ _ g.bad,decide_eq_false e2,F.bad]
 simp only [obs,e0,cond_false]
 unfold m67
 rcases Tt c H.f12 g.bad g.rep with ⟨h1,j,h2⟩ | ⟨h1,h2⟩
 rotate_left
 ·exact absurd F.ids h1
 rw [h2]
 simp only [obs,Ah,if_true,bne_self_eq_false,cond_false]
 rw [To c H g.rep,MJ F]
 simp only [orF,obs,Ah,if_true,e0,cond_false]
 rw [Tm c F.reql,F.reqs]
end Go.Proofs.YtjlecnhninhmnaaGreatDoor
