/- Ledgers that are drawn: what is needed first. -/
import Derived.Test.YtkbdneigeghbaaaDoorW1
import Derived.Test.YtkbdneigeghbaaaDoorRh3
import Derived.Test.YtkbdneigeghbaaaDoorRh6
import Derived.Test.YtkbdneigeghbaaaDoorRh11
namespace Go.Proofs.YtkbdneigeghbaaaDoor
theorem obs {α β:Type} {x:α} {f:α→Option β}:(some x).bind f = f x:=rfl
open Go Go.Rf
set_option linter.unusedVariables false
set_option linter.unusedSimpArgs false
theorem NN_eq:NN = 9223372036854775808:=by unfold NN maxLen; rfl
theorem NN_l {n:Nat} (h:n≤1048576):n < NN:=by rw [NN_eq]; omega
def goodMsg (m:TMsg):Prop:=m.Certs.length≤1048576∧m.Refs.length≤1048576
theorem big_l {n:Nat} (h:n≤1048576):n≤big:=by unfold big; omega
open Go Go.Rf
set_option linter.unusedVariables false
set_option linter.unusedSimpArgs false
def inR (n lo hi:Int):Bool:=decide (lo≤n∧n≤hi)
theorem in1 (n lo hi:Int):m54 n lo hi = inR n lo hi:=by
 unfold m54 inR
 by_cases h:n ≥ lo
 ·simp [h]
 ·simp [h]
theorem in2 (n lo hi:Int):m41 n lo hi = inR n lo hi:=in1 n lo hi
theorem slotted_in (k:Int):m30 k = inR k 1 3:=in1 _ _ _
theorem view_in (k:Int):m42 k = inR k 0 20:=in1 _ _ _
theorem slot_in (k:Int):m43 k = inR k 1 30:=in1 _ _ _
theorem value_in (k:Int):m44 k = inR k 0 12:=in1 _ _ _
def manyI (f:Int):Int:=wi .i64 ((wi .i64 (3 * f)) + 1)
theorem repl_in (f k:Int):m28 f k = inR k 1 (manyI f):=in1 _ _ _
theorem id_in (f k:Int):m55 f k = inR k 1 (manyI f):=in1 _ _ _
theorem tr_bare1 (a b c d e f g h:Bool):(bif !a then
    some (LO.norm true)
   else
    bif !b then
     bif c then
      some (LO.norm true)
     else
      bif d then
       some (LO.norm true)
      else
       bif e then
        bif f then
         some (LO.norm true)
        else
         bif g then
          some (LO.norm h)
         else
          some (LO.norm false)
       else
        bif g then
         some (LO.norm h)
        else
         some (LO.norm false)
    else
     bif e then
      bif f then
       some (LO.norm true)
      else
       bif g then
        some (LO.norm h)
       else
        some (LO.norm false)
     else
      bif g then
       some (LO.norm h)
      else
       some (LO.norm false)) = some (LO.norm (!((a && (b || (!c && !d))) && ((!e || !f) && (!g || !h))))):=by
 cases a <;> cases b <;> cases c <;> cases d <;> cases e <;> cases f <;> cases g <;> cases h <;> rfl
theorem tr_bare2 (a b c d e f g h:Bool):(bif a then
   bif b then
    bif e then
     bif g then
      some (LO.norm true)
     else
      some (LO.norm h)
    else
     bif f then
      bif g then
       some (LO.norm true)
      else
       some (LO.norm h)
     else
      some (LO.norm false)
   else
    bif c then
     bif d then
      bif e then
       bif g then
        some (LO.norm true)
       else
        some (LO.norm h)
      else
       bif f then
        bif g then
         some (LO.norm true)
        else
         some (LO.norm h)
       else
        some (LO.norm false)
     else
      some (LO.norm false)
    else
     some (LO.norm false)
  else
   some (LO.norm false)) = some (LO.norm ((a && (b || (c && d))) && ((e || f) && (g || h)))):=by
 cases a <;> cases b <;> cases c <;> cases d <;> cases e <;> cases f <;> cases g <;> cases h <;> rfl
theorem tr_rng (a b c d e:Bool):(bif !a then
      some (LO.norm true)
     else
      bif !b then
       some (LO.norm true)
      else
       bif c then
        bif !d then
         some (LO.norm true)
        else
         some (LO.norm (!e))
       else
        some (LO.norm false)) = some (LO.norm (!a || (!b || (c && (!d || !e))))):=by
 cases a <;> cases b <;> cases c <;> cases d <;> cases e <;> rfl
theorem tr_cert (a b c:Bool):(bif !a then
     some (LO.norm true)
    else
     bif !b then
      some (LO.norm true)
     else
      some (LO.norm (!c))) = some (LO.norm (!a || (!b || !c))):=by
 cases a <;> cases b <;> cases c <;> rfl
def bareB (m:TMsg):Bool:=(inR m.Kind 1 5 && (inR m.Kind 1 3 || ((m.Slot == 0) && (m.Value == 0)))) && (((m.Kind == 4) || ((m.Certs.length:Int) == 0)) && ((m.Kind == 5) || ((m.Refs.length:Int) == 0)))
def rangeB (f:Int) (m:TMsg):Bool:=!inR m.View 0 20 || (!inR m.From 1 (manyI f) || (inR m.Kind 1 3 && (!inR m.Slot 1 30 || !inR m.Value 0 12)))
def certBad (v:Int) (c:TCert):Bool:=!inR c.Slot 1 30 || (!inR c.View 0 (wi .i64 (v - 1)) || !inR c.Value 0 12)
def dropS (xs:List Int) (i:Nat):Bool:=decide (0 < i) && decide (A xs i≤A xs (i - 1))
def riseB (xs:List Int):Bool:=(fstN (dropS xs) xs.length).isNone
def refBad (r:Int):Bool:=!inR r 0 239
noncomputable def codeM (f:Int) (m:TMsg):Int:=bif bareB m then bif rangeB f m then 3 else bif decide ((m.Certs.length:Int) > 30) then 2 else bif decide ((m.Refs.length:Int) > manyI f) then 2 else bif riseB (m.Certs.map (·.Slot)) then bif riseB m.Refs then bif m.Certs.any (certBad m.View) then 3 else bif m.Refs.any refBad then 3 else 0 else 1 else 1 else 1
theorem A_map {α:Type} {g:α→Int} {cs:List α} {i:Nat} (h:i < cs.length):A (cs.map g) i = g cs[i]:=by simp [A,h]
theorem wi_pred {i:Nat} (h0:0 < i) (h:i≤big):wi .i64 ((i:Int) - 1) = ((i - 1:Nat):Int):=by
 unfold big at h
 rw [wi64 (by omega) (by omega)]; omega
theorem fst_shift {p:Nat→Bool} (n:Nat) (h0:p 0 = false):(fstN (fun i=>p (i + 1)) (n - 1)).isNone = (fstN p n).isNone:=by
 rw [Bool.eq_iff_iff,Option.isNone_iff_eq_none,Option.isNone_iff_eq_none,fst_none_iff,fst_none_iff]
 constructor
 ·intro h j hj
  cases j with
  | zero=>exact h0
  | succ j=>exact h j (by omega)
 ·intro h j hj; exact h (j + 1) (by omega)
theorem orF_none {β:Type} {x:Option Nat} {out:Nat→β} {fin:β} (h:x.isNone = true):orF x out fin = fin:=by
 cases x
 ·rfl
 ·cases h
theorem orF_some {β:Type} {x:Option Nat} {out:Nat→β} {fin:β} (h:x.isNone = false):∃ i,orF x out fin = out i:=by
 cases x
 ·cases h
 ·exact ⟨_,rfl⟩
theorem riseC1 (m:TMsg) (hg:goodMsg m) (s:Int):∃ j,loopO (ms19_0 m) NN (s,0) = some (bif riseB (m.Certs.map (·.Slot)) then .exit 1 (s,j) else .ret (1,j)):=by
 rw [loop_first (f:=ms19_0 m) (s0:=(s,0)) (fun i=>(s,(i:Int))) m.Certs.length (dropS (m.Certs.map (·.Slot))) (fun i=>.ret (1,(i:Int))) (.exit 1 (s,(m.Certs.length:Int))) (fun i hi _ hp=>?_) (fun i hi _ hp=>?_) (fun _=>?_) (NN_l hg.1) rfl]
 ·unfold riseB
  rw [List.length_map]
  cases h:(fstN (dropS (m.Certs.map (·.Slot))) m.Certs.length).isNone
  ·obtain ⟨i,hi⟩:=orF_some (out:=fun i=>LO.ret ((1:Int),(i:Int))) (fin:=.exit 1 (s,(m.Certs.length:Int))) h
   exact ⟨_,by rw [hi]; rfl⟩
  ·exact ⟨_,by rw [orF_none h]; rfl⟩
 ·have hc':(i:Int) < (m.Certs.length:Int):=by omega
  have hb:i≤big:=Nat.le_trans (Nat.le_of_lt hi) (big_l hg.1)
  unfold ms19_0
  simp only [hc',decide_true,cond_true,getN hi,obs]
  by_cases h0:0 < i
  ·have h0':(i:Int) > 0:=by omega
   unfold dropS at hp
   rw [A_map hi,A_map (show i - 1 < m.Certs.length by omega),decide_eq_true h0,Bool.true_and] at hp
   simp only [h0',decide_true,cond_true,wi_pred h0 hb,getN (show i - 1 < m.Certs.length by omega),obs,hp,cond_false,contO,wi1 hb]
  ·have h0':¬ (i:Int) > 0:=by omega
   simp only [h0',decide_false,cond_false,obs,contO,wi1 hb]
 ·have hc':(i:Int) < (m.Certs.length:Int):=by omega
  have hb:i≤big:=Nat.le_trans (Nat.le_of_lt hi) (big_l hg.1)
  unfold ms19_0
  unfold dropS at hp
  rw [Bool.and_eq_true,A_map hi,A_map (show i - 1 < m.Certs.length by omega)] at hp
  have h0:0 < i:=of_decide_eq_true hp.1
  have h0':(i:Int) > 0:=by omega
  simp only [hc',decide_true,cond_true,getN hi,obs,h0',wi_pred h0 hb,getN (show i - 1 < m.Certs.length by omega),hp.2,contO]
  exact ⟨trivial,rfl⟩
 ·unfold ms19_0
  simp only [Int.lt_irrefl,decide_false,cond_false]
  exact ⟨trivial,rfl⟩
theorem riseR1 (m:TMsg) (hg:goodMsg m) (s:Int):∃ j,loopO (ms19_1 m) NN (s,0) = some (bif riseB m.Refs then .exit 3 (s,j) else .ret (1,j)):=by
 rw [loop_first (f:=ms19_1 m) (s0:=(s,0)) (fun i=>(s,(i:Int))) m.Refs.length (dropS m.Refs) (fun i=>.ret (1,(i:Int))) (.exit 3 (s,(m.Refs.length:Int))) (fun i hi _ hp=>?_) (fun i hi _ hp=>?_) (fun _=>?_) (NN_l hg.2) rfl]
 ·unfold riseB
  cases h:(fstN (dropS m.Refs) m.Refs.length).isNone
  ·obtain ⟨i,hi⟩:=orF_some (out:=fun i=>LO.ret ((1:Int),(i:Int))) (fin:=.exit 3 (s,(m.Refs.length:Int))) h
   exact ⟨_,by rw [hi]; rfl⟩
  ·exact ⟨_,by rw [orF_none h]; rfl⟩
 ·have hc':(i:Int) < (m.Refs.length:Int):=by omega
  have hb:i≤big:=Nat.le_trans (Nat.le_of_lt hi) (big_l hg.2)
  unfold ms19_1
  simp only [hc',decide_true,cond_true,getN hi,obs]
  by_cases h0:0 < i
  ·have h0':(i:Int) > 0:=by omega
   unfold dropS at hp
   rw [A_get hi,A_get (show i - 1 < m.Refs.length by omega),decide_eq_true h0,Bool.true_and] at hp
   simp only [h0',decide_true,cond_true,wi_pred h0 hb,getN (show i - 1 < m.Refs.length by omega),obs,hp,cond_false,contO,wi1 hb]
  ·have h0':¬ (i:Int) > 0:=by omega
   simp only [h0',decide_false,cond_false,obs,contO,wi1 hb]
 ·have hc':(i:Int) < (m.Refs.length:Int):=by omega
  have hb:i≤big:=Nat.le_trans (Nat.le_of_lt hi) (big_l hg.2)
  unfold ms19_1
  unfold dropS at hp
  rw [Bool.and_eq_true,A_get hi,A_get (show i - 1 < m.Refs.length by omega)] at hp
  have h0:0 < i:=of_decide_eq_true hp.1
  have h0':(i:Int) > 0:=by omega
  simp only [hc',decide_true,cond_true,getN hi,obs,h0',wi_pred h0 hb,getN (show i - 1 < m.Refs.length by omega),hp.2,contO]
  exact ⟨trivial,rfl⟩
 ·unfold ms19_1
  simp only [Int.lt_irrefl,decide_false,cond_false]
  exact ⟨trivial,rfl⟩
theorem wi_suc {i:Nat} (h:i≤1048576):wi .i64 ((i:Int) + 1 + 1) = ((i + 1:Nat):Int) + 1:=by rw [wi64 (by omega) (by omega)]; omega
theorem wi_psuc {i:Nat} (h:i≤1048576):wi .i64 ((i:Int) + 1 - 1) = (i:Int):=by rw [wi64 (by omega) (by omega)]; omega
theorem riseC2 (m:TMsg) (hg:goodMsg m) (s:Int):∃ j,loopO (ms56_0 m) NN (s,1) = some (bif riseB (m.Certs.map (·.Slot)) then .exit 0 (s,j) else .ret (1,j)):=by
 have hg1:=hg.1
 rw [loop_first (f:=ms56_0 m) (s0:=(s,1)) (fun i=>(s,(i:Int) + 1)) (m.Certs.length - 1) (fun i=>dropS (m.Certs.map (·.Slot)) (i + 1)) (fun i=>.ret (1,(i:Int) + 1)) (.exit 0 (s,((m.Certs.length - 1:Nat):Int) + 1)) (fun i hi _ hp=>?_) (fun i hi _ hp=>?_) (fun _=>?_) (NN_l (by omega)) rfl]
 ·unfold riseB
  rw [List.length_map,← fst_shift m.Certs.length (p:=dropS (m.Certs.map (·.Slot))) (by simp [dropS])]
  cases h:(fstN (fun i=>dropS (m.Certs.map (·.Slot)) (i + 1)) (m.Certs.length - 1)).isNone
  ·obtain ⟨i,hi⟩:=orF_some (out:=fun i=>LO.ret ((1:Int),(i:Int) + 1)) (fin:=.exit 0 (s,((m.Certs.length - 1:Nat):Int) + 1)) h
   exact ⟨_,by rw [hi]; rfl⟩
  ·exact ⟨_,by rw [orF_none h]; rfl⟩
 ·have hc':(i:Int) + 1 < (m.Certs.length:Int):=by omega
  have h1:i + 1 < m.Certs.length:=by omega
  have g1:getI m.Certs ((i:Int) + 1) = some m.Certs[i + 1]:=getN (i:=i + 1) h1
  unfold ms56_0
  unfold dropS at hp
  rw [A_map h1,A_map (show i + 1 - 1 < m.Certs.length by omega)] at hp
  simp only [Nat.add_sub_cancel,Nat.zero_lt_succ,decide_true,Bool.true_and] at hp
  simp only [hc',decide_true,cond_true,g1,wi_psuc (show i≤1048576 by omega),getN (show i < m.Certs.length by omega),obs,hp,cond_false,wi_suc (show i≤1048576 by omega)]
 ·have hc':(i:Int) + 1 < (m.Certs.length:Int):=by omega
  have h1:i + 1 < m.Certs.length:=by omega
  have g1:getI m.Certs ((i:Int) + 1) = some m.Certs[i + 1]:=getN (i:=i + 1) h1
  unfold ms56_0
  unfold dropS at hp
  rw [A_map h1,A_map (show i + 1 - 1 < m.Certs.length by omega)] at hp
  simp only [Nat.add_sub_cancel,Nat.zero_lt_succ,decide_true,Bool.true_and] at hp
  simp only [hc',decide_true,cond_true,g1,wi_psuc (show i≤1048576 by omega),getN (show i < m.Certs.length by omega),obs,hp]
  exact ⟨trivial,rfl⟩
 ·have hc':¬ (((m.Certs.length - 1:Nat):Int) + 1 < (m.Certs.length:Int)):=by omega
  unfold ms56_0
  simp only [hc',decide_false,cond_false]
  exact ⟨trivial,rfl⟩
theorem riseR2 (m:TMsg) (hg:goodMsg m) (s:Int):∃ j,loopO (ms56_1 m) NN (s,1) = some (bif riseB m.Refs then .exit 2 (s,j) else .ret (1,j)):=by
 have hg1:=hg.2
 rw [loop_first (f:=ms56_1 m) (s0:=(s,1)) (fun i=>(s,(i:Int) + 1)) (m.Refs.length - 1) (fun i=>dropS m.Refs (i + 1)) (fun i=>.ret (1,(i:Int) + 1)) (.exit 2 (s,((m.Refs.length - 1:Nat):Int) + 1)) (fun i hi _ hp=>?_) (fun i hi _ hp=>?_) (fun _=>?_) (NN_l (by omega)) rfl]
 ·unfold riseB
  rw [← fst_shift m.Refs.length (p:=dropS m.Refs) (by simp [dropS])]
  cases h:(fstN (fun i=>dropS m.Refs (i + 1)) (m.Refs.length - 1)).isNone
  ·obtain ⟨i,hi⟩:=orF_some (out:=fun i=>LO.ret ((1:Int),(i:Int) + 1)) (fin:=.exit 2 (s,((m.Refs.length - 1:Nat):Int) + 1)) h
   exact ⟨_,by rw [hi]; rfl⟩
  ·exact ⟨_,by rw [orF_none h]; rfl⟩
 ·have hc':(i:Int) + 1 < (m.Refs.length:Int):=by omega
  have h1:i + 1 < m.Refs.length:=by omega
  have g1:getI m.Refs ((i:Int) + 1) = some m.Refs[i + 1]:=getN (i:=i + 1) h1
  unfold ms56_1
  unfold dropS at hp
  rw [A_get h1,A_get (show i + 1 - 1 < m.Refs.length by omega)] at hp
  simp only [Nat.add_sub_cancel,Nat.zero_lt_succ,decide_true,Bool.true_and] at hp
  simp only [hc',decide_true,cond_true,g1,wi_psuc (show i≤1048576 by omega),getN (show i < m.Refs.length by omega),obs,hp,cond_false,wi_suc (show i≤1048576 by omega)]
 ·have hc':(i:Int) + 1 < (m.Refs.length:Int):=by omega
  have h1:i + 1 < m.Refs.length:=by omega
  have g1:getI m.Refs ((i:Int) + 1) = some m.Refs[i + 1]:=getN (i:=i + 1) h1
  unfold ms56_1
  unfold dropS at hp
  rw [A_get h1,A_get (show i + 1 - 1 < m.Refs.length by omega)] at hp
  simp only [Nat.add_sub_cancel,Nat.zero_lt_succ,decide_true,Bool.true_and] at hp
  simp only [hc',decide_true,cond_true,g1,wi_psuc (show i≤1048576 by omega),getN (show i < m.Refs.length by omega),obs,hp]
  exact ⟨trivial,rfl⟩
 ·have hc':¬ (((m.Refs.length - 1:Nat):Int) + 1 < (m.Refs.length:Int)):=by omega
  unfold ms56_1
  simp only [hc',decide_false,cond_false]
  exact ⟨trivial,rfl⟩
theorem fst_any' {α:Type} (q:α→Bool) (xs:List α):(fstN (pAt q xs) xs.length).isNone = !xs.any q:=by
 rw [← fst_any]; cases fstN (pAt q xs) xs.length <;> rfl
theorem certL (m:TMsg) (hg:goodMsg m) (s:Int):∃ j,loopO (ms56_2 m) NN (s,0) = some (bif m.Certs.any (certBad m.View) then .ret (3,j) else .exit 4 (s,j)):=by
 rw [loop_first (f:=ms56_2 m) (s0:=(s,0)) (fun i=>(s,(i:Int))) m.Certs.length (pAt (certBad m.View) m.Certs) (fun i=>.ret (3,(i:Int))) (.exit 4 (s,(m.Certs.length:Int))) (fun i hi _ hp=>?_) (fun i hi _ hp=>?_) (fun _=>?_) (NN_l hg.1) rfl]
 ·have e:=fst_any' (certBad m.View) m.Certs
  cases h:m.Certs.any (certBad m.View)
  ·rw [h] at e; exact ⟨_,by rw [orF_none e]; rfl⟩
  ·rw [h] at e
   obtain ⟨i,hi⟩:=orF_some (out:=fun i=>LO.ret ((3:Int),(i:Int))) (fin:=.exit 4 (s,(m.Certs.length:Int))) e
   exact ⟨_,by rw [hi]; rfl⟩
 ·have hc':(i:Int) < (m.Certs.length:Int):=by omega
  have hb:i≤big:=Nat.le_trans (Nat.le_of_lt hi) (big_l hg.1)
  rw [pAt_get hi] at hp
  unfold ms56_2
  simp only [hc',decide_true,cond_true,getN hi,obs,in1,tr_cert]
  unfold certBad at hp
  simp only [hp,cond_false,contO,obs,wi1 hb]
 ·have hc':(i:Int) < (m.Certs.length:Int):=by omega
  rw [pAt_get hi] at hp
  unfold ms56_2
  simp only [hc',decide_true,cond_true,getN hi,obs,in1,tr_cert]
  unfold certBad at hp
  simp only [hp,cond_true,contO,obs]
  exact ⟨trivial,rfl⟩
 ·unfold ms56_2
  simp only [Int.lt_irrefl,decide_false,cond_false]
  exact ⟨trivial,rfl⟩
theorem refL (m:TMsg) (hg:goodMsg m) (s:Int):∃ j,loopO (ms56_3 m) NN (s,0) = some (bif m.Refs.any refBad then .ret (3,j) else .exit 6 (s,j)):=by
 rw [loop_first (f:=ms56_3 m) (s0:=(s,0)) (fun i=>(s,(i:Int))) m.Refs.length (pAt refBad m.Refs) (fun i=>.ret (3,(i:Int))) (.exit 6 (s,(m.Refs.length:Int))) (fun i hi _ hp=>?_) (fun i hi _ hp=>?_) (fun _=>?_) (NN_l hg.2) rfl]
 ·have e:=fst_any' refBad m.Refs
  cases h:m.Refs.any refBad
  ·rw [h] at e; exact ⟨_,by rw [orF_none e]; rfl⟩
  ·rw [h] at e
   obtain ⟨i,hi⟩:=orF_some (out:=fun i=>LO.ret ((3:Int),(i:Int))) (fin:=.exit 6 (s,(m.Refs.length:Int))) e
   exact ⟨_,by rw [hi]; rfl⟩
 ·have hc':(i:Int) < (m.Refs.length:Int):=by omega
  have hb:i≤big:=Nat.le_trans (Nat.le_of_lt hi) (big_l hg.2)
  rw [pAt_get hi] at hp
  unfold ms56_3
  unfold refBad at hp
  simp only [hc',decide_true,cond_true,getN hi,obs,in1,hp,cond_false,wi1 hb]
 ·have hc':(i:Int) < (m.Refs.length:Int):=by omega
  rw [pAt_get hi] at hp
  unfold ms56_3
  unfold refBad at hp
  simp only [hc',decide_true,cond_true,getN hi,obs,in1,hp]
  exact ⟨trivial,rfl⟩
 ·unfold ms56_3
  simp only [Int.lt_irrefl,decide_false,cond_false]
  exact ⟨trivial,rfl⟩
theorem lists_ok (m:TMsg) (hg:goodMsg m):m56 m = some (bif riseB (m.Certs.map (·.Slot)) then bif riseB m.Refs then bif m.Certs.any (certBad m.View) then 3 else bif m.Refs.any refBad then 3 else 0 else 1 else 1):=by
 unfold m56
 obtain ⟨j1,e1⟩:=riseC2 m hg 0
 rw [e1]
 cases riseB (m.Certs.map (·.Slot))
 ·rfl
 simp only [cond_true,obs,contO,if_true]
 obtain ⟨j2,e2⟩:=riseR2 m hg 0
 rw [e2]
 cases riseB m.Refs
 ·rfl
 simp only [cond_true,obs,contO,if_true]
 obtain ⟨j3,e3⟩:=certL m hg 0
 rw [e3]
 cases m.Certs.any (certBad m.View)
 rotate_left
 ·rfl
 simp only [cond_false,obs,contO,if_true]
 obtain ⟨j4,e4⟩:=refL m hg 0
 rw [e4]
 cases m.Refs.any refBad <;> rfl
theorem bare_ok (m:TMsg):m53 m = some (bareB m):=by
 unfold m53
 rw [tr_bare2]
 simp only [in1,obs,contO]
 rfl
theorem msg_spec (f:Int) (m:TMsg) (hg:goodMsg m):m23 f m = some (codeM f m):=by
 unfold m23 codeM
 rw [bare_ok,obs,tr_rng]
 cases hb:bareB m
 ·rfl
 have hk:decide (m.Kind≤3) = inR m.Kind 1 3:=by
  unfold bareB at hb
  rw [Bool.and_eq_true,Bool.and_eq_true] at hb
  have:=hb.1.1
  unfold inR at this ⊢
  have h1:=of_decide_eq_true this
  exact decide_eq_decide.2 ⟨fun h=>⟨h1.1,h⟩,fun h=>h.2⟩
 simp only [in1,id_in,hk,Bool.not_true,cond_false,cond_true,obs,contO]
 rw [show (!inR m.View 0 20 || (!inR m.From 1 (manyI f) || (inR m.Kind 1 3 && (!inR m.Slot 1 30 || !inR m.Value 0 12)))) = rangeB f m from rfl]
 cases hr:rangeB f m
 rotate_left
 ·rfl
 simp only [cond_false,obs,contO]
 cases h1:decide ((m.Certs.length:Int) > 30)
 rotate_left
 ·rfl
 simp only [cond_false]
 cases h2:decide ((m.Refs.length:Int) > manyI f)
 rotate_left
 ·have h2':decide ((m.Refs.length:Int) > wi .i64 ((wi .i64 (3 * f)) + 1)) = true:=h2
  rw [h2']; rfl
 have h2':decide ((m.Refs.length:Int) > wi .i64 ((wi .i64 (3 * f)) + 1)) = false:=h2
 simp only [h2',cond_false,obs,contO,lists_ok m hg]
theorem certF (m:TMsg) (c:TCert):m47 c m = some (certBad m.View c):=by
 unfold m47
 rw [tr_cert]
 simp only [slot_in,value_in,in2,obs,contO]
 rfl
theorem msg_impl (f:Int) (m:TMsg) (hg:goodMsg m):m19 f m = some (codeM f m):=by
 unfold m19 codeM
 rw [tr_bare1,tr_rng]
 have hbare:(!((m41 m.Kind 1 5 && (m30 m.Kind || (!(m.Slot != 0) && !(m.Value != 0)))) && ((!(m.Kind != 4) || !decide ((m.Certs.length:Int) > 0)) && (!(m.Kind != 5) || !decide ((m.Refs.length:Int) > 0))))) = !bareB m:=by
  have e1:∀ n:Nat,(!decide ((n:Int) > 0)) = ((n:Int) == 0):=fun n=>by
   cases n with
   | zero=>rfl
   | succ n=>
    have:((n + 1:Nat):Int) > 0:=by omega
    simp only [this,decide_true,Bool.not_true]
    symm
    simp; omega
  simp only [in2,slotted_in,bne,Bool.not_not,e1]
  rfl
 rw [hbare]
 simp only [obs,contO]
 cases hb:bareB m
 ·rfl
 simp only [Bool.not_true,cond_false,cond_true,obs,contO,view_in,repl_in,slotted_in,slot_in,value_in]
 rw [show (!inR m.View 0 20 || (!inR m.From 1 (manyI f) || (inR m.Kind 1 3 && (!inR m.Slot 1 30 || !inR m.Value 0 12)))) = rangeB f m from rfl]
 cases hr:rangeB f m
 rotate_left
 ·rfl
 simp only [cond_false,obs,contO]
 cases h1:decide ((m.Certs.length:Int) > 30)
 rotate_left
 ·rfl
 simp only [cond_false]
 cases h2:decide ((m.Refs.length:Int) > manyI f)
 rotate_left
 ·have h2':decide ((m.Refs.length:Int) > m45 f) = true:=h2
  rw [h2']; rfl
 have h2':decide ((m.Refs.length:Int) > m45 f) = false:=h2
 simp only [h2',cond_false,obs,contO]
 obtain ⟨j1,e1⟩:=riseC1 m hg 0
 rw [e1]
 cases riseB (m.Certs.map (·.Slot))
 ·rfl
 simp only [cond_true,obs,contO,if_true]
 obtain ⟨j2,e2⟩:=riseR1 m hg 0
 rw [e2]
 cases riseB m.Refs
 ·rfl
 simp only [cond_true,obs,contO,if_true]
 rw [show m46 m.Certs (fun x0_=>m47 x0_ m) = some (m.Certs.any (certBad m.View)) from gCF_ok (NN_l hg.1) (big_l hg.1) (fun x _=>certF m x)]
 cases m.Certs.any (certBad m.View)
 rotate_left
 ·rfl
 simp only [cond_false,obs]
 rw [show m48 m.Refs (fun x0_=>some (m49 x0_)) = some (m.Refs.any refBad) from gCF_ok (NN_l hg.2) (big_l hg.2) (fun x _=>by unfold m49; rw [in2]; rfl)]
 cases m.Refs.any refBad <;> rfl
open Go Go.Rf
set_option linter.unusedVariables false
set_option linter.unusedSimpArgs false
def neC (x1 x2:TCert):Bool:=!(((x1.Slot == x2.Slot) && ((x1.View == x2.View) && ((x1.Value == x2.Value) && true))))
theorem neC_ok (a b:TCert):neC a b = !decide (a = b):=by
 obtain ⟨a1,a2,a3⟩:=a
 obtain ⟨b1,b2,b3⟩:=b
 unfold neC
 congr 1
 rw [Bool.eq_iff_iff]
 simp
theorem neI_ok (a b:Int):(a != b) = !decide (a = b):=by
 rw [Bool.eq_iff_iff]; simp
theorem eqCs_ok (xs ys:List TCert) (h:xs.length≤1048576):m26 xs ys = some (decide (xs = ys)):=gE_ok (ne:=neC) neC_ok (NN_l h) (big_l h)
theorem eqIs_ok (xs ys:List Int) (h:xs.length≤1048576):m27 xs ys = some (decide (xs = ys)):=gE_ok (ne:=fun a b=>a != b) neI_ok (NN_l h) (big_l h)
theorem tr_same1 (a b c d e p q:Bool):(bif a then
   bif b then
    bif c then
     bif d then
      bif e then
       (some p).bind fun y1=>
       bif y1 then
        (some q).bind fun y2=>
        some (LO.norm y2)
       else
        some (LO.norm false)
      else
       some (LO.norm false)
     else
      some (LO.norm false)
    else
     some (LO.norm false)
   else
    some (LO.norm false)
  else
   some (LO.norm false)) = some (LO.norm (a && (b && (c && (d && (e && (p && q))))))):=by
 cases a <;> cases b <;> cases c <;> cases d <;> cases e <;> cases p <;> cases q <;> rfl
theorem tr_same2 (a b c d e f g:Bool):(bif a then
    some (LO.norm true)
   else
    bif b then
     some (LO.norm true)
    else
     bif c then
      some (LO.norm true)
     else
      bif d then
       some (LO.norm true)
      else
       bif e then
        some (LO.norm true)
       else
        bif f then
         some (LO.norm true)
        else
         some (LO.norm g)) = some (LO.norm (a || (b || (c || (d || (e || (f || g))))))):=by
 cases a <;> cases b <;> cases c <;> cases d <;> cases e <;> cases f <;> cases g <;> rfl
theorem msg_eq (a b:TMsg):decide (a = b) = ((a.Kind == b.Kind) && ((a.View == b.View) && ((a.From == b.From) && ((a.Slot == b.Slot) && ((a.Value == b.Value) && (decide (a.Certs = b.Certs) && decide (a.Refs = b.Refs))))))):=by
 obtain ⟨a1,a2,a3,a4,a5,a6,a7⟩:=a
 obtain ⟨b1,b2,b3,b4,b5,b6,b7⟩:=b
 rw [Bool.eq_iff_iff]
 simp
theorem same_impl (a b:TMsg) (hg:goodMsg a):m8 a b = some (decide (a = b)):=by
 unfold m8
 rw [eqCs_ok _ _ hg.1,eqIs_ok _ _ hg.2,tr_same1,msg_eq]
 rfl
theorem same_spec (a b:TMsg) (hg:goodMsg a):m72 a b = some (decide (a = b)):=by
 unfold m72
 rw [tr_same2]
 simp only [obs,contO]
 cases hx:(a.Kind != b.Kind || (a.View != b.View || (a.From != b.From || (a.Slot != b.Slot || (a.Value != b.Value || ((a.Certs.length:Int) != (b.Certs.length:Int) || (a.Refs.length:Int) != (b.Refs.length:Int)))))))
 rotate_left
 ·simp only [cond_true,obs,contO]
  congr 1
  symm
  rw [decide_eq_false_iff_not]
  rintro rfl
  simp at hx
 simp only [cond_false,obs,contO]
 simp only [Bool.or_eq_false_iff,bne_eq_false_iff_eq] at hx
 obtain ⟨h1,h2,h3,h4,h5,h6,h7⟩:=hx
 have hl1:a.Certs.length = b.Certs.length:=by omega
 have hl2:a.Refs.length = b.Refs.length:=by omega
 rcases gE0_loop (ex:=0) (ne:=neC) (N:=NN) neC_ok (NN_l hg.1) (big_l hg.1) hl1 with ⟨e1,j,k1⟩ | ⟨e1,j,k1⟩
 rotate_left
 ·rw [show loopO (ms72_0 a b) NN (false,0) = some (.ret (false,j)) from k1]
  simp only [obs,contO]
  congr 1
  symm
  rw [decide_eq_false_iff_not]
  rintro rfl
  exact e1 rfl
 rw [show loopO (ms72_0 a b) NN (false,0) = some (.exit 0 (false,j)) from k1]
 simp only [obs,contO,if_true]
 rcases gE0_loop (ex:=2) (ne:=fun a b:Int=>a != b) (N:=NN) neI_ok (NN_l hg.2) (big_l hg.2) hl2 with ⟨e2,j2,k2⟩ | ⟨e2,j2,k2⟩
 rotate_left
 ·rw [show loopO (ms72_1 a b) NN (false,0) = some (.ret (false,j2)) from k2]
  simp only [obs,contO]
  congr 1
  symm
  rw [decide_eq_false_iff_not]
  rintro rfl
  exact e2 rfl
 rw [show loopO (ms72_1 a b) NN (false,0) = some (.exit 2 (false,j2)) from k2]
 simp only [obs,contO,if_true]
 congr 1
 symm
 rw [decide_eq_true_eq]
 obtain ⟨a1,a2,a3,a4,a5,a6,a7⟩:=a
 obtain ⟨b1,b2,b3,b4,b5,b6,b7⟩:=b
 simp only at h1 h2 h3 h4 h5 e1 e2
 subst h1; subst h2; subst h3; subst h4; subst h5; subst e1; subst e2
 rfl
def atM (xs:List TMsg) (m:TMsg):Int:=ixI (fstN (pAt (fun x=>decide (x = m)) xs) xs.length)
theorem at_impl (xs:List TMsg) (m:TMsg) (h:xs.length≤1048576) (g:∀ x∈xs,goodMsg x):m34 xs m = some (atM xs m):=by
 unfold m34
 rw [show m65 xs (fun x0_=>m66 x0_ m) = some (atM xs m) from gIF_ok (NN_l h) (big_l h) (fun x hx=>by unfold m66; rw [same_impl x m (g x hx)]; rfl)]
 rfl
theorem at_spec (xs:List TMsg) (m:TMsg) (h:xs.length≤1048576) (g:∀ x∈xs,goodMsg x):m57 xs m = some (atM xs m):=gIF_ok (f:=fun x=>m72 x m) (NN_l h) (big_l h) (fun x hx=>same_spec x m (g x hx))
def refsBad (k:Int) (m:TMsg):Bool:=m.Refs.any fun r=>decide (r ≥ k)
theorem refs_impl (m:TMsg) (k:Int) (hg:goodMsg m):m33 m k = some (!refsBad k m):=by
 unfold m33
 rw [show m48 m.Refs (fun x0_=>some (m64 x0_ k)) = some (refsBad k m) from gCF_ok (NN_l hg.2) (big_l hg.2) (fun x _=>rfl)]
 rfl
theorem refs_spec (m:TMsg) (k:Int) (hg:goodMsg m):m24 m k = some (!refsBad k m):=gA_ok (q:=fun r=>decide (r ≥ k)) (NN_l hg.2) (big_l hg.2)
noncomputable def ledBad (f:Int) (xs:List TMsg) (i:Nat):Bool:=(xs[i]?).any fun x=>(codeM f x != 0) || (refsBad i x || decide (x∈xs.take i))
noncomputable def ledVal (f:Int) (xs:List TMsg) (i:Nat):Int:=match xs[i]? with
 | some x=>bif codeM f x != 0 then codeM f x else bif refsBad i x then 4 else 6
 | none=>0
noncomputable def codeL (f:Int) (xs:List TMsg):Int:=bif !inR f 1 2 then 3 else bif decide ((xs.length:Int) > 240) then 2 else orF (fstN (ledBad f xs) xs.length) (ledVal f xs) 0
theorem ledBad_get {f:Int} {xs:List TMsg} {i:Nat} (h:i < xs.length):ledBad f xs i = ((codeM f xs[i] != 0) || (refsBad i xs[i] || decide (xs[i]∈xs.take i))):=by
 unfold ledBad; rw [List.getElem?_eq_getElem h]; rfl
theorem ledVal_get {f:Int} {xs:List TMsg} {i:Nat} (h:i < xs.length):ledVal f xs i = (bif codeM f xs[i] != 0 then codeM f xs[i] else bif refsBad i xs[i] then 4 else 6):=by
 unfold ledVal; rw [List.getElem?_eq_getElem h]
theorem sub_take {α:Type} {xs:List α} {i:Nat} (h:i≤xs.length):subI xs 0 (i:Int) = some (xs.take i):=by
 unfold subI
 rw [if_pos ⟨by omega,by omega,by omega⟩]
 simp
theorem atM_take {xs:List TMsg} {i:Nat} (h:i < xs.length):decide (atM (xs.take i) xs[i] ≥ 0) = decide (xs[i]∈xs.take i):=by
 unfold atM
 rw [ixI_ge,fst_any,Bool.eq_iff_iff]
 simp
theorem atM_first {xs:List TMsg} {i:Nat} (h:i < xs.length):(atM xs xs[i] != (i:Int)) = decide (xs[i]∈xs.take i):=by
 unfold atM
 by_cases hm:xs[i]∈xs.take i
 ·rw [decide_eq_true hm]
  obtain ⟨j,hj,e⟩:=List.mem_iff_getElem.1 hm
  rw [List.length_take] at hj
  rw [List.getElem_take] at e
  rcases fst_cases (pAt (fun x=>decide (x = xs[i])) xs) xs.length with h' | ⟨k,h1,h2,h3⟩
  ·have:=h' j (by omega)
   rw [pAt_get (by omega)] at this
   simp [e] at this
  ·rw [fstN_some h1 h2 h3]
   have hk:k≤j:=by
    rcases Nat.lt_or_ge j k with hlt | hge
    ·have:=h2 j hlt
     rw [pAt_get (by omega)] at this
     simp [e] at this
    ·exact hge
   simp only [ixI,bne_iff_ne,ne_eq]
   omega
 ·rw [decide_eq_false hm]
  rw [fstN_some h (fun j hj=>by
   rw [pAt_get (by omega),decide_eq_false_iff_not]
   intro e
   exact hm (List.mem_iff_getElem.2 ⟨j,by rw [List.length_take]; omega,by rw [List.getElem_take]; exact e⟩)) (by rw [pAt_get h]; simp)]
  simp [ixI]
theorem led_impl (f:Int) (xs:List TMsg) (h:xs.length≤1048576) (g:∀ x∈xs,goodMsg x):m11 f xs = some (codeL f xs):=by
 unfold m11 codeL
 rw [show m32 f = inR f 1 2 from in1 _ _ _]
 cases inR f 1 2
 ·rfl
 simp only [Bool.not_true,cond_false]
 cases decide ((xs.length:Int) > 240)
 rotate_left
 ·rfl
 simp only [cond_false]
 rw [loop_first (f:=ms11_0 f xs) (s0:=(0,0)) (fun i=>(0,(i:Int))) xs.length (ledBad f xs) (fun i=>.ret (ledVal f xs i,(i:Int))) (.exit 1 (0,(xs.length:Int))) (fun i hi _ hp=>?_) (fun i hi _ hp=>?_) (fun _=>?_) (NN_l h) rfl]
 ·cases fstN (ledBad f xs) xs.length <;> rfl
 ·have hc':(i:Int) < (xs.length:Int):=by omega
  have gi:=g _ (List.getElem_mem hi)
  rw [ledBad_get hi,Bool.or_eq_false_iff,Bool.or_eq_false_iff] at hp
  obtain ⟨p1,p2,p3⟩:=hp
  unfold ms11_0
  simp only [hc',decide_true,cond_true,getN hi,obs,msg_impl f _ gi,p1,cond_false,refs_impl _ _ gi,p2,Bool.not_false,Bool.not_true,sub_take (Nat.le_of_lt hi),at_impl (xs.take i) xs[i] (by rw [List.length_take]; omega) (fun x hx=>g x (List.mem_of_mem_take hx)),atM_take hi,p3,wi1 (show i≤1099511627776 by omega)]
 ·have hc':(i:Int) < (xs.length:Int):=by omega
  have gi:=g _ (List.getElem_mem hi)
  rw [ledBad_get hi] at hp
  rw [ledVal_get hi]
  unfold ms11_0
  simp only [hc',decide_true,cond_true,getN hi,obs,msg_impl f _ gi,refs_impl _ _ gi,sub_take (Nat.le_of_lt hi),at_impl (xs.take i) xs[i] (by rw [List.length_take]; omega) (fun x hx=>g x (List.mem_of_mem_take hx)),atM_take hi]
  cases e1:codeM f xs[i] != 0
  ·cases e2:refsBad i xs[i]
   ·rw [e1,e2,Bool.false_or,Bool.false_or] at hp
    rw [hp]
    exact ⟨rfl,rfl⟩
   ·exact ⟨rfl,rfl⟩
  ·exact ⟨rfl,rfl⟩
 ·unfold ms11_0
  simp only [Int.lt_irrefl,decide_false,cond_false]
  exact ⟨trivial,rfl⟩
theorem led_spec (f:Int) (xs:List TMsg) (h:xs.length≤1048576) (g:∀ x∈xs,goodMsg x):m22 f xs = some (codeL f xs):=by
 unfold m22 m52 codeL
 rw [show m35 f = inR f 1 2 from in1 _ _ _]
 cases inR f 1 2
 ·rfl
 simp only [Bool.not_true,cond_false]
 cases decide ((xs.length:Int) > 240)
 rotate_left
 ·rfl
 simp only [cond_false]
 rw [loop_first (f:=ms52_0 f xs) (s0:=(0,0)) (fun i=>(0,(i:Int))) xs.length (ledBad f xs) (fun i=>.ret (ledVal f xs i,(i:Int))) (.exit 0 (0,(xs.length:Int))) (fun i hi _ hp=>?_) (fun i hi _ hp=>?_) (fun _=>?_) (NN_l h) rfl]
 ·cases fstN (ledBad f xs) xs.length <;> rfl
 ·have hc':(i:Int) < (xs.length:Int):=by omega
  have gi:=g _ (List.getElem_mem hi)
  rw [ledBad_get hi,Bool.or_eq_false_iff,Bool.or_eq_false_iff] at hp
  obtain ⟨p1,p2,p3⟩:=hp
  unfold ms52_0
  simp only [hc',decide_true,cond_true,getN hi,obs,msg_spec f _ gi,p1,cond_false,refs_spec _ _ gi,p2,Bool.not_false,Bool.not_true,at_spec xs xs[i] h g,atM_first hi,p3,wi1 (show i≤1099511627776 by omega)]
 ·have hc':(i:Int) < (xs.length:Int):=by omega
  have gi:=g _ (List.getElem_mem hi)
  rw [ledBad_get hi] at hp
  rw [ledVal_get hi]
  unfold ms52_0
  simp only [hc',decide_true,cond_true,getN hi,obs,msg_spec f _ gi,refs_spec _ _ gi,at_spec xs xs[i] h g,atM_first hi]
  cases e1:codeM f xs[i] != 0
  ·cases e2:refsBad i xs[i]
   ·rw [e1,e2,Bool.false_or,Bool.false_or] at hp
    rw [hp]
    exact ⟨rfl,rfl⟩
   ·exact ⟨rfl,rfl⟩
  ·exact ⟨rfl,rfl⟩
 ·unfold ms52_0
  simp only [Int.lt_irrefl,decide_false,cond_false]
  exact ⟨trivial,rfl⟩
structure MsgOk (f:Int) (m:TMsg):Prop where
 kind:1≤m.Kind∧m.Kind≤5
 bare:4≤m.Kind→m.Slot = 0∧m.Value = 0
 certs0:m.Kind≠4→m.Certs = []
 refs0:m.Kind≠5→m.Refs = []
 view:0≤m.View∧m.View≤20
 frm:1≤m.From∧m.From≤manyI f
 slot:m.Kind≤3→1≤m.Slot∧m.Slot≤30
 value:m.Kind≤3→0≤m.Value∧m.Value≤12
 certsl:m.Certs.length≤30
 refsl:(m.Refs.length:Int)≤manyI f
 cert:∀ c∈m.Certs,(1≤c.Slot∧c.Slot≤30)∧(0≤c.View∧c.View≤m.View - 1)∧(0≤c.Value∧c.Value≤12)
 ref:∀ r∈m.Refs,0≤r∧r≤239
theorem inR_t {n lo hi:Int}:inR n lo hi = true ↔ lo≤n∧n≤hi:=by unfold inR; simp
theorem codeM_ok {f:Int} {m:TMsg} (h:codeM f m = 0):MsgOk f m:=by
 unfold codeM at h
 cases hb:bareB m
 ·rw [hb] at h; cases h
 cases hr:rangeB f m
 rotate_left
 ·rw [hb,hr] at h; cases h
 cases h1:decide ((m.Certs.length:Int) > 30)
 rotate_left
 ·rw [hb,hr,h1] at h; cases h
 cases h2:decide ((m.Refs.length:Int) > manyI f)
 rotate_left
 ·rw [hb,hr,h1,h2] at h; cases h
 rw [hb,hr,h1,h2] at h
 simp only [cond_true,cond_false] at h
 cases h3:riseB (m.Certs.map (·.Slot))
 ·rw [h3] at h; cases h
 cases h4:riseB m.Refs
 ·rw [h3,h4] at h; cases h
 cases h5:m.Certs.any (certBad m.View)
 rotate_left
 ·rw [h3,h4,h5] at h; cases h
 cases h6:m.Refs.any refBad
 rotate_left
 ·rw [h3,h4,h5,h6] at h; cases h
 unfold bareB at hb
 unfold rangeB at hr
 simp only [Bool.and_eq_true,Bool.or_eq_true,inR_t,beq_iff_eq] at hb
 simp only [Bool.or_eq_false_iff,Bool.not_eq_false',Bool.and_eq_false_imp,inR_t] at hr
 obtain ⟨⟨b1,b2⟩,b3,b4⟩:=hb
 obtain ⟨r1,r2,r3⟩:=hr
 rw [decide_eq_false_iff_not] at h1 h2
 rw [List.any_eq_false] at h5 h6
 refine ⟨b1,fun hk=>?_,fun hk=>?_,fun hk=>?_,r1,r2,fun hk=>(r3 ⟨b1.1,hk⟩).1,fun hk=>(r3 ⟨b1.1,hk⟩).2,by omega,by omega,fun c hc=>?_,fun r hr=>?_⟩
 ·rcases b2 with b2 | b2
  ·omega
  ·exact b2
 ·rcases b3 with b3 | b3
  ·exact absurd b3 hk
  ·exact List.eq_nil_of_length_eq_zero (by omega)
 ·rcases b4 with b4 | b4
  ·exact absurd b4 hk
  ·exact List.eq_nil_of_length_eq_zero (by omega)
 ·have:=h5 c hc
  unfold certBad at this
  simp only [Bool.not_eq_true,Bool.or_eq_false_iff,Bool.not_eq_false',inR_t] at this
  obtain ⟨c1,c2,c3⟩:=this
  rw [wi64 (by omega) (by omega)] at c2
  exact ⟨c1,c2,c3⟩
 ·have:=h6 r hr
  unfold refBad at this
  simp only [Bool.not_eq_true,Bool.not_eq_false',inR_t] at this
  exact this
structure LedOk (f:Int) (xs:List TMsg):Prop where
 f12:1≤f∧f≤2
 len:xs.length≤240
 msg:∀ x∈xs,MsgOk f x
 refs:∀ (i:Nat) (h:i < xs.length),∀ r∈xs[i].Refs,r < i
 nd:xs.Nodup
theorem codeL_ok {f:Int} {xs:List TMsg} (h:codeL f xs = 0):LedOk f xs:=by
 unfold codeL at h
 cases h1:inR f 1 2
 ·rw [h1] at h; cases h
 cases h2:decide ((xs.length:Int) > 240)
 rotate_left
 ·rw [h1,h2] at h; cases h
 rw [h1,h2] at h
 simp only [Bool.not_true,cond_false] at h
 have hall:∀ j,j < xs.length→ledBad f xs j = false:=by
  rcases fst_cases (ledBad f xs) xs.length with h' | ⟨i,k1,k2,k3⟩
  ·exact h'
  ·rw [fstN_some k1 k2 k3] at h
   simp only [orF] at h
   rw [ledVal_get k1] at h
   cases e1:codeM f xs[i] != 0
   ·rw [e1] at h
    cases e2:refsBad i xs[i] <;> rw [e2] at h <;> cases h
   ·rw [e1] at h
    simp only [cond_true] at h
    rw [h] at e1
    cases e1
 rw [inR_t] at h1
 rw [decide_eq_false_iff_not] at h2
 have hi:∀ (i:Nat) (h:i < xs.length),codeM f xs[i] = 0∧refsBad i xs[i] = false∧xs[i] ∉ xs.take i:=fun i hl=>by
  have:=hall i hl
  rw [ledBad_get hl] at this
  simpa using this
 refine ⟨h1,by omega,fun x hx=>?_,fun i hl r hr=>?_,?_⟩
 ·obtain ⟨i,hl,rfl⟩:=List.mem_iff_getElem.1 hx
  exact codeM_ok (hi i hl).1
 ·have:=(hi i hl).2.1
  unfold refsBad at this
  rw [List.any_eq_false] at this
  have:=this r hr
  simp at this; omega
 ·rw [List.nodup_iff_pairwise_ne,List.pairwise_iff_getElem]
  intro i j hi1 hj1 hij e
  exact (hi j hj1).2.2 (List.mem_iff_getElem.2 ⟨i,by rw [List.length_take]; omega,by rw [List.getElem_take]; exact e⟩)
open Go Go.Rf
set_option linter.unusedVariables false
set_option linter.unusedSimpArgs false
theorem wi8 {x:Int} (h1:0≤x) (h2:x < 256):wi .u8 x = x:=by
 show IntKind.u8.wrap x = x
 rw [IntKind.wrap_u8]; omega
theorem catS {a b:Str} (h:a.length + b.length≤4611686018427387904):catO a b = some (a++b):=by
 unfold catO; rw [if_pos h]
theorem dig_byte {k:Nat} (h:k < 10):UInt8.ofNat (Int.toNat (wi .u8 (wi .i64 (48 + (k:Int))))) = UInt8.ofNat (48 + k):=by
 rw [wi64 (by omega) (by omega),wi8 (by omega) (by omega)]
 congr 1
theorem decLen:∀ (j k:Nat),k < 10 ^ (j + 1)→(Lib.decDigits k).length≤j + 1
 | 0,k,h=>by rw [Lib.decDigits,dif_pos (by simpa using h)]; simp
 | j + 1,k,h=>by
  by_cases hk:k < 10
  ·rw [Lib.decDigits,dif_pos hk]; simp
  ·rw [Lib.decDigits,dif_neg hk,List.length_append]
   have e:(10:Nat) ^ (j + 1 + 1) = 10 ^ (j + 1) * 10:=Nat.pow_succ ..
   have:=decLen j (k / 10) (by omega)
   simp only [List.length_singleton]; omega
theorem dig_nat:∀ (j k n:Nat),k < 10 ^ (j + 1)→j < n→j≤17→m67 n (k:Int) = some (Lib.decDigits k)
 | j,k,n,hk,hn,hj=>by
  obtain ⟨n,rfl⟩:∃ q,n = q + 1:=⟨n - 1,by omega⟩
  show m67F (m67 n) (k:Int) = _
  unfold m67F
  have h0:¬ (k:Int) < 0:=by omega
  simp only [h0,decide_false,cond_false]
  have hb:k < 10 ^ 18:=Nat.lt_of_lt_of_le hk (Nat.pow_le_pow_right (by omega) (by omega))
  by_cases h1:k < 10
  ·have h1':(k:Int) < 10:=by omega
   simp only [h1',decide_true,cond_true]
   rw [dig_byte h1,Lib.decDigits,dif_pos h1]
  ·have h1':¬ (k:Int) < 10:=by omega
   simp only [h1',decide_false,cond_false]
   obtain ⟨j,rfl⟩:∃ q,j = q + 1:=⟨j - 1,by
    cases j with
    | zero=>simp at hk; omega
    | succ j=>omega⟩
   have e:(10:Nat) ^ (j + 1 + 1) = 10 ^ (j + 1) * 10:=Nat.pow_succ ..
   have e1:wi .i64 (Int.tdiv (k:Int) 10) = ((k / 10:Nat):Int):=by
    rw [Int.tdiv_eq_ediv_of_nonneg (by omega),wi64 (by omega) (by omega)]; omega
   have e2:Int.tmod (k:Int) 10 = ((k % 10:Nat):Int):=by
    rw [Int.tmod_eq_emod_of_nonneg (by omega)]; omega
   have hl:=decLen j (k / 10) (by omega)
   rw [e1,dig_nat j (k / 10) n (by omega) (by omega) (by omega),obs,e2,dig_byte (by omega),catS (by simp; omega),obs]
   conv=>rhs; rw [Lib.decDigits,dif_neg h1]
theorem digits (n:Int) (h1:-100000000000000000≤n) (h2:n≤100000000000000000):m67 64 n = some (Lib.itoa n)∧(Lib.itoa n).length≤20:=by
 by_cases h0:n < 0
 ·have e:wi .i64 (0 - n) = ((n.natAbs:Nat):Int):=by rw [wi64 (by omega) (by omega)]; omega
  have hl:=decLen 17 n.natAbs (by omega)
  have ei:Lib.itoa n = 45::Lib.decDigits n.natAbs:=by unfold Lib.itoa; rw [if_pos h0]
  refine ⟨?_,by rw [ei,List.length_cons]; omega⟩
  show m67F (m67 63) n = _
  unfold m67F
  simp only [h0,decide_true,cond_true]
  rw [e,dig_nat 17 n.natAbs 63 (by omega) (by omega) (by omega),obs,catS (by simp; omega),obs,ei]
  rfl
 ·obtain ⟨k,rfl⟩:∃ k:Nat,n = k:=⟨n.toNat,by omega⟩
  have hl:=decLen 17 k (by omega)
  have ei:Lib.itoa (k:Int) = Lib.decDigits k:=by unfold Lib.itoa; rw [if_neg h0]; simp
  rw [ei]
  exact ⟨dig_nat 17 k 64 (by omega) (by omega) (by omega),by omega⟩
theorem decimal (n:Int) (h1:-9223372036854775808≤n) (h2:n≤9223372036854775807):m60 n = some (Lib.itoa n):=by
 unfold m60 m73 fmtO
 rw [if_pos ⟨rfl,decide_eq_true ⟨h1,h2⟩⟩]; rfl
open Go Go.Rf
set_option linter.unusedVariables false
set_option linter.unusedSimpArgs false
theorem many_val {f:Int} (h:1≤f∧f≤2):manyI f = 3 * f + 1:=by
 unfold manyI
 rw [wi64 (x:=3 * f) (by omega) (by omega),wi64 (by omega) (by omega)]
theorem LedOk.good {f:Int} {xs:List TMsg} (h:LedOk f xs):∀ x∈xs,goodMsg x:=fun x hx=>by
 have m:=h.msg x hx
 have:=m.refsl
 have:=many_val h.f12
 have:=h.f12
 exact ⟨Nat.le_trans m.certsl (by omega),by omega⟩
theorem appN {α:Type} {b:Nat} {L ys:List α} (h:L.length + ys.length≤2097152) (hb:b≤1000):appO b L ys = some (L++ys):=by
 unfold appO
 rw [if_pos (Nat.le_trans (Nat.mul_le_mul h (show b + 1≤1001 by omega)) (by decide))]
theorem app0 {α:Type} {b:Nat} {ys:List α} (h:ys.length≤1048576) (hb:b≤1000):appO b [] ys = some ys:=by
 rw [appN (by simp only [List.length_nil]; omega) hb]; rfl
theorem cpLoop {α:Type} {f:Int×List α→Option (LO (Int×List α))} {xs:List α} {b:Nat} {e:Nat} (hl:xs.length≤1048576) (hb:b≤1000)
  (h1:∀ (i:Nat) (hi:i < xs.length) (s:List α),f ((i:Int),s) = (appO b s [xs[i]]).bind fun z=>some (.norm (wi .i64 ((i:Int) + 1),z))) (h0:∀ s,f ((xs.length:Int),s) = some (.exit e ((xs.length:Int),s))) :
  loopO f NN (0,[]) = some (.exit e ((xs.length:Int),xs)):=by
 rw [loop_all (f:=f) (s0:=(0,[])) (fun i=>((i:Int),xs.take i)) xs.length (.exit e ((xs.length:Int),xs.take xs.length)) (fun i hi=>?_) ?_ rfl (NN_l hl) rfl]
 ·rw [List.take_length]
 ·rw [h0]
 ·rw [h1 i hi,appN (by simp; omega) hb,obs,wi1 (show i≤1099511627776 by omega),List.take_succ_eq_append_getElem hi]
theorem ownMsg_ok (m:TMsg) (h:goodMsg m):m51 m = some m:=by
 unfold m51
 rw [show m70 m.Certs = some m.Certs from app0 h.1 (by decide),obs,show m71 m.Refs = some m.Refs from app0 h.2 (by decide)]; rfl
theorem cpMsg_ok (m:TMsg) (h:goodMsg m):m59 m = some m:=by
 unfold m59
 rw [app0 h.1 (by decide),obs,app0 h.2 (by decide)]; rfl
theorem ownLed_ok (xs:List TMsg) (h:xs.length≤1048576) (g:∀ m∈xs,goodMsg m):m21 xs = some xs:=by
 unfold m21
 rw [cpLoop (b:=88) h (by decide) (fun i hi s=>by
  have hc':(i:Int) < (xs.length:Int):=by omega
  unfold ms21_0
  simp only [hc',decide_true,cond_true,getN hi,obs,ownMsg_ok _ (g _ (List.getElem_mem hi))]) (fun s=>by
  unfold ms21_0
  simp only [Int.lt_irrefl,decide_false,cond_false]
  rfl)]
 rfl
theorem cpLed_ok (xs:List TMsg) (h:xs.length≤1048576) (g:∀ m∈xs,goodMsg m):m58 xs = some xs:=by
 unfold m58
 rw [cpLoop (b:=88) h (by decide) (fun i hi s=>by
  have hc':(i:Int) < (xs.length:Int):=by omega
  unfold ms58_0
  simp only [hc',decide_true,cond_true,getN hi,obs,cpMsg_ok _ (g _ (List.getElem_mem hi))]) (fun s=>by
  unfold ms58_0
  simp only [Int.lt_irrefl,decide_false,cond_false]
  rfl)]
 rfl
noncomputable def putL (xs:List TMsg) (m:TMsg):List TMsg×Int:=bif decide (atM xs m ≥ 0) then (xs,0) else bif (xs.length:Int) == 240 then ([],2) else (xs++[m],0)
theorem put_spec (xs:List TMsg) (m:TMsg) (h:xs.length≤240) (g:∀ x∈xs,goodMsg x) (gm:goodMsg m):m25 xs m = some (putL xs m):=by
 unfold m25 putL
 have e:decide ((xs.length:Int) ≥ 240) = ((xs.length:Int) == 240):=by
  rw [Bool.eq_iff_iff]; simp; omega
 rw [at_spec xs m (by omega) g,cpLed_ok xs (by omega) g,cpMsg_ok m gm,e]
 simp only [obs]
 rw [appN (show xs.length + [m].length≤2097152 by simp; omega) (by decide)]
 cases decide (atM xs m ≥ 0) <;> cases ((xs.length:Int) == 240) <;> rfl
theorem put_impl (xs:List TMsg) (m:TMsg) (h:xs.length≤240) (g:∀ x∈xs,goodMsg x) (gm:goodMsg m):m20 xs m = some (bif refsBad xs.length m then ([],4) else putL xs m):=by
 unfold m20 putL
 rw [refs_impl m xs.length gm,at_impl xs m (by omega) g,ownMsg_ok m gm,show m50 xs = some xs from app0 (by omega) (by decide)]
 simp only [obs]
 rw [appN (show xs.length + [m].length≤2097152 by simp; omega) (by decide)]
 cases refsBad xs.length m <;> cases decide (atM xs m ≥ 0) <;> cases ((xs.length:Int) == 240) <;> rfl
theorem put_good {xs:List TMsg} {m:TMsg} (h:xs.length≤240) (g:∀ x∈xs,goodMsg x) (gm:goodMsg m):(putL xs m).1.length≤241∧∀ x∈(putL xs m).1,goodMsg x:=by
 unfold putL
 cases decide (atM xs m ≥ 0)
 ·cases ((xs.length:Int) == 240)
  ·exact ⟨by show (xs++[m]).length≤241; simp; omega,fun x hx=>by
    rcases List.mem_append.1 (show x∈xs++[m] from hx) with h | h
    ·exact g x h
    ·rw [List.mem_singleton.1 h]; exact gm⟩
  ·exact ⟨Nat.zero_le _,fun x hx=>by cases hx⟩
 ·exact ⟨by show xs.length≤241; omega,g⟩
def Src (code:List U8) (s:Tl1Src) (k:Nat):Prop:=s.Code = code∧0≤s.At∧s.At≤k
def bytes (code:List U8):Prop:=code.length≤1048576∧∀ x∈code,0≤x.v∧x.v≤255
theorem next_ok {code:List U8} (H:bytes code) {s:Tl1Src} {k:Nat} (hs:Src code s k) (hk:k≤1000) {n:Int} (hn:1≤n∧n≤200):∃ r s',m39 s n = some (r,s')∧(0≤r∧r < n)∧Src code s' (k + 1):=by
 obtain ⟨rfl,h0,h1⟩:=hs
 obtain ⟨hl,hb⟩:=H
 have e1:¬ n < 1:=by omega
 have e2:wi .i64 (s.At + 1) = s.At + 1:=wi64 (by omega) (by omega)
 have e3:wi .i64 (s.At + 1 - 1) = s.At:=by rw [wi64 (by omega) (by omega)]; omega
 have hn0:n≠0:=by omega
 have hs':Src s.Code ⟨s.Code,s.At + 1⟩ (k + 1):=⟨rfl,by show 0≤s.At + 1; omega,by show s.At + 1≤((k + 1:Nat):Int); omega⟩
 unfold m39
 simp only [e1,decide_false,cond_false,e2,e3]
 cases hc:((s.Code.length:Int) == 0)
 rotate_left
 ·simp only [cond_true,remO,if_neg hn0,obs]
  exact ⟨_,_,rfl,⟨Int.tmod_nonneg _ (by rw [wi64 (by omega) (by omega)]; omega),Int.tmod_lt_of_pos _ (by omega)⟩,hs'⟩
 have hp:0 < (s.Code.length:Int):=by
  have:(s.Code.length:Int)≠0:=by simpa using hc
  omega
 have hp0:(s.Code.length:Int)≠0:=by omega
 have q1:=Int.tmod_nonneg (a:=s.At) (s.Code.length:Int) h0
 have q2:=Int.tmod_lt_of_pos s.At hp
 have hx:∃ x∈s.Code,getI s.Code (Int.tmod s.At (s.Code.length:Int)) = some x:=by
  have hi:(Int.tmod s.At (s.Code.length:Int)).toNat < s.Code.length:=by omega
  refine ⟨s.Code[(Int.tmod s.At (s.Code.length:Int)).toNat],List.getElem_mem hi,?_⟩
  unfold getI
  rw [if_pos q1,List.getElem?_eq_getElem hi]
 obtain ⟨x,hxm,hx⟩:=hx
 have hxb:=hb x hxm
 have t1:0≤Int.tdiv s.At (s.Code.length:Int):=Int.tdiv_nonneg h0 (by omega)
 have t2:Int.tdiv s.At (s.Code.length:Int)≤s.At:=Int.tdiv_le_self _ h0
 have e4:IntKind.i64.wrap (Int.tdiv s.At (s.Code.length:Int)) = Int.tdiv s.At (s.Code.length:Int):=wi64 (by omega) (by omega)
 have e5:¬ n > 200:=by omega
 simp only [cond_false,remO,quoO,if_neg hp0,if_neg hn0,obs,hx,e4,e5,decide_false,contO]
 have e6:wi .i64 (wi .i64 x.v + wi .i64 (Int.tdiv s.At (s.Code.length:Int) * 37)) = x.v + Int.tdiv s.At (s.Code.length:Int) * 37:=by
  rw [wi64 (x:=x.v) (by omega) (by omega),wi64 (x:=Int.tdiv s.At (s.Code.length:Int) * 37) (by omega) (by omega),wi64 (by omega) (by omega)]
 rw [e6]
 exact ⟨_,_,rfl,⟨Int.tmod_nonneg _ (by omega),Int.tmod_lt_of_pos _ (by omega)⟩,hs'⟩
theorem pick_ok {code:List U8} (H:bytes code) {s:Tl1Src} {k:Nat} (hs:Src code s k) (hk:k≤1000) {l:List Int} (hn:1≤l.length∧l.length≤200):∃ r s',m37 s l = some (r,s')∧Src code s' (k + 1):=by
 obtain ⟨r,s',h1,⟨h2,h3⟩,h4⟩:=next_ok H hs hk (n:=(l.length:Int)) (by omega)
 have hi:r.toNat < l.length:=by omega
 refine ⟨l[r.toNat],s',?_,h4⟩
 unfold m37
 rw [h1,obs]
 show (getI l r).bind _ = _
 unfold getI
 rw [if_pos h2,List.getElem?_eq_getElem hi]; rfl
theorem Src.mono {code:List U8} {s:Tl1Src} {k k':Nat} (h:Src code s k) (hk:k≤k'):Src code s k':=⟨h.1,h.2.1,by have:=h.2.2; omega⟩
theorem chance_ok {code:List U8} (H:bytes code) {s:Tl1Src} {k:Nat} (hs:Src code s k) (hk:k≤1000) {n:Int} (hn:1≤n∧n≤200):∃ b s',m17 s n = some (b,s')∧Src code s' (k + 1):=by
 obtain ⟨r,s',h1,_,h2⟩:=next_ok H hs hk hn
 exact ⟨r == 0,s',by unfold m17; rw [h1]; rfl,h2⟩
theorem certs_ok {code:List U8} (H:bytes code) {y2:Int×Tl1Src} (hy:0≤y2.1∧y2.1≤3) {s:Tl1Src} {k:Nat} (hs:Src code s k) (hk:k + 9≤1000):∃ j cs s',loopO (ms40_0 y2) NN (1,[],s.Code,s.At) = some (.exit 1 (j,cs,s'.Code,s'.At))∧cs.length≤3∧Src code s' (k + 9):=by
 obtain ⟨o,h1,j,cs,s',rfl,h2,h3⟩:=loop_idx (f:=ms40_0 y2) (fun i t=>∃ (cs:List TCert) (u:Tl1Src),t = (((1 + i:Nat):Int),cs,u.Code,u.At)∧cs.length≤i∧Src code u (k + 3 * i)) 3 (fun o=>∃ (j:Int) (cs:List TCert) (s':Tl1Src),o = .exit 1 (j,cs,s'.Code,s'.At)∧cs.length≤3∧Src code s' (k + 9)) (fun i t hi ht=>by
  obtain ⟨cs,u,rfl,h1,h2⟩:=ht
  unfold ms40_0
  dsimp only
  by_cases hc:i < 3
  ·have hc':((1 + i:Nat):Int) < 4:=by omega
   simp only [hc',decide_true,cond_true,obs]
   cases hv:decide (y2.1 > 0)
   ·simp only [contO,cond_false,obs]
    exact .inr (.inl ⟨_,_,rfl,_,_,u,rfl,by omega,h2.mono (by omega)⟩)
   ·obtain ⟨b,s1,a1,a2⟩:=chance_ok H h2 (by omega) (n:=3) (by omega)
    have a1:m17 (⟨u.Code,u.At⟩:Tl1Src) 3 = some (b,s1):=a1
    simp only [contO,cond_true,obs,a1]
    have e1:wi .i64 (((1 + i:Nat):Int) + 1) = ((1 + (i + 1):Nat):Int):=by rw [wi64 (by omega) (by omega)]; omega
    cases b
    ·simp only [cond_false,obs,contO,e1]
     exact .inl ⟨hc,_,rfl,cs,s1,rfl,by omega,a2.mono (by omega)⟩
    ·have hv':y2.1 > 0:=by simpa using hv
     obtain ⟨r2,s2,b1,_,b2⟩:=next_ok H a2 (by omega) (n:=y2.1) (by omega)
     obtain ⟨r3,s3,c1,_,c2⟩:=next_ok H b2 (by omega) (n:=3) (by omega)
     simp only [cond_true,b1,c1,obs,appN (show cs.length + [(⟨((1 + i:Nat):Int),r2,r3⟩:TCert)].length≤2097152 by simp; omega) (show 24≤1000 by decide),contO,e1]
     exact .inl ⟨hc,_,rfl,_,s3,rfl,by simp; omega,c2.mono (by omega)⟩
  ·have hc':¬ ((1 + i:Nat):Int) < 4:=by omega
   simp only [hc',decide_false,cond_false,obs,contO]
   exact .inr (.inl ⟨_,_,rfl,_,_,u,rfl,by omega,h2.mono (by omega)⟩)) NN 0 (1,[],s.Code,s.At) (by omega) (NN_l (by omega)) ⟨[],s,rfl,by simp,hs.mono (by omega)⟩
 exact ⟨j,cs,s',h1,h2,h3⟩
theorem refs_ok {code:List U8} (H:bytes code) {n:Int} (hn:n≤20) {s:Tl1Src} {k:Nat} (hs:Src code s k) (hk:k + 20≤1000):∃ j rs s',loopO (ms40_1 n) NN (0,[],s.Code,s.At) = some (.exit 3 (j,rs,s'.Code,s'.At))∧rs.length≤4∧Src code s' (k + 20):=by
 obtain ⟨o,h1,j,cs,s',rfl,h2,h3⟩:=loop_idx (f:=ms40_1 n) (fun i t=>∃ (rs:List Int) (u:Tl1Src),t = ((i:Int),rs,u.Code,u.At)∧rs.length≤4∧Src code u (k + i)) 20 (fun o=>∃ (j:Int) (rs:List Int) (s':Tl1Src),o = .exit 3 (j,rs,s'.Code,s'.At)∧rs.length≤4∧Src code s' (k + 20)) (fun i t hi ht=>by
  obtain ⟨rs,u,rfl,h1,h2⟩:=ht
  unfold ms40_1
  dsimp only
  by_cases hc:(i:Int) < n
  ·simp only [hc,decide_true,cond_true,obs]
   by_cases hv:(rs.length:Int) < 4
   ·obtain ⟨b,s1,a1,a2⟩:=chance_ok H h2 (by omega) (n:=3) (by omega)
    have a1:m17 (⟨u.Code,u.At⟩:Tl1Src) 3 = some (b,s1):=a1
    simp only [hv,decide_true,contO,cond_true,obs,a1]
    have e1:wi .i64 ((i:Int) + 1) = ((i + 1:Nat):Int):=wi1 (by omega)
    cases b
    ·simp only [cond_false,obs,contO,e1]
     exact .inl ⟨by omega,_,rfl,rs,s1,rfl,h1,a2.mono (by omega)⟩
    ·simp only [cond_true,obs,appN (show rs.length + [(i:Int)].length≤2097152 by simp; omega) (show 8≤1000 by decide),contO,e1]
     exact .inl ⟨by omega,_,rfl,_,s1,rfl,by simp; omega,a2.mono (by omega)⟩
   ·simp only [hv,decide_false,contO,cond_false,obs]
    exact .inr (.inl ⟨_,_,rfl,_,_,u,rfl,h1,h2.mono (by omega)⟩)
  ·simp only [hc,decide_false,cond_false,obs,contO]
   exact .inr (.inl ⟨_,_,rfl,_,_,u,rfl,h1,h2.mono (by omega)⟩)) NN 0 (0,[],s.Code,s.At) (by omega) (NN_l (by omega)) ⟨[],s,rfl,by simp,hs.mono (by omega)⟩
 exact ⟨j,cs,s',h1,h2,h3⟩
def small (m:TMsg):Prop:=m.Certs.length≤4∧m.Refs.length≤4
theorem small.good {m:TMsg} (h:small m):goodMsg m:=⟨Nat.le_trans h.1 (by omega),Nat.le_trans h.2 (by omega)⟩
theorem draw_ok {code:List U8} (H:bytes code) {n:Int} (hn:n≤20) {s:Tl1Src} {k:Nat} (hs:Src code s k) (hk:k + 23≤1000):∃ m s',m40 s n = some (m,s')∧(m.Certs.length≤3∧m.Refs.length≤4)∧Src code s' (k + 23):=by
 obtain ⟨r1,s1,a1,a2⟩:=pick_ok H hs (by omega) (l:=[1,2,2,3,3,4,5]) (by simp)
 obtain ⟨r2,s2,b1,b0,b2⟩:=next_ok H a2 (by omega) (n:=3) (by omega)
 obtain ⟨r3,s3,c1,_,c2⟩:=next_ok H b2 (by omega) (n:=4) (by omega)
 unfold m40
 simp only [a1,b1,c1,obs]
 cases r1 == 4
 ·cases r1 == 5
  ·obtain ⟨r4,s4,d1,_,d2⟩:=next_ok H c2 (by omega) (n:=2) (by omega)
   obtain ⟨r5,s5,e1,_,e2⟩:=next_ok H d2 (by omega) (n:=3) (by omega)
   simp only [cond_false,d1,e1,obs,contO]
   exact ⟨_,s5,rfl,⟨by simp,by simp⟩,e2.mono (by omega)⟩
  ·obtain ⟨j,rs,s4,d1,d2,d3⟩:=refs_ok H hn c2 (by omega)
   simp only [cond_false,cond_true,d1,obs,contO,if_true]
   exact ⟨_,s4,rfl,⟨by simp,d2⟩,d3.mono (by omega)⟩
 ·obtain ⟨j,cs,s4,d1,d2,d3⟩:=certs_ok H (y2:=(r2,s2)) (by show 0≤r2∧r2≤3; omega) c2 (by omega)
  simp only [cond_true,d1,obs,contO,if_true]
  exact ⟨_,s4,rfl,⟨d2,by simp⟩,d3.mono (by omega)⟩
theorem bent_ok {code:List U8} (H:bytes code) {s:Tl1Src} {k:Nat} (hs:Src code s k) (hk:k + 25≤1000):∃ m s',m18 s = some (m,s')∧small m∧Src code s' (k + 25):=by
 obtain ⟨m,s1,a1,⟨a3,a4⟩,a2⟩:=draw_ok H (n:=6) (by omega) hs (by omega)
 obtain ⟨r,s2,b1,_,b2⟩:=next_ok H a2 (by omega) (n:=12) (by omega)
 obtain ⟨p1,t1,c1,d1⟩:=pick_ok H b2 (by omega) (l:=[0,1,4,6]) (by simp)
 obtain ⟨p2,t2,c2,d2⟩:=pick_ok H b2 (by omega) (l:=[-1,20,21]) (by simp)
 obtain ⟨p3,t3,c3,d3⟩:=pick_ok H b2 (by omega) (l:=[0,4,7,8]) (by simp)
 obtain ⟨p4,t4,c4,d4⟩:=pick_ok H b2 (by omega) (l:=[0,30,31]) (by simp)
 obtain ⟨p5,t5,c5,d5⟩:=pick_ok H b2 (by omega) (l:=[-1,12,13]) (by simp)
 unfold m18
 simp only [a1,b1,c1,c2,c3,c4,c5,obs,appN (show m.Certs.length + [(⟨1,0,1⟩:TCert)].length≤2097152 by simp; omega) (show 24≤1000 by decide)]
 cases r == 0
 rotate_left
 ·exact ⟨_,t1,rfl,⟨by show m.Certs.length≤4; omega,a4⟩,d1⟩
 cases r == 1
 rotate_left
 ·exact ⟨_,t2,rfl,⟨by show m.Certs.length≤4; omega,a4⟩,d2⟩
 cases r == 2
 rotate_left
 ·exact ⟨_,t3,rfl,⟨by show m.Certs.length≤4; omega,a4⟩,d3⟩
 cases r == 3
 rotate_left
 ·exact ⟨_,t4,rfl,⟨by show m.Certs.length≤4; omega,a4⟩,d4⟩
 cases r == 4
 rotate_left
 ·exact ⟨_,t5,rfl,⟨by show m.Certs.length≤4; omega,a4⟩,d5⟩
 cases r == 5
 rotate_left
 ·exact ⟨_,s2,rfl,⟨by show (m.Certs++[_]).length≤4; simp; omega,a4⟩,b2.mono (by omega)⟩
 ·exact ⟨_,s2,rfl,⟨by show m.Certs.length≤4; omega,a4⟩,b2.mono (by omega)⟩
theorem many_ok {code:List U8} (H:bytes code) {s:Tl1Src} {k:Nat} (hs:Src code s k) (hk:k + 400≤1000):∃ xs s',m38 s = some (xs,s')∧(xs.length≤16∧∀ x∈xs,small x)∧Src code s' (k + 400):=by
 obtain ⟨r,s1,a1,⟨a3,a4⟩,a2⟩:=next_ok H hs (by omega) (n:=16) (by omega)
 obtain ⟨J,rfl⟩:∃ j:Nat,r = j:=⟨r.toNat,by omega⟩
 unfold m38
 rw [a1,obs]
 obtain ⟨o,h1,xs,s',j,rfl,h2,h3⟩:=loop_idx (f:=ms38_0) (fun i t=>∃ (xs:List TMsg) (u:Tl1Src),t = ((J:Int) - i,xs,u.Code,u.At)∧(xs.length≤i∧∀ x∈xs,small x)∧Src code u (k + 1 + 23 * i)) J (fun o=>∃ (xs:List TMsg) (s':Tl1Src) (j:Int),o = .exit 0 (j,xs,s'.Code,s'.At)∧(xs.length≤16∧∀ x∈xs,small x)∧Src code s' (k + 400)) (fun i t hi ht=>by
  obtain ⟨xs,u,rfl,⟨h1,h2⟩,h3⟩:=ht
  unfold ms38_0
  dsimp only
  by_cases hc:i < J
  ·have hc':(J:Int) - i > 0:=by omega
   obtain ⟨m,s2,b1,b3,b2⟩:=draw_ok H (n:=(xs.length:Int)) (by omega) h3 (by omega)
   have b1:m40 (⟨u.Code,u.At⟩:Tl1Src) (xs.length:Int) = some (m,s2):=b1
   have e1:wi .i64 ((J:Int) - i - 1) = (J:Int) - ((i + 1:Nat):Int):=by rw [wi64 (by omega) (by omega)]; omega
   simp only [hc',decide_true,cond_true,b1,obs,at_spec xs m (by omega) (fun x hx=>(h2 x hx).good),appN (show xs.length + [m].length≤2097152 by simp; omega) (show 88≤1000 by decide)]
   cases decide (atM xs m < 0)
   ·simp only [cond_false,obs,contO,e1]
    exact .inl ⟨hc,_,rfl,xs,s2,rfl,⟨by omega,h2⟩,b2.mono (by omega)⟩
   ·simp only [cond_true,obs,contO,e1]
    refine .inl ⟨hc,_,rfl,_,s2,rfl,⟨by simp; omega,fun x hx=>?_⟩,b2.mono (by omega)⟩
    rcases List.mem_append.1 hx with hx | hx
    ·exact h2 x hx
    ·rw [List.mem_singleton.1 hx]; exact ⟨by omega,b3.2⟩
  ·have hc':¬ (J:Int) - i > 0:=by omega
   simp only [hc',decide_false,cond_false]
   exact .inr (.inl ⟨_,_,rfl,xs,u,_,rfl,⟨by omega,h2⟩,h3.mono (by omega)⟩)) NN 0 ((J:Int),[],s1.Code,s1.At) (by omega) (NN_l (by omega)) ⟨[],s1,by simp,⟨by simp,fun x hx=>by cases hx⟩,a2.mono (by omega)⟩
 dsimp only
 rw [h1]
 simp only [obs,contO,if_true]
 exact ⟨xs,s',rfl,h2,h3⟩
theorem wrong_ok {code:List U8} (H:bytes code) {s:Tl1Src} {k:Nat} (hs:Src code s k) (hk:k + 426≤1000):∃ xs s',m16 s = some (xs,s')∧(xs.length≤241∧∀ x∈xs,small x)∧Src code s' (k + 426):=by
 obtain ⟨xs,s1,a1,⟨a3,a4⟩,a2⟩:=many_ok H hs (by omega)
 obtain ⟨r,s2,b1,_,b2⟩:=next_ok H a2 (by omega) (n:=12) (by omega)
 unfold m16
 simp only [a1,b1,obs]
 cases r == 0
 ·cases r == 1
  ·exact ⟨xs,s2,rfl,⟨by omega,a4⟩,b2.mono (by omega)⟩
  ·rw [show mkO 88 241 (⟨0,0,0,0,0,[],[]⟩:TMsg) = some (List.replicate 241 ⟨0,0,0,0,0,[],[]⟩) from by unfold mkO; rw [if_pos ⟨by omega,by decide⟩]; rfl]
   refine ⟨_,s2,rfl,⟨by rw [List.length_replicate]; omega,fun x hx=>?_⟩,b2.mono (by omega)⟩
   rw [(List.mem_replicate.1 hx).2]
   exact ⟨by simp,by simp⟩
 ·obtain ⟨m,s3,c1,c2,c3⟩:=bent_ok H b2 (by omega)
  simp only [cond_true,c1,obs,appN (show xs.length + [m].length≤2097152 by simp; omega) (show 88≤1000 by decide),contO]
  refine ⟨_,s3,rfl,⟨by simp; omega,fun x hx=>?_⟩,c3.mono (by omega)⟩
  rcases List.mem_append.1 hx with hx | hx
  ·exact a4 x hx
  ·rw [List.mem_singleton.1 hx]; exact c2
theorem drawn {code:List U8} (H:bytes code):∃ (f:Int) (xs:List TMsg) (m:TMsg),m5 code = some (f,xs,m)∧(xs.length≤241∧∀ x∈xs,small x)∧small m:=by
 have h0:Src code (⟨code,0⟩:Tl1Src) 0:=⟨rfl,Int.le_refl _,Int.le_refl _⟩
 obtain ⟨f,s1,a1,a2⟩:=pick_ok H h0 (by omega) (l:=[1,1,1,1,2,0,1,1,3]) (by simp)
 obtain ⟨xs,s2,b1,⟨b3,b4⟩,b2⟩:=wrong_ok H a2 (by omega)
 unfold m5
 rw [show m14 code = some (⟨code,0⟩:Tl1Src) from rfl,obs,show m15 (⟨code,0⟩:Tl1Src) = some (f,s1) from by unfold m15; rw [a1]; rfl]
 simp only [b1,obs]
 by_cases hl:(xs.length:Int) > 0
 ·obtain ⟨c,s3,c1,c2⟩:=chance_ok H b2 (by omega) (n:=5) (by omega)
  simp only [hl,decide_true,cond_true,c1,obs]
  cases c
  ·obtain ⟨m,s4,d1,d2,_⟩:=bent_ok H c2 (by omega)
   simp only [cond_false,d1,obs]
   exact ⟨_,_,_,rfl,⟨b3,b4⟩,d2⟩
  ·have h00:0 < xs.length:=by omega
   rw [show getI xs 0 = some xs[0] from getN h00]
   exact ⟨_,_,_,rfl,⟨b3,b4⟩,b4 _ (List.getElem_mem h00)⟩
 ·obtain ⟨m,s4,d1,d2,_⟩:=bent_ok H b2 (by omega)
  simp only [hl,decide_false,cond_false,d1,obs]
  exact ⟨_,_,_,rfl,⟨b3,b4⟩,d2⟩
open Go Go.Rf
set_option linter.unusedVariables false
set_option linter.unusedSimpArgs false
theorem flat_len {α:Type} {g:α→Str}:∀ {l:List α},(∀ x∈l,(g x).length≤100)→((l.map g).flatten).length≤100 * l.length
 | [],_=>by simp
 | x::l,h=>by
  have h1:=h x (by simp)
  have h2:=flat_len (l:=l) fun y hy=>h y (by simp [hy])
  simp only [List.map_cons,List.flatten_cons,List.length_append,List.length_cons]
  omega
theorem flat_snoc {α:Type} {g:α→Str} {l:List α} {i:Nat} (h:i < l.length):((l.take (i + 1)).map g).flatten = ((l.take i).map g).flatten++g l[i]:=by
 rw [take_snoc' h,List.map_append,List.flatten_append]
 simp
theorem catN {a b:Str} (ha:a.length≤1000000000) (hb:b.length≤1000000):catO a b = some (a++b):=catS (by omega)
theorem itoaL {n:Int} (h:-1≤n∧n≤9999):(Lib.itoa n).length≤20:=(digits n (by omega) (by omega)).2
noncomputable def certT (c:TCert):Str:=Lib.itoa c.Slot++[46]++Lib.itoa c.View++[46]++Lib.itoa c.Value
noncomputable def certsT (cs:List TCert):Str:=(cs.map fun c=>[32]++certT c).flatten
noncomputable def refsT (rs:List Int):Str:=(rs.map fun r=>[32]++Lib.itoa r).flatten
def smallC (c:TCert):Prop:=(1≤c.Slot∧c.Slot≤30)∧(0≤c.View∧c.View≤30)∧(0≤c.Value∧c.Value≤12)
theorem certT_len {c:TCert} (h:smallC c):([32]++certT c:Str).length≤100:=by
 obtain ⟨h1,h2,h3⟩:=h
 have:=itoaL (n:=c.Slot) (by omega)
 have:=itoaL (n:=c.View) (by omega)
 have:=itoaL (n:=c.Value) (by omega)
 unfold certT
 simp; omega
theorem certsT_len {cs:List TCert} (h:∀ c∈cs,smallC c) (hl:cs.length≤30) (i:Nat):(certsT (cs.take i)).length≤3000:=by
 have:=flat_len (g:=fun c=>[32]++certT c) (l:=cs.take i) fun c hc=>certT_len (h c (List.mem_of_mem_take hc))
 unfold certsT
 have:(cs.take i).length≤cs.length:=List.length_take_le' _ _
 omega
theorem refsT_len {rs:List Int} (h:∀ r∈rs,0≤r∧r≤239) (hl:rs.length≤30) (i:Nat):(refsT (rs.take i)).length≤3000:=by
 have:=flat_len (g:=fun r=>[32]++Lib.itoa r) (l:=rs.take i) fun r hr=>by
  have:=itoaL (n:=r) (by have:=h r (List.mem_of_mem_take hr); omega)
  simp; omega
 unfold refsT
 have:(rs.take i).length≤rs.length:=List.length_take_le' _ _
 omega
theorem spec_certs (m:TMsg) (a:Str) (h:∀ c∈m.Certs,smallC c) (hl:m.Certs.length≤30) (ha:a.length≤1000):loopO (ms36_0 m) NN (a,0) = some (.exit 0 (a++certsT m.Certs,(m.Certs.length:Int))):=by
 rw [loop_all (f:=ms36_0 m) (s0:=(a,0)) (fun i=>(a++certsT (m.Certs.take i),(i:Int))) m.Certs.length (.exit 0 (a++certsT m.Certs,(m.Certs.length:Int))) (fun i hi=>?_) ?_ rfl (NN_l (by omega)) (by simp [certsT])]
 ·unfold ms36_0
  simp only [Int.lt_irrefl,decide_false,cond_false,List.take_length]
 ·have hc':(i:Int) < (m.Certs.length:Int):=by omega
  obtain ⟨h1,h2,h3⟩:=h _ (List.getElem_mem hi)
  obtain ⟨d1,l1⟩:=digits m.Certs[i].Slot (by omega) (by omega)
  obtain ⟨d2,l2⟩:=digits m.Certs[i].View (by omega) (by omega)
  obtain ⟨d3,l3⟩:=digits m.Certs[i].Value (by omega) (by omega)
  have hr:=certsT_len h hl i
  have e:certsT (m.Certs.take (i + 1)) = certsT (m.Certs.take i)++([32]++certT m.Certs[i]):=flat_snoc hi
  unfold ms36_0
  simp only [hc',decide_true,cond_true,getN hi,obs,d1,d2,d3]
  rw [e]
  unfold certT
  simp (disch:=(first | omega | (simp only [List.length_append,List.length_cons,List.length_nil] <;> omega))) only [catN,obs,contO,wi1 (show i≤1099511627776 by omega)]
  simp
theorem spec_refs (m:TMsg) (a:Str) (h:∀ r∈m.Refs,0≤r∧r≤239) (hl:m.Refs.length≤30) (ha:a.length≤10000):loopO (ms36_1 m) NN (a,0) = some (.exit 2 (a++refsT m.Refs,(m.Refs.length:Int))):=by
 rw [loop_all (f:=ms36_1 m) (s0:=(a,0)) (fun i=>(a++refsT (m.Refs.take i),(i:Int))) m.Refs.length (.exit 2 (a++refsT m.Refs,(m.Refs.length:Int))) (fun i hi=>?_) ?_ rfl (NN_l (by omega)) (by simp [refsT])]
 ·unfold ms36_1
  simp only [Int.lt_irrefl,decide_false,cond_false,List.take_length]
 ·have hc':(i:Int) < (m.Refs.length:Int):=by omega
  have h1:=h _ (List.getElem_mem hi)
  obtain ⟨d1,l1⟩:=digits m.Refs[i] (by omega) (by omega)
  have hr:=refsT_len h hl i
  have e:refsT (m.Refs.take (i + 1)) = refsT (m.Refs.take i)++([32]++Lib.itoa m.Refs[i]):=flat_snoc hi
  unfold ms36_1
  simp only [hc',decide_true,cond_true,getN hi,obs,d1]
  rw [e]
  simp (disch:=(first | omega | (simp only [List.length_append,List.length_cons,List.length_nil] <;> omega))) only [catN,obs,contO,wi1 (show i≤1099511627776 by omega)]
  simp
theorem nums_ok (l:List Int) (h:∀ v∈l,0≤v∧v≤9999) (hl:l.length≤300):m29 l = some (l.map Lib.itoa):=by
 unfold m29
 rw [loop_all (f:=ms29_0 l) (s0:=(0,[])) (fun i=>((i:Int),(l.take i).map Lib.itoa)) l.length (.exit 0 ((l.length:Int),l.map Lib.itoa)) (fun i hi=>?_) ?_ rfl (NN_l (by omega)) rfl]
 ·rfl
 ·unfold ms29_0
  simp only [Int.lt_irrefl,decide_false,cond_false,List.take_length]
 ·have hc':(i:Int) < (l.length:Int):=by omega
  have sm:=h _ (List.getElem_mem hi)
  unfold ms29_0
  simp only [hc',decide_true,cond_true,getN hi,obs,decimal l[i] (by omega) (by omega),wi1 (show i≤1099511627776 by omega)]
  rw [show appO 16 ((l.take i).map Lib.itoa) [Lib.itoa l[i]] = some ((l.take i).map Lib.itoa++[Lib.itoa l[i]]) from by
   unfold appO; rw [if_pos (by simp; omega)]]
  rw [take_snoc' hi,List.map_append]
  rfl
theorem join_sp (a:Str):∀ l:List Str,Lib.join (a::l) [32] = a++(l.map fun w=>[32]++w).flatten
 | []=>by simp [Lib.join,List.intercalate]
 | v::l=>by
  have ih:=join_sp v l
  unfold Lib.join at ih ⊢
  simp only [List.intercalate,List.map_cons,List.intersperse_cons_cons,List.flatten_cons] at ih ⊢
  rw [ih]
  simp
theorem join3d (a b c:Str):Lib.join [a,b,c] [46] = a++[46]++b++[46]++c:=by simp [Lib.join,List.intercalate]
theorem impl_certs (m:TMsg) (z:List Str) (h:∀ c∈m.Certs,smallC c) (hl:m.Certs.length≤30) (hz:z.length≤10):loopO (ms10_0 m) NN (0,z) = some (.exit 0 ((m.Certs.length:Int),z++m.Certs.map certT)):=by
 rw [loop_all (f:=ms10_0 m) (s0:=(0,z)) (fun i=>((i:Int),z++(m.Certs.take i).map certT)) m.Certs.length (.exit 0 ((m.Certs.length:Int),z++m.Certs.map certT)) (fun i hi=>?_) ?_ rfl (NN_l (by omega)) (by simp)]
 ·unfold ms10_0
  simp only [Int.lt_irrefl,decide_false,cond_false,List.take_length]
 ·have hc':(i:Int) < (m.Certs.length:Int):=by omega
  obtain ⟨h1,h2,h3⟩:=h _ (List.getElem_mem hi)
  have l1:=itoaL (n:=m.Certs[i].Slot) (by omega)
  have l2:=itoaL (n:=m.Certs[i].View) (by omega)
  have l3:=itoaL (n:=m.Certs[i].Value) (by omega)
  have hn:m29 [m.Certs[i].Slot,m.Certs[i].View,m.Certs[i].Value] = some [Lib.itoa m.Certs[i].Slot,Lib.itoa m.Certs[i].View,Lib.itoa m.Certs[i].Value]:=nums_ok _ (by
   intro v hv
   simp only [List.mem_cons,List.not_mem_nil,or_false] at hv
   rcases hv with rfl | rfl | rfl <;> omega) (by simp)
  have hj:m31 [Lib.itoa m.Certs[i].Slot,Lib.itoa m.Certs[i].View,Lib.itoa m.Certs[i].Value] [46] = some (certT m.Certs[i]):=by
   unfold m31 joinO certT
   rw [join3d,if_pos ⟨by simp [joinMost],by simp [joinMost]; omega⟩]
  unfold ms10_0
  simp only [hc',decide_true,cond_true,getN hi,obs,hn,hj,wi1 (show i≤1099511627776 by omega)]
  rw [appN (by simp; omega) (by decide),take_snoc' hi,List.map_append,List.append_assoc]
  rfl
noncomputable def tailT (m:TMsg):Str:=if m.Kind≤3 then [32]++Lib.itoa m.Slot++[32]++Lib.itoa m.Value else certsT m.Certs++refsT m.Refs
theorem words (m:TMsg) (h:1≤m.Kind∧m.Kind≤5):∃ w:Str,getI [([]:Str),([112,114,111,112,111,115,101]:Str),([112,114,101,112,97,114,101]:Str),([99,111,109,109,105,116]:Str),([99,104,97,110,103,101]:Str),([110,101,119]:Str)] m.Kind = some w ∧
  getI [([112,114,111,112,111,115,101]:Str),([112,114,101,112,97,114,101]:Str),([99,111,109,109,105,116]:Str),([99,104,97,110,103,101]:Str),([110,101,119]:Str)] (wi .i64 (m.Kind - 1)) = some w∧w.length≤7:=by
 rw [wi64 (by omega) (by omega)]
 have:m.Kind = 1∨m.Kind = 2∨m.Kind = 3∨m.Kind = 4∨m.Kind = 5:=by omega
 rcases this with h | h | h | h | h <;> rw [h] <;> exact ⟨_,rfl,rfl,by decide⟩
theorem text_eq (f:Int) (m:TMsg) (hf:1≤f∧f≤2) (hm:codeM f m = 0) (gm:goodMsg m):∃ t,m12 f m = some ⟨0,t⟩∧m10 f m = some ⟨0,t⟩:=by
 have M:=codeM_ok hm
 have hmany:=many_val hf
 have hfi:inR f 1 2 = true:=inR_t.2 hf
 obtain ⟨w,w1,w2,w3⟩:=words m M.kind
 have hC:∀ c∈m.Certs,smallC c:=fun c hc=>by
  have:=M.cert c hc
  have:=M.view
  exact ⟨by omega,by omega,by omega⟩
 have hCl:=M.certsl
 have hRl:m.Refs.length≤30:=by have:=M.refsl; omega
 have hv:=M.view
 have hfr:=M.frm
 obtain ⟨d1,l1⟩:=digits m.View (by omega) (by omega)
 obtain ⟨d2,l2⟩:=digits m.From (by omega) (by omega)
 have hr:=certsT_len hC hCl m.Certs.length
 rw [List.take_length] at hr
 have hr2:=refsT_len M.ref hRl m.Refs.length
 rw [List.take_length] at hr2
 refine ⟨w++[32]++Lib.itoa m.View++[32]++Lib.itoa m.From++tailT m,?_,?_⟩
 ·unfold m12 m36
  rw [show m35 f = inR f 1 2 from in1 _ _ _,hfi,msg_spec f m gm,hm,w1]
  simp only [Bool.not_true,cond_false,obs,bne_self_eq_false,d1,d2]
  by_cases hk:m.Kind≤3
  ·have:=M.slot hk
   have:=M.value hk
   obtain ⟨d3,l3⟩:=digits m.Slot (by omega) (by omega)
   obtain ⟨d4,l4⟩:=digits m.Value (by omega) (by omega)
   simp only [hk,decide_true,cond_true,d3,d4,obs]
   simp (disch:=(first | omega | (simp only [List.length_append,List.length_cons,List.length_nil] <;> omega))) only [catN,obs]
   unfold tailT
   rw [if_pos hk]
   simp
  ·simp only [hk,decide_false,cond_false,obs]
   simp (disch:=(first | omega | (simp only [List.length_append,List.length_cons,List.length_nil] <;> omega))) only [catN,obs]
   rw [spec_certs m _ hC hCl (by simp; omega)]
   simp only [obs,contO,if_true]
   rw [spec_refs m _ M.ref hRl (by simp; omega)]
   simp only [obs,contO,if_true]
   unfold tailT
   rw [if_neg hk]
   simp
 ·unfold m10 m13
  rw [show m32 f = inR f 1 2 from in2 _ _ _,hfi,msg_impl f m gm,hm,w2]
  have n1:m29 [m.View,m.From] = some [Lib.itoa m.View,Lib.itoa m.From]:=nums_ok _ (by
   intro v hv
   simp only [List.mem_cons,List.not_mem_nil,or_false] at hv
   rcases hv with rfl | rfl <;> omega) (by simp)
  have n2:m29 m.Refs = some (m.Refs.map Lib.itoa):=nums_ok _ (fun r hr=>by have:=M.ref r hr; omega) (by omega)
  simp only [Bool.not_true,cond_false,obs,bne_self_eq_false,n1,slotted_in]
  rw [appN (show [w].length + [Lib.itoa m.View,Lib.itoa m.From].length≤2097152 by simp) (by decide)]
  simp only [obs,List.singleton_append]
  have fl1:∀ cs:List TCert,((cs.map certT).map fun w=>([32]:Str)++w).flatten = certsT cs:=fun cs=>by unfold certsT; rw [List.map_map]; rfl
  have fl2:∀ rs:List Int,((rs.map Lib.itoa).map fun w=>([32]:Str)++w).flatten = refsT rs:=fun rs=>by unfold refsT; rw [List.map_map]; rfl
  by_cases hk:m.Kind≤3
  ·have e:inR m.Kind 1 3 = true:=inR_t.2 ⟨M.kind.1,hk⟩
   have hs:=M.slot hk
   have hva:=M.value hk
   have l3:=itoaL (n:=m.Slot) (by omega)
   have l4:=itoaL (n:=m.Value) (by omega)
   have n3:m29 [m.Slot,m.Value] = some [Lib.itoa m.Slot,Lib.itoa m.Value]:=nums_ok _ (by
    intro v hv
    simp only [List.mem_cons,List.not_mem_nil,or_false] at hv
    rcases hv with rfl | rfl <;> omega) (by simp)
   have c0:=M.certs0 (by omega)
   have r0:=M.refs0 (by omega)
   rw [e]
   simp only [cond_true,n3,obs]
   rw [appN (by simp) (by decide)]
   simp only [obs,contO]
   rw [impl_certs m _ hC hCl (by simp)]
   simp only [obs,contO,if_true,n2]
   rw [appN (by simp; omega) (by decide)]
   simp only [obs,c0,r0,List.map_nil,List.append_nil]
   unfold m31 joinO
   rw [List.cons_append,join_sp,if_pos ⟨by simp [joinMost],by simp [joinMost]; omega⟩]
   unfold tailT
   rw [if_pos hk]
   simp
  ·have e:inR m.Kind 1 3 = false:=by
    cases q:inR m.Kind 1 3
    ·rfl
    ·exact absurd (inR_t.1 q).2 hk
   rw [e]
   simp only [cond_false,obs,contO]
   rw [impl_certs m _ hC hCl (by simp)]
   simp only [obs,contO,if_true,n2]
   rw [appN (by simp; omega) (by decide)]
   simp only [obs]
   have hj:Lib.join ([w,Lib.itoa m.View,Lib.itoa m.From]++m.Certs.map certT++m.Refs.map Lib.itoa) [32] = w++[32]++Lib.itoa m.View++[32]++Lib.itoa m.From++tailT m:=by
    rw [List.append_assoc,List.cons_append,join_sp]
    unfold tailT
    rw [if_neg hk]
    simp only [List.map_append,List.flatten_append,fl1,fl2]
    simp
   unfold m31 joinO
   rw [hj,if_pos ⟨by simp [joinMost]; omega,by unfold tailT; rw [if_neg hk]; simp [joinMost]; omega⟩]
   rfl
open Go Go.Rf
set_option linter.unusedVariables false
set_option linter.unusedSimpArgs false
theorem codeL_all {f:Int} {xs:List TMsg} (h:codeL f xs = 0):∀ (i:Nat) (h:i < xs.length),codeM f xs[i] = 0∧refsBad i xs[i] = false∧xs[i] ∉ xs.take i:=by
 unfold codeL at h
 cases h1:inR f 1 2
 ·rw [h1] at h; cases h
 cases h2:decide ((xs.length:Int) > 240)
 rotate_left
 ·rw [h1,h2] at h; cases h
 rw [h1,h2] at h
 simp only [Bool.not_true,cond_false] at h
 have hall:∀ j,j < xs.length→ledBad f xs j = false:=by
  rcases fst_cases (ledBad f xs) xs.length with h' | ⟨i,k1,k2,k3⟩
  ·exact h'
  ·rw [fstN_some k1 k2 k3] at h
   simp only [orF] at h
   rw [ledVal_get k1] at h
   cases e1:codeM f xs[i] != 0
   ·rw [e1] at h
    cases e2:refsBad i xs[i] <;> rw [e2] at h <;> cases h
   ·rw [e1] at h
    simp only [cond_true] at h
    rw [h] at e1
    cases e1
 intro i hl
 have:=hall i hl
 rw [ledBad_get hl] at this
 simpa using this
theorem codeL_mk {f:Int} {xs:List TMsg} (hf:1≤f∧f≤2) (hl:xs.length≤240) (h:∀ (i:Nat) (h:i < xs.length),codeM f xs[i] = 0∧refsBad i xs[i] = false∧xs[i] ∉ xs.take i):codeL f xs = 0:=by
 unfold codeL
 rw [inR_t.2 hf,decide_eq_false (by omega),fstN_none (fun j hj=>by
  obtain ⟨h1,h2,h3⟩:=h j hj
  rw [ledBad_get hj,h1,h2,decide_eq_false h3]; rfl)]
 rfl
theorem codeL_snoc {f:Int} {xs:List TMsg} {m:TMsg} (h:codeL f xs = 0) (hm:codeM f m = 0) (hr:refsBad xs.length m = false) (hn:m ∉ xs) (hl:xs.length < 240):codeL f (xs++[m]) = 0:=by
 refine codeL_mk (codeL_ok h).f12 (by simp; omega) fun i hi=>?_
 by_cases hx:i < xs.length
 ·rw [List.getElem_append_left hx,List.take_append_of_le_length (by omega)]
  exact codeL_all h i hx
 ·have e:i = xs.length:=by simp at hi; omega
  subst e
  rw [List.getElem_append_right (Nat.le_refl _),List.take_left]
  simp only [Nat.sub_self,List.getElem_cons_zero]
  exact ⟨hm,hr,hn⟩
theorem atM_mem (xs:List TMsg) (m:TMsg):decide (atM xs m ≥ 0) = decide (m∈xs):=by
 unfold atM
 rw [ixI_ge,fst_any,Bool.eq_iff_iff]
 simp
theorem refs_mono {k l:Int} {m:TMsg} (h:refsBad k m = false) (hl:k≤l):refsBad l m = false:=by
 unfold refsBad at h ⊢
 rw [List.any_eq_false] at h ⊢
 intro r hr
 have:=h r hr
 simp at this ⊢
 omega
structure PutOk (f:Int) (xs:List TMsg) (m:TMsg) (ys:List TMsg):Prop where
 code:codeL f ys = 0
 mem:m∈ys
 lo:xs.length≤ys.length
 hi:ys.length≤xs.length + 1
 eq:∀ i,i < xs.length→ys[i]? = xs[i]?
 refs:refsBad ys.length m = false
theorem put_post {f:Int} {xs:List TMsg} {m:TMsg} (h:codeL f xs = 0) (hm:codeM f m = 0) (hr:refsBad xs.length m = false) (hp:(putL xs m).2 = 0):PutOk f xs m (putL xs m).1:=by
 unfold putL at hp ⊢
 rw [atM_mem] at hp ⊢
 by_cases hx:m∈xs
 ·rw [decide_eq_true hx]
  exact ⟨h,hx,Nat.le_refl _,Nat.le_succ _,fun i _=>rfl,hr⟩
 ·rw [decide_eq_false hx] at hp ⊢
  have hl:=(codeL_ok h).len
  cases hk:((xs.length:Int) == 240)
  rotate_left
  ·rw [hk] at hp; cases hp
  have hk:¬ (xs.length:Int) = 240:=by simpa using hk
  refine ⟨codeL_snoc h hm hr hx (by omega),?_,?_,?_,fun i hi=>?_,?_⟩
  ·show m∈xs++[m]; simp
  ·show xs.length≤(xs++[m]).length; simp
  ·show (xs++[m]).length≤xs.length + 1; simp
  ·show (xs++[m])[i]? = xs[i]?; rw [List.getElem?_append_left hi]
  ·show refsBad (((xs++[m]).length:Nat):Int) m = false
   exact refs_mono hr (by simp; omega)
theorem pm_put {f:Int} {xs:List TMsg} {m:TMsg} (h:codeL f xs = 0) (g:∀ x∈xs,goodMsg x) (gm:goodMsg m) (hm:codeM f m = 0) (hr:refsBad xs.length m = false) (hp:(putL xs m).2 = 0):m6 f xs m = some ⟨0,(putL xs m).1⟩:=by
 have hl:=(codeL_ok h).len
 obtain ⟨p1,p2⟩:=put_good (m:=m) hl g gm
 unfold m6
 rw [led_impl f xs (by omega) g,h]
 simp only [obs,bne_self_eq_false,cond_false]
 rw [msg_impl f m gm,hm]
 simp only [obs,bne_self_eq_false,cond_false]
 rw [put_impl xs m hl g gm,hr]
 simp only [obs,cond_false,hp,beq_self_eq_true,cond_true,ownLed_ok _ (show (putL xs m).1.length≤1048576 by omega) p2]
theorem pm_again {f:Int} {xs ys:List TMsg} {m:TMsg} (h:PutOk f xs m ys) (g:∀ x∈ys,goodMsg x) (gm:goodMsg m) (hm:codeM f m = 0):m6 f ys m = some ⟨0,ys⟩:=by
 have e:putL ys m = (ys,0):=by
  unfold putL
  rw [atM_mem,decide_eq_true h.mem]; rfl
 rw [pm_put h.code g gm hm h.refs (by rw [e]),e]
theorem pm_two (f:Int) (xs:List TMsg) (m:TMsg) (h:xs.length≤1048576) (g:∀ x∈xs,goodMsg x) (gm:goodMsg m):∃ y,m6 f xs m = some y∧((y.Code≠0∧m7 f xs m = some y)∨(y.Code = 0∧codeL f xs = 0∧codeM f m = 0∧PutOk f xs m y.Ledger∧∀ x∈y.Ledger,goodMsg x)):=by
 by_cases hc:codeL f xs = 0
 rotate_left
 ·have e:(codeL f xs != 0) = true:=by simpa using hc
  refine ⟨⟨codeL f xs,[]⟩,?_,.inl ⟨hc,?_⟩⟩
  ·unfold m6; rw [led_impl f xs h g]; simp only [obs,e,cond_true]
  ·unfold m7; rw [led_spec f xs h g]; simp only [obs,e,cond_true]
 have hl:=(codeL_ok hc).len
 by_cases hm:codeM f m = 0
 rotate_left
 ·have e:(codeM f m != 0) = true:=by simpa using hm
  refine ⟨⟨codeM f m,[]⟩,?_,.inl ⟨hm,?_⟩⟩
  ·unfold m6; rw [led_impl f xs h g,hc,msg_impl f m gm]; simp only [obs,bne_self_eq_false,cond_false,e,cond_true]
  ·unfold m7; rw [led_spec f xs h g,hc,msg_spec f m gm]; simp only [obs,bne_self_eq_false,cond_false,e,cond_true]
 cases hr:refsBad xs.length m
 rotate_left
 ·refine ⟨⟨4,[]⟩,?_,.inl ⟨by show (4:Int)≠0; omega,?_⟩⟩
  ·unfold m6; rw [led_impl f xs h g,hc,msg_impl f m gm,hm,put_impl xs m hl g gm,hr]; rfl
  ·unfold m7; rw [led_spec f xs h g,hc,msg_spec f m gm,hm,refs_spec m xs.length gm,hr]; rfl
 by_cases hp:(putL xs m).2 = 0
 ·exact ⟨_,pm_put hc g gm hm hr hp,.inr ⟨rfl,hc,hm,put_post hc hm hr hp,(put_good hl g gm).2⟩⟩
 ·have hk':(putL xs m).2 = 2∧(putL xs m).1 = []:=by
   unfold putL at hp ⊢
   cases h1:decide (atM xs m ≥ 0)
   ·cases h2:((xs.length:Int) == 240)
    ·rw [h1,h2] at hp; exact absurd rfl hp
    ·exact ⟨rfl,rfl⟩
   ·rw [h1] at hp; exact absurd rfl hp
  have e:putL xs m = ([],2):=Prod.ext hk'.2 hk'.1
  refine ⟨⟨2,[]⟩,?_,.inl ⟨by show (2:Int)≠0; omega,?_⟩⟩
  ·unfold m6; rw [led_impl f xs h g,hc,msg_impl f m gm,hm,put_impl xs m hl g gm,hr,cond_false,e]; rfl
  ·unfold m7; rw [led_spec f xs h g,hc,msg_spec f m gm,hm,refs_spec m xs.length gm,hr,put_spec xs m hl g gm,e]; rfl
theorem sent_ok {f:Int} {ys:List TMsg} {m:TMsg} (h:codeL f ys = 0) (g:∀ x∈ys,goodMsg x) (hm:m∈ys) (hf:1≤m.From∧m.From≤manyI f):∃ L:List Int,m9 f ys m.From = some ⟨0,L⟩∧(L.length:Int) > 0:=by
 have hl:=(codeL_ok h).len
 unfold m9
 rw [led_impl f ys (by omega) g,h,repl_in,inR_t.2 hf]
 simp only [obs,bne_self_eq_false,cond_false,Bool.not_true]
 obtain ⟨o,h1,j,L,rfl,h2⟩:=loop_idx (f:=ms9_0 ys m.From) (fun i t=>∃ L:List Int,t = ((i:Int),L)∧L.length≤i∧∀ j (hj:j < ys.length),j < i→ys[j].From = m.From→L≠[]) ys.length (fun o=>∃ (j:Int) (L:List Int),o = .exit 0 (j,L)∧L≠[]) (fun i t hi ht=>by
  obtain ⟨L,rfl,k1,k2⟩:=ht
  unfold ms9_0
  dsimp only
  by_cases hc:i < ys.length
  ·have hc':(i:Int) < (ys.length:Int):=by omega
   simp only [hc',decide_true,cond_true,getN hc,obs]
   cases he:ys[i].From == m.From
   ·simp only [cond_false,obs,contO,wi1 (show i≤1099511627776 by omega)]
    refine .inl ⟨hc,_,rfl,L,rfl,by omega,fun j hj hij hq=>?_⟩
    by_cases e:j = i
    ·subst e; rw [hq] at he; simp at he
    ·exact k2 j hj (by omega) hq
   ·simp only [cond_true,appN (show L.length + [(i:Int)].length≤2097152 by simp; omega) (show 8≤1000 by decide),obs,contO,wi1 (show i≤1099511627776 by omega)]
    exact .inl ⟨hc,_,rfl,_,rfl,by simp; omega,fun j hj hij hq=>by simp⟩
  ·have hc':¬ (i:Int) < (ys.length:Int):=by omega
   simp only [hc',decide_false,cond_false]
   obtain ⟨j,hj,e⟩:=List.mem_iff_getElem.1 hm
   exact .inr (.inl ⟨_,_,rfl,_,_,rfl,k2 j hj (by omega) (by rw [e])⟩)) NN 0 (0,[]) (by omega) (NN_l (by omega)) ⟨[],rfl,by simp,fun j hj h0=>by omega⟩
 rw [h1]
 simp only [obs,contO,if_true]
 refine ⟨L,rfl,?_⟩
 cases L
 ·exact absurd rfl h2
 ·simp
theorem found_ok (y1:Int×(List TMsg)×TMsg) (y2:TLedgerResult) (h:PutOk y1.1 y1.2.1 y1.2.2 y2.Ledger) (g:∀ x∈y2.Ledger,goodMsg x):loopO (ms3_0 y1 y2) NN (false,0,0) = some (.exit 0 (false,1,(y2.Ledger.length:Int))):=by
 have hl:=(codeL_ok h.code).len
 rw [loop_all (f:=ms3_0 y1 y2) (s0:=(false,0,0)) (fun i=>(false,((y2.Ledger.take i).count y1.2.2:Int),(i:Int))) y2.Ledger.length (.exit 0 (false,1,(y2.Ledger.length:Int))) (fun i hi=>?_) ?_ rfl (NN_l (by omega)) rfl]
 ·unfold ms3_0
  simp only [Int.lt_irrefl,decide_false,cond_false,List.take_length]
  rw [(codeL_ok h.code).nd.count,if_pos h.mem]
  rfl
 ·have hc':(i:Int) < (y2.Ledger.length:Int):=by omega
  have gi:=g _ (List.getElem_mem hi)
  have hcnt:(y2.Ledger.take i).count y1.2.2≤i:=Nat.le_trans List.count_le_length (List.length_take_le _ _)
  unfold ms3_0
  simp only [hc',decide_true,cond_true,getN hi,obs,same_impl _ y1.2.2 gi]
  have e:(((y2.Ledger.take (i + 1)).count y1.2.2:Nat):Int) = bif decide (y2.Ledger[i] = y1.2.2) then wi .i64 (((y2.Ledger.take i).count y1.2.2:Int) + 1) else ((y2.Ledger.take i).count y1.2.2:Int):=by
   rw [take_snoc' hi,List.count_append,List.count_singleton,wi64 (by omega) (by omega)]
   by_cases q:y2.Ledger[i] = y1.2.2
   ·simp [q]
   ·simp [q]
  rw [e]
  by_cases hx:i < y1.2.1.length
  ·have q:=h.eq i hx
   rw [List.getElem?_eq_getElem hi,List.getElem?_eq_getElem hx] at q
   injection q with q
   have hx':(i:Int) < (y1.2.1.length:Int):=by omega
   have hs:m8 y2.Ledger[i] y1.2.1[i] = some true:=by rw [same_impl _ _ gi,decide_eq_true q]
   cases decide (y2.Ledger[i] = y1.2.2) <;> simp only [cond_true,cond_false,obs,contO,hx',decide_true,getN hx,hs,Bool.not_true,wi1 (show i≤1099511627776 by omega)]
  ·have hx':¬ (i:Int) < (y1.2.1.length:Int):=by omega
   cases decide (y2.Ledger[i] = y1.2.2) <;> simp only [cond_true,cond_false,obs,contO,hx',decide_false,wi1 (show i≤1099511627776 by omega)]
theorem led_law (code:List U8) (h:∀ x∈code,0≤x.v∧x.v≤255):m3 code = some true:=by
 unfold m3 m4
 by_cases hl:(code.length:Int) > 1048576
 ·simp only [hl,decide_true,cond_true]
 obtain ⟨f,xs,m,hd,⟨hx1,hx2⟩,hm⟩:=drawn (code:=code) ⟨by omega,h⟩
 have g:∀ x∈xs,goodMsg x:=fun x hx=>(hx2 x hx).good
 obtain ⟨y,a1,a2⟩:=pm_two f xs m (by omega) g hm.good
 simp only [hl,decide_false,cond_false,hd,obs,a1]
 rcases a2 with ⟨b1,b2⟩ | ⟨b1,b2,b3,b4,b5⟩
 ·have e:(y.Code != 0) = true:=by simpa using b1
  simp only [e,cond_true,b2,obs,beq_self_eq_true]
 ·have e:(y.Code != 0) = false:=by simpa using b1
  have M:=codeM_ok b3
  have hf:=(codeL_ok b2).f12
  obtain ⟨L,c1,c2⟩:=sent_ok (m:=m) b4.code b5 b4.mem M.frm
  obtain ⟨t,t1,t2⟩:=text_eq f m hf b3 hm.good
  have hlen:=(codeL_ok b4.code).len
  have hlo:=b4.lo
  have hhi:=b4.hi
  have hmf:m13 f m = some 0:=by
   unfold m13
   rw [show m32 f = inR f 1 2 from in2 _ _ _,inR_t.2 hf,msg_impl f m hm.good,b3]
   rfl
  simp only [e,cond_false,pm_again b4 b5 hm.good b3,obs]
  rw [found_ok (f,xs,m) y b4 b5]
  have hdf:wi .i64 ((y.Ledger.length:Int) - (xs.length:Int))≤1:=by rw [wi64 (by omega) (by omega)]; omega
  simp only [obs,contO,if_true,c1,t1,t2,led_impl f y.Ledger (by omega) b5,b4.code,beq_self_eq_true,cond_true,c2,decide_true,hmf,hdf]
end Go.Proofs.YtkbdneigeghbaaaDoor
