/- Messages and ledgers: sizes, copies, likeness. -/
import Derived.Test.YtifocmbeahpopaaW1
import Derived.Test.YtifocmbeahpopaaRh6
import Derived.Test.YtifocmbeahpopaaRh10
namespace Go.Proofs.Ytifocmbeahpopaa
theorem obs {α β:Type} {x:α} {f:α→Option β}:(some x).bind f = f x:=rfl
open Go Go.Rf
set_option linter.unusedVariables false
set_option linter.unusedSimpArgs false
theorem NN_eq:NN = 9223372036854775808:=by unfold NN maxLen; rfl
theorem NN_l {n:Nat} (h:n≤1048576):n < NN:=by rw [NN_eq]; omega
def okMsg (m:TMsg):Prop:=m.Certs.length≤maxLen∧m.Refs.length≤maxLen
def goodMsg (m:TMsg):Prop:=m.Certs.length≤1048576∧m.Refs.length≤1048576
theorem szMsg_ok:Sz (fun x l=>some (m5 x l)) okMsg goodMsg:=by
 rintro x ⟨h1,h2⟩ l k0 k1
 refine ⟨_,rfl,?_⟩
 obtain ⟨y,hy,hy2⟩:=gSl_ok x.Certs h1 l k0 k1
 injection hy with hy
 unfold m5
 rw [show m17 x.Certs l = y from hy]
 by_cases c1:y < 0
 ·simp only [c1,decide_true,cond_true]; intro h; omega
 obtain ⟨e1,e2⟩:=hy2 (by omega)
 obtain ⟨z,hz,hz2⟩:=gSl_ok x.Refs h2 y (by omega) (by omega)
 injection hz with hz
 rw [show m18 x.Refs y = z from hz]
 by_cases c2:z < 0
 ·simp only [c1,c2,decide_true,decide_false,cond_true,cond_false]; intro h; omega
 simp only [c1,c2,decide_false,cond_false]
 intro h
 obtain ⟨e3,e4⟩:=hz2 h
 exact ⟨by omega,e2,e4⟩
theorem szMsgS_ok:Sz (m4) (fun xs=>xs.length≤maxLen∧∀ x∈xs,okMsg x) (fun xs=>xs.length≤1048576∧∀ x∈xs,goodMsg x):=gS_ok szMsg_ok (NN_l (Nat.le_refl _))
theorem toI_ok (xs:List Int) (h:xs.length≤1048576):m24 xs = some xs:=gT_ok (t:=fun x=>x) (z:=0) (by_:=8) (fun _=>rfl) (NN_l h) h (by omega)
theorem toCerts_ok (xs:List TCert) (h:xs.length≤1048576):m23 xs = some xs:=gT_ok (t:=m43) (z:=(⟨0,0,0⟩:TCert)) (by_:=24) (fun _=>rfl) (NN_l h) h (by omega)
theorem toMsg_ok (x:TMsg) (h:goodMsg x):m8 x = some x:=by
 unfold m8
 rw [toCerts_ok _ h.1,obs,toI_ok _ h.2]; rfl
theorem toMsgs_ok (xs:List TMsg) (h:xs.length≤1048576) (g:∀ x∈xs,goodMsg x):m7 xs = some xs:=gTo_ok (t:=m8) (z:=(⟨0,0,0,0,0,[],[]⟩:TMsg)) (by_:=88) (fun x hx=>toMsg_ok x (g x hx)) (NN_l h) h (by omega)
theorem big_l {n:Nat} (h:n≤1048576):n≤big:=by unfold big; omega
theorem eqI_ok (xs:List Int) (h:xs.length≤1048576):m30 xs xs = some true:=gE_self (ne:=fun a b=>a != b) (fun a=>by simp) (NN_l h) (big_l h)
theorem eqCerts_ok (xs:List TCert) (h:xs.length≤1048576):m29 xs xs = some true:=gE_self (ne:=fun a b=>!(m60 a b)) (fun a=>by simp [m60]) (NN_l h) (big_l h)
theorem eqMsgs_ok (xs:List TMsg) (h:xs.length≤1048576) (g:∀ x∈xs,goodMsg x):m11 xs xs = some true:=gEo_self (eq:=m12) (fun a ha=>by
 unfold m12
 rw [eqCerts_ok _ (g a ha).1,eqI_ok _ (g a ha).2]
 simp) (NN_l h) (big_l h)
open Go Go.Rf
set_option linter.unusedVariables false
set_option linter.unusedSimpArgs false
def inR (n lo hi:Int):Bool:=decide (lo≤n∧n≤hi)
theorem in1 (n lo hi:Int):m37 n lo hi = inR n lo hi:=by
 unfold m37 inR
 by_cases h:n ≥ lo
 ·simp [h]
 ·simp [h]
theorem in2 (n lo hi:Int):m48 n lo hi = inR n lo hi:=in1 n lo hi
theorem slotted_in (k:Int):m47 k = inR k 1 3:=in1 _ _ _
theorem view_in (k:Int):m49 k = inR k 0 20:=in1 _ _ _
theorem slot_in (k:Int):m51 k = inR k 1 30:=in1 _ _ _
theorem value_in (k:Int):m52 k = inR k 0 12:=in1 _ _ _
def manyI (f:Int):Int:=wi .i64 ((wi .i64 (3 * f)) + 1)
theorem repl_in (f k:Int):m50 f k = inR k 1 (manyI f):=in1 _ _ _
theorem id_in (f k:Int):m38 f k = inR k 1 (manyI f):=in1 _ _ _
theorem tr_bare1 (a b c d e f g h:Bool):(bif !a then
    some (LO.norm true)
   else
    bif !b then
     bif c then
      some (LO.norm true)
     else
      bif d then
       some (LO.norm true)
      else
       bif e then
        bif f then
         some (LO.norm true)
        else
         bif g then
          some (LO.norm h)
         else
          some (LO.norm false)
       else
        bif g then
         some (LO.norm h)
        else
         some (LO.norm false)
    else
     bif e then
      bif f then
       some (LO.norm true)
      else
       bif g then
        some (LO.norm h)
       else
        some (LO.norm false)
     else
      bif g then
       some (LO.norm h)
      else
       some (LO.norm false)) = some (LO.norm (!((a && (b || (!c && !d))) && ((!e || !f) && (!g || !h))))):=by
 cases a <;> cases b <;> cases c <;> cases d <;> cases e <;> cases f <;> cases g <;> cases h <;> rfl
theorem tr_bare2 (a b c d e f g h:Bool):(bif a then
   bif b then
    bif e then
     bif g then
      some (LO.norm true)
     else
      some (LO.norm h)
    else
     bif f then
      bif g then
       some (LO.norm true)
      else
       some (LO.norm h)
     else
      some (LO.norm false)
   else
    bif c then
     bif d then
      bif e then
       bif g then
        some (LO.norm true)
       else
        some (LO.norm h)
      else
       bif f then
        bif g then
         some (LO.norm true)
        else
         some (LO.norm h)
       else
        some (LO.norm false)
     else
      some (LO.norm false)
    else
     some (LO.norm false)
  else
   some (LO.norm false)) = some (LO.norm ((a && (b || (c && d))) && ((e || f) && (g || h)))):=by
 cases a <;> cases b <;> cases c <;> cases d <;> cases e <;> cases f <;> cases g <;> cases h <;> rfl
theorem tr_rng (a b c d e:Bool):(bif !a then
      some (LO.norm true)
     else
      bif !b then
       some (LO.norm true)
      else
       bif c then
        bif !d then
         some (LO.norm true)
        else
         some (LO.norm (!e))
       else
        some (LO.norm false)) = some (LO.norm (!a || (!b || (c && (!d || !e))))):=by
 cases a <;> cases b <;> cases c <;> cases d <;> cases e <;> rfl
theorem tr_cert (a b c:Bool):(bif !a then
     some (LO.norm true)
    else
     bif !b then
      some (LO.norm true)
     else
      some (LO.norm (!c))) = some (LO.norm (!a || (!b || !c))):=by
 cases a <;> cases b <;> cases c <;> rfl
def bareB (m:TMsg):Bool:=(inR m.Kind 1 5 && (inR m.Kind 1 3 || ((m.Slot == 0) && (m.Value == 0)))) && (((m.Kind == 4) || ((m.Certs.length:Int) == 0)) && ((m.Kind == 5) || ((m.Refs.length:Int) == 0)))
def rangeB (f:Int) (m:TMsg):Bool:=!inR m.View 0 20 || (!inR m.From 1 (manyI f) || (inR m.Kind 1 3 && (!inR m.Slot 1 30 || !inR m.Value 0 12)))
def certBad (v:Int) (c:TCert):Bool:=!inR c.Slot 1 30 || (!inR c.View 0 (wi .i64 (v - 1)) || !inR c.Value 0 12)
def dropS (xs:List Int) (i:Nat):Bool:=decide (0 < i) && decide (A xs i≤A xs (i - 1))
def riseB (xs:List Int):Bool:=(fstN (dropS xs) xs.length).isNone
def refBad (r:Int):Bool:=!inR r 0 239
noncomputable def codeM (f:Int) (m:TMsg):Int:=bif bareB m then bif rangeB f m then 3 else bif decide ((m.Certs.length:Int) > 30) then 2 else bif decide ((m.Refs.length:Int) > manyI f) then 2 else bif riseB (m.Certs.map (·.Slot)) then bif riseB m.Refs then bif m.Certs.any (certBad m.View) then 3 else bif m.Refs.any refBad then 3 else 0 else 1 else 1 else 1
theorem A_map {α:Type} {g:α→Int} {cs:List α} {i:Nat} (h:i < cs.length):A (cs.map g) i = g cs[i]:=by simp [A,h]
theorem wi_pred {i:Nat} (h0:0 < i) (h:i≤big):wi .i64 ((i:Int) - 1) = ((i - 1:Nat):Int):=by
 unfold big at h
 rw [wi64 (by omega) (by omega)]; omega
theorem fst_shift {p:Nat→Bool} (n:Nat) (h0:p 0 = false):(fstN (fun i=>p (i + 1)) (n - 1)).isNone = (fstN p n).isNone:=by
 rw [Bool.eq_iff_iff,Option.isNone_iff_eq_none,Option.isNone_iff_eq_none,fst_none_iff,fst_none_iff]
 constructor
 ·intro h j hj
  cases j with
  | zero=>exact h0
  | succ j=>exact h j (by omega)
 ·intro h j hj; exact h (j + 1) (by omega)
theorem orF_none {β:Type} {x:Option Nat} {out:Nat→β} {fin:β} (h:x.isNone = true):orF x out fin = fin:=by
 cases x
 ·rfl
 ·cases h
theorem orF_some {β:Type} {x:Option Nat} {out:Nat→β} {fin:β} (h:x.isNone = false):∃ i,orF x out fin = out i:=by
 cases x
 ·cases h
 ·exact ⟨_,rfl⟩
theorem riseC1 (m:TMsg) (hg:goodMsg m) (s:Int):∃ j,loopO (ms26_0 m) NN (s,0) = some (bif riseB (m.Certs.map (·.Slot)) then .exit 1 (s,j) else .ret (1,j)):=by
 rw [loop_first (f:=ms26_0 m) (s0:=(s,0)) (fun i=>(s,(i:Int))) m.Certs.length (dropS (m.Certs.map (·.Slot))) (fun i=>.ret (1,(i:Int))) (.exit 1 (s,(m.Certs.length:Int))) (fun i hi _ hp=>?_) (fun i hi _ hp=>?_) (fun _=>?_) (NN_l hg.1) rfl]
 ·unfold riseB
  rw [List.length_map]
  cases h:(fstN (dropS (m.Certs.map (·.Slot))) m.Certs.length).isNone
  ·obtain ⟨i,hi⟩:=orF_some (out:=fun i=>LO.ret ((1:Int),(i:Int))) (fin:=.exit 1 (s,(m.Certs.length:Int))) h
   exact ⟨_,by rw [hi]; rfl⟩
  ·exact ⟨_,by rw [orF_none h]; rfl⟩
 ·have hc':(i:Int) < (m.Certs.length:Int):=by omega
  have hb:i≤big:=Nat.le_trans (Nat.le_of_lt hi) (big_l hg.1)
  unfold ms26_0
  simp only [hc',decide_true,cond_true,getN hi,obs]
  by_cases h0:0 < i
  ·have h0':(i:Int) > 0:=by omega
   unfold dropS at hp
   rw [A_map hi,A_map (show i - 1 < m.Certs.length by omega),decide_eq_true h0,Bool.true_and] at hp
   simp only [h0',decide_true,cond_true,wi_pred h0 hb,getN (show i - 1 < m.Certs.length by omega),obs,hp,cond_false,contO,wi1 hb]
  ·have h0':¬ (i:Int) > 0:=by omega
   simp only [h0',decide_false,cond_false,obs,contO,wi1 hb]
 ·have hc':(i:Int) < (m.Certs.length:Int):=by omega
  have hb:i≤big:=Nat.le_trans (Nat.le_of_lt hi) (big_l hg.1)
  unfold ms26_0
  unfold dropS at hp
  rw [Bool.and_eq_true,A_map hi,A_map (show i - 1 < m.Certs.length by omega)] at hp
  have h0:0 < i:=of_decide_eq_true hp.1
  have h0':(i:Int) > 0:=by omega
  simp only [hc',decide_true,cond_true,getN hi,obs,h0',wi_pred h0 hb,getN (show i - 1 < m.Certs.length by omega),hp.2,contO]
  exact ⟨trivial,rfl⟩
 ·unfold ms26_0
  simp only [Int.lt_irrefl,decide_false,cond_false]
  exact ⟨trivial,rfl⟩
theorem riseR1 (m:TMsg) (hg:goodMsg m) (s:Int):∃ j,loopO (ms26_1 m) NN (s,0) = some (bif riseB m.Refs then .exit 3 (s,j) else .ret (1,j)):=by
 rw [loop_first (f:=ms26_1 m) (s0:=(s,0)) (fun i=>(s,(i:Int))) m.Refs.length (dropS m.Refs) (fun i=>.ret (1,(i:Int))) (.exit 3 (s,(m.Refs.length:Int))) (fun i hi _ hp=>?_) (fun i hi _ hp=>?_) (fun _=>?_) (NN_l hg.2) rfl]
 ·unfold riseB
  cases h:(fstN (dropS m.Refs) m.Refs.length).isNone
  ·obtain ⟨i,hi⟩:=orF_some (out:=fun i=>LO.ret ((1:Int),(i:Int))) (fin:=.exit 3 (s,(m.Refs.length:Int))) h
   exact ⟨_,by rw [hi]; rfl⟩
  ·exact ⟨_,by rw [orF_none h]; rfl⟩
 ·have hc':(i:Int) < (m.Refs.length:Int):=by omega
  have hb:i≤big:=Nat.le_trans (Nat.le_of_lt hi) (big_l hg.2)
  unfold ms26_1
  simp only [hc',decide_true,cond_true,getN hi,obs]
  by_cases h0:0 < i
  ·have h0':(i:Int) > 0:=by omega
   unfold dropS at hp
   rw [A_get hi,A_get (show i - 1 < m.Refs.length by omega),decide_eq_true h0,Bool.true_and] at hp
   simp only [h0',decide_true,cond_true,wi_pred h0 hb,getN (show i - 1 < m.Refs.length by omega),obs,hp,cond_false,contO,wi1 hb]
  ·have h0':¬ (i:Int) > 0:=by omega
   simp only [h0',decide_false,cond_false,obs,contO,wi1 hb]
 ·have hc':(i:Int) < (m.Refs.length:Int):=by omega
  have hb:i≤big:=Nat.le_trans (Nat.le_of_lt hi) (big_l hg.2)
  unfold ms26_1
  unfold dropS at hp
  rw [Bool.and_eq_true,A_get hi,A_get (show i - 1 < m.Refs.length by omega)] at hp
  have h0:0 < i:=of_decide_eq_true hp.1
  have h0':(i:Int) > 0:=by omega
  simp only [hc',decide_true,cond_true,getN hi,obs,h0',wi_pred h0 hb,getN (show i - 1 < m.Refs.length by omega),hp.2,contO]
  exact ⟨trivial,rfl⟩
 ·unfold ms26_1
  simp only [Int.lt_irrefl,decide_false,cond_false]
  exact ⟨trivial,rfl⟩
theorem wi_suc {i:Nat} (h:i≤1048576):wi .i64 ((i:Int) + 1 + 1) = ((i + 1:Nat):Int) + 1:=by rw [wi64 (by omega) (by omega)]; omega
theorem wi_psuc {i:Nat} (h:i≤1048576):wi .i64 ((i:Int) + 1 - 1) = (i:Int):=by rw [wi64 (by omega) (by omega)]; omega
theorem riseC2 (m:TMsg) (hg:goodMsg m) (s:Int):∃ j,loopO (ms39_0 m) NN (s,1) = some (bif riseB (m.Certs.map (·.Slot)) then .exit 0 (s,j) else .ret (1,j)):=by
 have hg1:=hg.1
 rw [loop_first (f:=ms39_0 m) (s0:=(s,1)) (fun i=>(s,(i:Int) + 1)) (m.Certs.length - 1) (fun i=>dropS (m.Certs.map (·.Slot)) (i + 1)) (fun i=>.ret (1,(i:Int) + 1)) (.exit 0 (s,((m.Certs.length - 1:Nat):Int) + 1)) (fun i hi _ hp=>?_) (fun i hi _ hp=>?_) (fun _=>?_) (NN_l (by omega)) rfl]
 ·unfold riseB
  rw [List.length_map,← fst_shift m.Certs.length (p:=dropS (m.Certs.map (·.Slot))) (by simp [dropS])]
  cases h:(fstN (fun i=>dropS (m.Certs.map (·.Slot)) (i + 1)) (m.Certs.length - 1)).isNone
  ·obtain ⟨i,hi⟩:=orF_some (out:=fun i=>LO.ret ((1:Int),(i:Int) + 1)) (fin:=.exit 0 (s,((m.Certs.length - 1:Nat):Int) + 1)) h
   exact ⟨_,by rw [hi]; rfl⟩
  ·exact ⟨_,by rw [orF_none h]; rfl⟩
 ·have hc':(i:Int) + 1 < (m.Certs.length:Int):=by omega
  have h1:i + 1 < m.Certs.length:=by omega
  have g1:getI m.Certs ((i:Int) + 1) = some m.Certs[i + 1]:=getN (i:=i + 1) h1
  unfold ms39_0
  unfold dropS at hp
  rw [A_map h1,A_map (show i + 1 - 1 < m.Certs.length by omega)] at hp
  simp only [Nat.add_sub_cancel,Nat.zero_lt_succ,decide_true,Bool.true_and] at hp
  simp only [hc',decide_true,cond_true,g1,wi_psuc (show i≤1048576 by omega),getN (show i < m.Certs.length by omega),obs,hp,cond_false,wi_suc (show i≤1048576 by omega)]
 ·have hc':(i:Int) + 1 < (m.Certs.length:Int):=by omega
  have h1:i + 1 < m.Certs.length:=by omega
  have g1:getI m.Certs ((i:Int) + 1) = some m.Certs[i + 1]:=getN (i:=i + 1) h1
  unfold ms39_0
  unfold dropS at hp
  rw [A_map h1,A_map (show i + 1 - 1 < m.Certs.length by omega)] at hp
  simp only [Nat.add_sub_cancel,Nat.zero_lt_succ,decide_true,Bool.true_and] at hp
  simp only [hc',decide_true,cond_true,g1,wi_psuc (show i≤1048576 by omega),getN (show i < m.Certs.length by omega),obs,hp]
  exact ⟨trivial,rfl⟩
 ·have hc':¬ (((m.Certs.length - 1:Nat):Int) + 1 < (m.Certs.length:Int)):=by omega
  unfold ms39_0
  simp only [hc',decide_false,cond_false]
  exact ⟨trivial,rfl⟩
theorem riseR2 (m:TMsg) (hg:goodMsg m) (s:Int):∃ j,loopO (ms39_1 m) NN (s,1) = some (bif riseB m.Refs then .exit 2 (s,j) else .ret (1,j)):=by
 have hg1:=hg.2
 rw [loop_first (f:=ms39_1 m) (s0:=(s,1)) (fun i=>(s,(i:Int) + 1)) (m.Refs.length - 1) (fun i=>dropS m.Refs (i + 1)) (fun i=>.ret (1,(i:Int) + 1)) (.exit 2 (s,((m.Refs.length - 1:Nat):Int) + 1)) (fun i hi _ hp=>?_) (fun i hi _ hp=>?_) (fun _=>?_) (NN_l (by omega)) rfl]
 ·unfold riseB
  rw [← fst_shift m.Refs.length (p:=dropS m.Refs) (by simp [dropS])]
  cases h:(fstN (fun i=>dropS m.Refs (i + 1)) (m.Refs.length - 1)).isNone
  ·obtain ⟨i,hi⟩:=orF_some (out:=fun i=>LO.ret ((1:Int),(i:Int) + 1)) (fin:=.exit 2 (s,((m.Refs.length - 1:Nat):Int) + 1)) h
   exact ⟨_,by rw [hi]; rfl⟩
  ·exact ⟨_,by rw [orF_none h]; rfl⟩
 ·have hc':(i:Int) + 1 < (m.Refs.length:Int):=by omega
  have h1:i + 1 < m.Refs.length:=by omega
  have g1:getI m.Refs ((i:Int) + 1) = some m.Refs[i + 1]:=getN (i:=i + 1) h1
  unfold ms39_1
  unfold dropS at hp
  rw [A_get h1,A_get (show i + 1 - 1 < m.Refs.length by omega)] at hp
  simp only [Nat.add_sub_cancel,Nat.zero_lt_succ,decide_true,Bool.true_and] at hp
  simp only [hc',decide_true,cond_true,g1,wi_psuc (show i≤1048576 by omega),getN (show i < m.Refs.length by omega),obs,hp,cond_false,wi_suc (show i≤1048576 by omega)]
 ·have hc':(i:Int) + 1 < (m.Refs.length:Int):=by omega
  have h1:i + 1 < m.Refs.length:=by omega
  have g1:getI m.Refs ((i:Int) + 1) = some m.Refs[i + 1]:=getN (i:=i + 1) h1
  unfold ms39_1
  unfold dropS at hp
  rw [A_get h1,A_get (show i + 1 - 1 < m.Refs.length by omega)] at hp
  simp only [Nat.add_sub_cancel,Nat.zero_lt_succ,decide_true,Bool.true_and] at hp
  simp only [hc',decide_true,cond_true,g1,wi_psuc (show i≤1048576 by omega),getN (show i < m.Refs.length by omega),obs,hp]
  exact ⟨trivial,rfl⟩
 ·have hc':¬ (((m.Refs.length - 1:Nat):Int) + 1 < (m.Refs.length:Int)):=by omega
  unfold ms39_1
  simp only [hc',decide_false,cond_false]
  exact ⟨trivial,rfl⟩
theorem fst_any' {α:Type} (q:α→Bool) (xs:List α):(fstN (pAt q xs) xs.length).isNone = !xs.any q:=by
 rw [← fst_any]; cases fstN (pAt q xs) xs.length <;> rfl
theorem certL (m:TMsg) (hg:goodMsg m) (s:Int):∃ j,loopO (ms39_2 m) NN (s,0) = some (bif m.Certs.any (certBad m.View) then .ret (3,j) else .exit 4 (s,j)):=by
 rw [loop_first (f:=ms39_2 m) (s0:=(s,0)) (fun i=>(s,(i:Int))) m.Certs.length (pAt (certBad m.View) m.Certs) (fun i=>.ret (3,(i:Int))) (.exit 4 (s,(m.Certs.length:Int))) (fun i hi _ hp=>?_) (fun i hi _ hp=>?_) (fun _=>?_) (NN_l hg.1) rfl]
 ·have e:=fst_any' (certBad m.View) m.Certs
  cases h:m.Certs.any (certBad m.View)
  ·rw [h] at e; exact ⟨_,by rw [orF_none e]; rfl⟩
  ·rw [h] at e
   obtain ⟨i,hi⟩:=orF_some (out:=fun i=>LO.ret ((3:Int),(i:Int))) (fin:=.exit 4 (s,(m.Certs.length:Int))) e
   exact ⟨_,by rw [hi]; rfl⟩
 ·have hc':(i:Int) < (m.Certs.length:Int):=by omega
  have hb:i≤big:=Nat.le_trans (Nat.le_of_lt hi) (big_l hg.1)
  rw [pAt_get hi] at hp
  unfold ms39_2
  simp only [hc',decide_true,cond_true,getN hi,obs,in1,tr_cert]
  unfold certBad at hp
  simp only [hp,cond_false,contO,obs,wi1 hb]
 ·have hc':(i:Int) < (m.Certs.length:Int):=by omega
  rw [pAt_get hi] at hp
  unfold ms39_2
  simp only [hc',decide_true,cond_true,getN hi,obs,in1,tr_cert]
  unfold certBad at hp
  simp only [hp,cond_true,contO,obs]
  exact ⟨trivial,rfl⟩
 ·unfold ms39_2
  simp only [Int.lt_irrefl,decide_false,cond_false]
  exact ⟨trivial,rfl⟩
theorem refL (m:TMsg) (hg:goodMsg m) (s:Int):∃ j,loopO (ms39_3 m) NN (s,0) = some (bif m.Refs.any refBad then .ret (3,j) else .exit 6 (s,j)):=by
 rw [loop_first (f:=ms39_3 m) (s0:=(s,0)) (fun i=>(s,(i:Int))) m.Refs.length (pAt refBad m.Refs) (fun i=>.ret (3,(i:Int))) (.exit 6 (s,(m.Refs.length:Int))) (fun i hi _ hp=>?_) (fun i hi _ hp=>?_) (fun _=>?_) (NN_l hg.2) rfl]
 ·have e:=fst_any' refBad m.Refs
  cases h:m.Refs.any refBad
  ·rw [h] at e; exact ⟨_,by rw [orF_none e]; rfl⟩
  ·rw [h] at e
   obtain ⟨i,hi⟩:=orF_some (out:=fun i=>LO.ret ((3:Int),(i:Int))) (fin:=.exit 6 (s,(m.Refs.length:Int))) e
   exact ⟨_,by rw [hi]; rfl⟩
 ·have hc':(i:Int) < (m.Refs.length:Int):=by omega
  have hb:i≤big:=Nat.le_trans (Nat.le_of_lt hi) (big_l hg.2)
  rw [pAt_get hi] at hp
  unfold ms39_3
  unfold refBad at hp
  simp only [hc',decide_true,cond_true,getN hi,obs,in1,hp,cond_false,wi1 hb]
 ·have hc':(i:Int) < (m.Refs.length:Int):=by omega
  rw [pAt_get hi] at hp
  unfold ms39_3
  unfold refBad at hp
  simp only [hc',decide_true,cond_true,getN hi,obs,in1,hp]
  exact ⟨trivial,rfl⟩
 ·unfold ms39_3
  simp only [Int.lt_irrefl,decide_false,cond_false]
  exact ⟨trivial,rfl⟩
theorem lists_ok (m:TMsg) (hg:goodMsg m):m39 m = some (bif riseB (m.Certs.map (·.Slot)) then bif riseB m.Refs then bif m.Certs.any (certBad m.View) then 3 else bif m.Refs.any refBad then 3 else 0 else 1 else 1):=by
 unfold m39
 obtain ⟨j1,e1⟩:=riseC2 m hg 0
 rw [e1]
 cases riseB (m.Certs.map (·.Slot))
 ·rfl
 simp only [cond_true,obs,contO,if_true]
 obtain ⟨j2,e2⟩:=riseR2 m hg 0
 rw [e2]
 cases riseB m.Refs
 ·rfl
 simp only [cond_true,obs,contO,if_true]
 obtain ⟨j3,e3⟩:=certL m hg 0
 rw [e3]
 cases m.Certs.any (certBad m.View)
 rotate_left
 ·rfl
 simp only [cond_false,obs,contO,if_true]
 obtain ⟨j4,e4⟩:=refL m hg 0
 rw [e4]
 cases m.Refs.any refBad <;> rfl
theorem bare_ok (m:TMsg):m36 m = some (bareB m):=by
 unfold m36
 rw [tr_bare2]
 simp only [in1,obs,contO]
 rfl
theorem msg_spec (f:Int) (m:TMsg) (hg:goodMsg m):m20 f m = some (codeM f m):=by
 unfold m20 codeM
 rw [bare_ok,obs,tr_rng]
 cases hb:bareB m
 ·rfl
 have hk:decide (m.Kind≤3) = inR m.Kind 1 3:=by
  unfold bareB at hb
  rw [Bool.and_eq_true,Bool.and_eq_true] at hb
  have:=hb.1.1
  unfold inR at this ⊢
  have h1:=of_decide_eq_true this
  exact decide_eq_decide.2 ⟨fun h=>⟨h1.1,h⟩,fun h=>h.2⟩
 simp only [in1,id_in,hk,Bool.not_true,cond_false,cond_true,obs,contO]
 rw [show (!inR m.View 0 20 || (!inR m.From 1 (manyI f) || (inR m.Kind 1 3 && (!inR m.Slot 1 30 || !inR m.Value 0 12)))) = rangeB f m from rfl]
 cases hr:rangeB f m
 rotate_left
 ·rfl
 simp only [cond_false,obs,contO]
 cases h1:decide ((m.Certs.length:Int) > 30)
 rotate_left
 ·rfl
 simp only [cond_false]
 cases h2:decide ((m.Refs.length:Int) > manyI f)
 rotate_left
 ·have h2':decide ((m.Refs.length:Int) > wi .i64 ((wi .i64 (3 * f)) + 1)) = true:=h2
  rw [h2']; rfl
 have h2':decide ((m.Refs.length:Int) > wi .i64 ((wi .i64 (3 * f)) + 1)) = false:=h2
 simp only [h2',cond_false,obs,contO,lists_ok m hg]
theorem certF (m:TMsg) (c:TCert):m55 c m = some (certBad m.View c):=by
 unfold m55
 rw [tr_cert]
 simp only [slot_in,value_in,in2,obs,contO]
 rfl
theorem msg_impl (f:Int) (m:TMsg) (hg:goodMsg m):m26 f m = some (codeM f m):=by
 unfold m26 codeM
 rw [tr_bare1,tr_rng]
 have hbare:(!((m48 m.Kind 1 5 && (m47 m.Kind || (!(m.Slot != 0) && !(m.Value != 0)))) && ((!(m.Kind != 4) || !decide ((m.Certs.length:Int) > 0)) && (!(m.Kind != 5) || !decide ((m.Refs.length:Int) > 0))))) = !bareB m:=by
  have e1:∀ n:Nat,(!decide ((n:Int) > 0)) = ((n:Int) == 0):=fun n=>by
   cases n with
   | zero=>rfl
   | succ n=>
    have:((n + 1:Nat):Int) > 0:=by omega
    simp only [this,decide_true,Bool.not_true]
    symm
    simp; omega
  simp only [in2,slotted_in,bne,Bool.not_not,e1]
  rfl
 rw [hbare]
 simp only [obs,contO]
 cases hb:bareB m
 ·rfl
 simp only [Bool.not_true,cond_false,cond_true,obs,contO,view_in,repl_in,slotted_in,slot_in,value_in]
 rw [show (!inR m.View 0 20 || (!inR m.From 1 (manyI f) || (inR m.Kind 1 3 && (!inR m.Slot 1 30 || !inR m.Value 0 12)))) = rangeB f m from rfl]
 cases hr:rangeB f m
 rotate_left
 ·rfl
 simp only [cond_false,obs,contO]
 cases h1:decide ((m.Certs.length:Int) > 30)
 rotate_left
 ·rfl
 simp only [cond_false]
 cases h2:decide ((m.Refs.length:Int) > manyI f)
 rotate_left
 ·have h2':decide ((m.Refs.length:Int) > m53 f) = true:=h2
  rw [h2']; rfl
 have h2':decide ((m.Refs.length:Int) > m53 f) = false:=h2
 simp only [h2',cond_false,obs,contO]
 obtain ⟨j1,e1⟩:=riseC1 m hg 0
 rw [e1]
 cases riseB (m.Certs.map (·.Slot))
 ·rfl
 simp only [cond_true,obs,contO,if_true]
 obtain ⟨j2,e2⟩:=riseR1 m hg 0
 rw [e2]
 cases riseB m.Refs
 ·rfl
 simp only [cond_true,obs,contO,if_true]
 rw [show m54 m.Certs (fun x0_=>m55 x0_ m) = some (m.Certs.any (certBad m.View)) from gCF_ok (NN_l hg.1) (big_l hg.1) (fun x _=>certF m x)]
 cases m.Certs.any (certBad m.View)
 rotate_left
 ·rfl
 simp only [cond_false,obs]
 rw [show m56 m.Refs (fun x0_=>some (m57 x0_)) = some (m.Refs.any refBad) from gCF_ok (NN_l hg.2) (big_l hg.2) (fun x _=>by unfold m57; rw [in2]; rfl)]
 cases m.Refs.any refBad <;> rfl
open Go Go.Rf
set_option linter.unusedVariables false
set_option linter.unusedSimpArgs false
def neC (x1 x2:TCert):Bool:=!(((x1.Slot == x2.Slot) && ((x1.View == x2.View) && ((x1.Value == x2.Value) && true))))
theorem neC_ok (a b:TCert):neC a b = !decide (a = b):=by
 obtain ⟨a1,a2,a3⟩:=a
 obtain ⟨b1,b2,b3⟩:=b
 unfold neC
 congr 1
 rw [Bool.eq_iff_iff]
 simp
theorem neI_ok (a b:Int):(a != b) = !decide (a = b):=by
 rw [Bool.eq_iff_iff]; simp
theorem eqCs_ok (xs ys:List TCert) (h:xs.length≤1048576):m72 xs ys = some (decide (xs = ys)):=gE_ok (ne:=neC) neC_ok (NN_l h) (big_l h)
theorem eqIs_ok (xs ys:List Int) (h:xs.length≤1048576):m73 xs ys = some (decide (xs = ys)):=gE_ok (ne:=fun a b=>a != b) neI_ok (NN_l h) (big_l h)
theorem tr_same1 (a b c d e p q:Bool):(bif a then
   bif b then
    bif c then
     bif d then
      bif e then
       (some p).bind fun y1=>
       bif y1 then
        (some q).bind fun y2=>
        some (LO.norm y2)
       else
        some (LO.norm false)
      else
       some (LO.norm false)
     else
      some (LO.norm false)
    else
     some (LO.norm false)
   else
    some (LO.norm false)
  else
   some (LO.norm false)) = some (LO.norm (a && (b && (c && (d && (e && (p && q))))))):=by
 cases a <;> cases b <;> cases c <;> cases d <;> cases e <;> cases p <;> cases q <;> rfl
theorem tr_same2 (a b c d e f g:Bool):(bif a then
    some (LO.norm true)
   else
    bif b then
     some (LO.norm true)
    else
     bif c then
      some (LO.norm true)
     else
      bif d then
       some (LO.norm true)
      else
       bif e then
        some (LO.norm true)
       else
        bif f then
         some (LO.norm true)
        else
         some (LO.norm g)) = some (LO.norm (a || (b || (c || (d || (e || (f || g))))))):=by
 cases a <;> cases b <;> cases c <;> cases d <;> cases e <;> cases f <;> cases g <;> rfl
theorem msg_eq (a b:TMsg):decide (a = b) = ((a.Kind == b.Kind) && ((a.View == b.View) && ((a.From == b.From) && ((a.Slot == b.Slot) && ((a.Value == b.Value) && (decide (a.Certs = b.Certs) && decide (a.Refs = b.Refs))))))):=by
 obtain ⟨a1,a2,a3,a4,a5,a6,a7⟩:=a
 obtain ⟨b1,b2,b3,b4,b5,b6,b7⟩:=b
 rw [Bool.eq_iff_iff]
 simp
theorem same_impl (a b:TMsg) (hg:goodMsg a):m67 a b = some (decide (a = b)):=by
 unfold m67
 rw [eqCs_ok _ _ hg.1,eqIs_ok _ _ hg.2,tr_same1,msg_eq]
 rfl
theorem same_spec (a b:TMsg) (hg:goodMsg a):m63 a b = some (decide (a = b)):=by
 unfold m63
 rw [tr_same2]
 simp only [obs,contO]
 cases hx:(a.Kind != b.Kind || (a.View != b.View || (a.From != b.From || (a.Slot != b.Slot || (a.Value != b.Value || ((a.Certs.length:Int) != (b.Certs.length:Int) || (a.Refs.length:Int) != (b.Refs.length:Int)))))))
 rotate_left
 ·simp only [cond_true,obs,contO]
  congr 1
  symm
  rw [decide_eq_false_iff_not]
  rintro rfl
  simp at hx
 simp only [cond_false,obs,contO]
 simp only [Bool.or_eq_false_iff,bne_eq_false_iff_eq] at hx
 obtain ⟨h1,h2,h3,h4,h5,h6,h7⟩:=hx
 have hl1:a.Certs.length = b.Certs.length:=by omega
 have hl2:a.Refs.length = b.Refs.length:=by omega
 rcases gE0_loop (ex:=0) (ne:=neC) (N:=NN) neC_ok (NN_l hg.1) (big_l hg.1) hl1 with ⟨e1,j,k1⟩ | ⟨e1,j,k1⟩
 rotate_left
 ·rw [show loopO (ms63_0 a b) NN (false,0) = some (.ret (false,j)) from k1]
  simp only [obs,contO]
  congr 1
  symm
  rw [decide_eq_false_iff_not]
  rintro rfl
  exact e1 rfl
 rw [show loopO (ms63_0 a b) NN (false,0) = some (.exit 0 (false,j)) from k1]
 simp only [obs,contO,if_true]
 rcases gE0_loop (ex:=2) (ne:=fun a b:Int=>a != b) (N:=NN) neI_ok (NN_l hg.2) (big_l hg.2) hl2 with ⟨e2,j2,k2⟩ | ⟨e2,j2,k2⟩
 rotate_left
 ·rw [show loopO (ms63_1 a b) NN (false,0) = some (.ret (false,j2)) from k2]
  simp only [obs,contO]
  congr 1
  symm
  rw [decide_eq_false_iff_not]
  rintro rfl
  exact e2 rfl
 rw [show loopO (ms63_1 a b) NN (false,0) = some (.exit 2 (false,j2)) from k2]
 simp only [obs,contO,if_true]
 congr 1
 symm
 rw [decide_eq_true_eq]
 obtain ⟨a1,a2,a3,a4,a5,a6,a7⟩:=a
 obtain ⟨b1,b2,b3,b4,b5,b6,b7⟩:=b
 simp only at h1 h2 h3 h4 h5 e1 e2
 subst h1; subst h2; subst h3; subst h4; subst h5; subst e1; subst e2
 rfl
def atM (xs:List TMsg) (m:TMsg):Int:=ixI (fstN (pAt (fun x=>decide (x = m)) xs) xs.length)
theorem at_impl (xs:List TMsg) (m:TMsg) (h:xs.length≤1048576) (g:∀ x∈xs,goodMsg x):m46 xs m = some (atM xs m):=by
 unfold m46
 rw [show m65 xs (fun x0_=>m66 x0_ m) = some (atM xs m) from gIF_ok (NN_l h) (big_l h) (fun x hx=>by unfold m66; rw [same_impl x m (g x hx)]; rfl)]
 rfl
theorem at_spec (xs:List TMsg) (m:TMsg) (h:xs.length≤1048576) (g:∀ x∈xs,goodMsg x):m40 xs m = some (atM xs m):=gIF_ok (f:=fun x=>m63 x m) (NN_l h) (big_l h) (fun x hx=>same_spec x m (g x hx))
def refsBad (k:Int) (m:TMsg):Bool:=m.Refs.any fun r=>decide (r ≥ k)
theorem refs_impl (m:TMsg) (k:Int) (hg:goodMsg m):m45 m k = some (!refsBad k m):=by
 unfold m45
 rw [show m56 m.Refs (fun x0_=>some (m64 x0_ k)) = some (refsBad k m) from gCF_ok (NN_l hg.2) (big_l hg.2) (fun x _=>rfl)]
 rfl
theorem refs_spec (m:TMsg) (k:Int) (hg:goodMsg m):m21 m k = some (!refsBad k m):=gA_ok (q:=fun r=>decide (r ≥ k)) (NN_l hg.2) (big_l hg.2)
noncomputable def ledBad (f:Int) (xs:List TMsg) (i:Nat):Bool:=(xs[i]?).any fun x=>(codeM f x != 0) || (refsBad i x || decide (x∈xs.take i))
noncomputable def ledVal (f:Int) (xs:List TMsg) (i:Nat):Int:=match xs[i]? with
 | some x=>bif codeM f x != 0 then codeM f x else bif refsBad i x then 4 else 6
 | none=>0
noncomputable def codeL (f:Int) (xs:List TMsg):Int:=bif !inR f 1 2 then 3 else bif decide ((xs.length:Int) > 240) then 2 else orF (fstN (ledBad f xs) xs.length) (ledVal f xs) 0
theorem ledBad_get {f:Int} {xs:List TMsg} {i:Nat} (h:i < xs.length):ledBad f xs i = ((codeM f xs[i] != 0) || (refsBad i xs[i] || decide (xs[i]∈xs.take i))):=by
 unfold ledBad; rw [List.getElem?_eq_getElem h]; rfl
theorem ledVal_get {f:Int} {xs:List TMsg} {i:Nat} (h:i < xs.length):ledVal f xs i = (bif codeM f xs[i] != 0 then codeM f xs[i] else bif refsBad i xs[i] then 4 else 6):=by
 unfold ledVal; rw [List.getElem?_eq_getElem h]
theorem sub_take {α:Type} {xs:List α} {i:Nat} (h:i≤xs.length):subI xs 0 (i:Int) = some (xs.take i):=by
 unfold subI
 rw [if_pos ⟨by omega,by omega,by omega⟩]
 simp
theorem atM_take {xs:List TMsg} {i:Nat} (h:i < xs.length):decide (atM (xs.take i) xs[i] ≥ 0) = decide (xs[i]∈xs.take i):=by
 unfold atM
 rw [ixI_ge,fst_any,Bool.eq_iff_iff]
 simp
theorem atM_first {xs:List TMsg} {i:Nat} (h:i < xs.length):(atM xs xs[i] != (i:Int)) = decide (xs[i]∈xs.take i):=by
 unfold atM
 by_cases hm:xs[i]∈xs.take i
 ·rw [decide_eq_true hm]
  obtain ⟨j,hj,e⟩:=List.mem_iff_getElem.1 hm
  rw [List.length_take] at hj
  rw [List.getElem_take] at e
  rcases fst_cases (pAt (fun x=>decide (x = xs[i])) xs) xs.length with h' | ⟨k,h1,h2,h3⟩
  ·have:=h' j (by omega)
   rw [pAt_get (by omega)] at this
   simp [e] at this
  ·rw [fstN_some h1 h2 h3]
   have hk:k≤j:=by
    rcases Nat.lt_or_ge j k with hlt | hge
    ·have:=h2 j hlt
     rw [pAt_get (by omega)] at this
     simp [e] at this
    ·exact hge
   simp only [ixI,bne_iff_ne,ne_eq]
   omega
 ·rw [decide_eq_false hm]
  rw [fstN_some h (fun j hj=>by
   rw [pAt_get (by omega),decide_eq_false_iff_not]
   intro e
   exact hm (List.mem_iff_getElem.2 ⟨j,by rw [List.length_take]; omega,by rw [List.getElem_take]; exact e⟩)) (by rw [pAt_get h]; simp)]
  simp [ixI]
theorem led_impl (f:Int) (xs:List TMsg) (h:xs.length≤1048576) (g:∀ x∈xs,goodMsg x):m25 f xs = some (codeL f xs):=by
 unfold m25 codeL
 rw [show m44 f = inR f 1 2 from in1 _ _ _]
 cases inR f 1 2
 ·rfl
 simp only [Bool.not_true,cond_false]
 cases decide ((xs.length:Int) > 240)
 rotate_left
 ·rfl
 simp only [cond_false]
 rw [loop_first (f:=ms25_0 f xs) (s0:=(0,0)) (fun i=>(0,(i:Int))) xs.length (ledBad f xs) (fun i=>.ret (ledVal f xs i,(i:Int))) (.exit 1 (0,(xs.length:Int))) (fun i hi _ hp=>?_) (fun i hi _ hp=>?_) (fun _=>?_) (NN_l h) rfl]
 ·cases fstN (ledBad f xs) xs.length <;> rfl
 ·have hc':(i:Int) < (xs.length:Int):=by omega
  have gi:=g _ (List.getElem_mem hi)
  rw [ledBad_get hi,Bool.or_eq_false_iff,Bool.or_eq_false_iff] at hp
  obtain ⟨p1,p2,p3⟩:=hp
  unfold ms25_0
  simp only [hc',decide_true,cond_true,getN hi,obs,msg_impl f _ gi,p1,cond_false,refs_impl _ _ gi,p2,Bool.not_false,Bool.not_true,sub_take (Nat.le_of_lt hi),at_impl (xs.take i) xs[i] (by rw [List.length_take]; omega) (fun x hx=>g x (List.mem_of_mem_take hx)),atM_take hi,p3,wi1 (show i≤1099511627776 by omega)]
 ·have hc':(i:Int) < (xs.length:Int):=by omega
  have gi:=g _ (List.getElem_mem hi)
  rw [ledBad_get hi] at hp
  rw [ledVal_get hi]
  unfold ms25_0
  simp only [hc',decide_true,cond_true,getN hi,obs,msg_impl f _ gi,refs_impl _ _ gi,sub_take (Nat.le_of_lt hi),at_impl (xs.take i) xs[i] (by rw [List.length_take]; omega) (fun x hx=>g x (List.mem_of_mem_take hx)),atM_take hi]
  cases e1:codeM f xs[i] != 0
  ·cases e2:refsBad i xs[i]
   ·rw [e1,e2,Bool.false_or,Bool.false_or] at hp
    rw [hp]
    exact ⟨rfl,rfl⟩
   ·exact ⟨rfl,rfl⟩
  ·exact ⟨rfl,rfl⟩
 ·unfold ms25_0
  simp only [Int.lt_irrefl,decide_false,cond_false]
  exact ⟨trivial,rfl⟩
theorem led_spec (f:Int) (xs:List TMsg) (h:xs.length≤1048576) (g:∀ x∈xs,goodMsg x):m19 f xs = some (codeL f xs):=by
 unfold m19 m35 codeL
 rw [show m34 f = inR f 1 2 from in1 _ _ _]
 cases inR f 1 2
 ·rfl
 simp only [Bool.not_true,cond_false]
 cases decide ((xs.length:Int) > 240)
 rotate_left
 ·rfl
 simp only [cond_false]
 rw [loop_first (f:=ms35_0 f xs) (s0:=(0,0)) (fun i=>(0,(i:Int))) xs.length (ledBad f xs) (fun i=>.ret (ledVal f xs i,(i:Int))) (.exit 0 (0,(xs.length:Int))) (fun i hi _ hp=>?_) (fun i hi _ hp=>?_) (fun _=>?_) (NN_l h) rfl]
 ·cases fstN (ledBad f xs) xs.length <;> rfl
 ·have hc':(i:Int) < (xs.length:Int):=by omega
  have gi:=g _ (List.getElem_mem hi)
  rw [ledBad_get hi,Bool.or_eq_false_iff,Bool.or_eq_false_iff] at hp
  obtain ⟨p1,p2,p3⟩:=hp
  unfold ms35_0
  simp only [hc',decide_true,cond_true,getN hi,obs,msg_spec f _ gi,p1,cond_false,refs_spec _ _ gi,p2,Bool.not_false,Bool.not_true,at_spec xs xs[i] h g,atM_first hi,p3,wi1 (show i≤1099511627776 by omega)]
 ·have hc':(i:Int) < (xs.length:Int):=by omega
  have gi:=g _ (List.getElem_mem hi)
  rw [ledBad_get hi] at hp
  rw [ledVal_get hi]
  unfold ms35_0
  simp only [hc',decide_true,cond_true,getN hi,obs,msg_spec f _ gi,refs_spec _ _ gi,at_spec xs xs[i] h g,atM_first hi]
  cases e1:codeM f xs[i] != 0
  ·cases e2:refsBad i xs[i]
   ·rw [e1,e2,Bool.false_or,Bool.false_or] at hp
    rw [hp]
    exact ⟨rfl,rfl⟩
   ·exact ⟨rfl,rfl⟩
  ·exact ⟨rfl,rfl⟩
 ·unfold ms35_0
  simp only [Int.lt_irrefl,decide_false,cond_false]
  exact ⟨trivial,rfl⟩
structure MsgOk (f:Int) (m:TMsg):Prop where
 kind:1≤m.Kind∧m.Kind≤5
 bare:4≤m.Kind→m.Slot = 0∧m.Value = 0
 certs0:m.Kind≠4→m.Certs = []
 refs0:m.Kind≠5→m.Refs = []
 view:0≤m.View∧m.View≤20
 frm:1≤m.From∧m.From≤manyI f
 slot:m.Kind≤3→1≤m.Slot∧m.Slot≤30
 value:m.Kind≤3→0≤m.Value∧m.Value≤12
 certsl:m.Certs.length≤30
 refsl:(m.Refs.length:Int)≤manyI f
 cert:∀ c∈m.Certs,(1≤c.Slot∧c.Slot≤30)∧(0≤c.View∧c.View≤m.View - 1)∧(0≤c.Value∧c.Value≤12)
 ref:∀ r∈m.Refs,0≤r∧r≤239
theorem inR_t {n lo hi:Int}:inR n lo hi = true ↔ lo≤n∧n≤hi:=by unfold inR; simp
theorem codeM_ok {f:Int} {m:TMsg} (h:codeM f m = 0):MsgOk f m:=by
 unfold codeM at h
 cases hb:bareB m
 ·rw [hb] at h; cases h
 cases hr:rangeB f m
 rotate_left
 ·rw [hb,hr] at h; cases h
 cases h1:decide ((m.Certs.length:Int) > 30)
 rotate_left
 ·rw [hb,hr,h1] at h; cases h
 cases h2:decide ((m.Refs.length:Int) > manyI f)
 rotate_left
 ·rw [hb,hr,h1,h2] at h; cases h
 rw [hb,hr,h1,h2] at h
 simp only [cond_true,cond_false] at h
 cases h3:riseB (m.Certs.map (·.Slot))
 ·rw [h3] at h; cases h
 cases h4:riseB m.Refs
 ·rw [h3,h4] at h; cases h
 cases h5:m.Certs.any (certBad m.View)
 rotate_left
 ·rw [h3,h4,h5] at h; cases h
 cases h6:m.Refs.any refBad
 rotate_left
 ·rw [h3,h4,h5,h6] at h; cases h
 unfold bareB at hb
 unfold rangeB at hr
 simp only [Bool.and_eq_true,Bool.or_eq_true,inR_t,beq_iff_eq] at hb
 simp only [Bool.or_eq_false_iff,Bool.not_eq_false',Bool.and_eq_false_imp,inR_t] at hr
 obtain ⟨⟨b1,b2⟩,b3,b4⟩:=hb
 obtain ⟨r1,r2,r3⟩:=hr
 rw [decide_eq_false_iff_not] at h1 h2
 rw [List.any_eq_false] at h5 h6
 refine ⟨b1,fun hk=>?_,fun hk=>?_,fun hk=>?_,r1,r2,fun hk=>(r3 ⟨b1.1,hk⟩).1,fun hk=>(r3 ⟨b1.1,hk⟩).2,by omega,by omega,fun c hc=>?_,fun r hr=>?_⟩
 ·rcases b2 with b2 | b2
  ·omega
  ·exact b2
 ·rcases b3 with b3 | b3
  ·exact absurd b3 hk
  ·exact List.eq_nil_of_length_eq_zero (by omega)
 ·rcases b4 with b4 | b4
  ·exact absurd b4 hk
  ·exact List.eq_nil_of_length_eq_zero (by omega)
 ·have:=h5 c hc
  unfold certBad at this
  simp only [Bool.not_eq_true,Bool.or_eq_false_iff,Bool.not_eq_false',inR_t] at this
  obtain ⟨c1,c2,c3⟩:=this
  rw [wi64 (by omega) (by omega)] at c2
  exact ⟨c1,c2,c3⟩
 ·have:=h6 r hr
  unfold refBad at this
  simp only [Bool.not_eq_true,Bool.not_eq_false',inR_t] at this
  exact this
structure LedOk (f:Int) (xs:List TMsg):Prop where
 f12:1≤f∧f≤2
 len:xs.length≤240
 msg:∀ x∈xs,MsgOk f x
 refs:∀ (i:Nat) (h:i < xs.length),∀ r∈xs[i].Refs,r < i
 nd:xs.Nodup
theorem codeL_ok {f:Int} {xs:List TMsg} (h:codeL f xs = 0):LedOk f xs:=by
 unfold codeL at h
 cases h1:inR f 1 2
 ·rw [h1] at h; cases h
 cases h2:decide ((xs.length:Int) > 240)
 rotate_left
 ·rw [h1,h2] at h; cases h
 rw [h1,h2] at h
 simp only [Bool.not_true,cond_false] at h
 have hall:∀ j,j < xs.length→ledBad f xs j = false:=by
  rcases fst_cases (ledBad f xs) xs.length with h' | ⟨i,k1,k2,k3⟩
  ·exact h'
  ·rw [fstN_some k1 k2 k3] at h
   simp only [orF] at h
   rw [ledVal_get k1] at h
   cases e1:codeM f xs[i] != 0
   ·rw [e1] at h
    cases e2:refsBad i xs[i] <;> rw [e2] at h <;> cases h
   ·rw [e1] at h
    simp only [cond_true] at h
    rw [h] at e1
    cases e1
 rw [inR_t] at h1
 rw [decide_eq_false_iff_not] at h2
 have hi:∀ (i:Nat) (h:i < xs.length),codeM f xs[i] = 0∧refsBad i xs[i] = false∧xs[i] ∉ xs.take i:=fun i hl=>by
  have:=hall i hl
  rw [ledBad_get hl] at this
  simpa using this
 refine ⟨h1,by omega,fun x hx=>?_,fun i hl r hr=>?_,?_⟩
 ·obtain ⟨i,hl,rfl⟩:=List.mem_iff_getElem.1 hx
  exact codeM_ok (hi i hl).1
 ·have:=(hi i hl).2.1
  unfold refsBad at this
  rw [List.any_eq_false] at this
  have:=this r hr
  simp at this; omega
 ·rw [List.nodup_iff_pairwise_ne,List.pairwise_iff_getElem]
  intro i j hi1 hj1 hij e
  exact (hi j hj1).2.2 (List.mem_iff_getElem.2 ⟨i,by rw [List.length_take]; omega,by rw [List.getElem_take]; exact e⟩)
open Go Go.Rf
set_option linter.unusedVariables false
set_option linter.unusedSimpArgs false
theorem many_val {f:Int} (h:1≤f∧f≤2):manyI f = 3 * f + 1:=by
 unfold manyI
 rw [wi64 (x:=3 * f) (by omega) (by omega),wi64 (by omega) (by omega)]
theorem LedOk.good {f:Int} {xs:List TMsg} (h:LedOk f xs):∀ x∈xs,goodMsg x:=fun x hx=>by
 have m:=h.msg x hx
 have:=m.refsl
 have:=many_val h.f12
 have:=h.f12
 exact ⟨Nat.le_trans m.certsl (by omega),by omega⟩
theorem appN {α:Type} {b:Nat} {L ys:List α} (h:L.length + ys.length≤2097152) (hb:b≤1000):appO b L ys = some (L++ys):=by
 unfold appO
 rw [if_pos (Nat.le_trans (Nat.mul_le_mul h (show b + 1≤1001 by omega)) (by decide))]
theorem app0 {α:Type} {b:Nat} {ys:List α} (h:ys.length≤1048576) (hb:b≤1000):appO b [] ys = some ys:=by
 rw [appN (by simp only [List.length_nil]; omega) hb]; rfl
theorem cpLoop {α:Type} {f:Int×List α→Option (LO (Int×List α))} {xs:List α} {b:Nat} {e:Nat} (hl:xs.length≤1048576) (hb:b≤1000)
  (h1:∀ (i:Nat) (hi:i < xs.length) (s:List α),f ((i:Int),s) = (appO b s [xs[i]]).bind fun z=>some (.norm (wi .i64 ((i:Int) + 1),z))) (h0:∀ s,f ((xs.length:Int),s) = some (.exit e ((xs.length:Int),s))) :
  loopO f NN (0,[]) = some (.exit e ((xs.length:Int),xs)):=by
 rw [loop_all (f:=f) (s0:=(0,[])) (fun i=>((i:Int),xs.take i)) xs.length (.exit e ((xs.length:Int),xs.take xs.length)) (fun i hi=>?_) ?_ rfl (NN_l hl) rfl]
 ·rw [List.take_length]
 ·rw [h0]
 ·rw [h1 i hi,appN (by simp; omega) hb,obs,wi1 (show i≤1099511627776 by omega),List.take_succ_eq_append_getElem hi]
theorem ownMsg_ok (m:TMsg) (h:goodMsg m):m59 m = some m:=by
 unfold m59
 rw [show m70 m.Certs = some m.Certs from app0 h.1 (by decide),obs,show m71 m.Refs = some m.Refs from app0 h.2 (by decide)]; rfl
theorem cpMsg_ok (m:TMsg) (h:goodMsg m):m42 m = some m:=by
 unfold m42
 rw [app0 h.1 (by decide),obs,app0 h.2 (by decide)]; rfl
theorem ownLed_ok (xs:List TMsg) (h:xs.length≤1048576) (g:∀ m∈xs,goodMsg m):m28 xs = some xs:=by
 unfold m28
 rw [cpLoop (b:=88) h (by decide) (fun i hi s=>by
  have hc':(i:Int) < (xs.length:Int):=by omega
  unfold ms28_0
  simp only [hc',decide_true,cond_true,getN hi,obs,ownMsg_ok _ (g _ (List.getElem_mem hi))]) (fun s=>by
  unfold ms28_0
  simp only [Int.lt_irrefl,decide_false,cond_false]
  rfl)]
 rfl
theorem cpLed_ok (xs:List TMsg) (h:xs.length≤1048576) (g:∀ m∈xs,goodMsg m):m41 xs = some xs:=by
 unfold m41
 rw [cpLoop (b:=88) h (by decide) (fun i hi s=>by
  have hc':(i:Int) < (xs.length:Int):=by omega
  unfold ms41_0
  simp only [hc',decide_true,cond_true,getN hi,obs,cpMsg_ok _ (g _ (List.getElem_mem hi))]) (fun s=>by
  unfold ms41_0
  simp only [Int.lt_irrefl,decide_false,cond_false]
  rfl)]
 rfl
noncomputable def putL (xs:List TMsg) (m:TMsg):List TMsg×Int:=bif decide (atM xs m ≥ 0) then (xs,0) else bif (xs.length:Int) == 240 then ([],2) else (xs++[m],0)
theorem put_spec (xs:List TMsg) (m:TMsg) (h:xs.length≤240) (g:∀ x∈xs,goodMsg x) (gm:goodMsg m):m22 xs m = some (putL xs m):=by
 unfold m22 putL
 have e:decide ((xs.length:Int) ≥ 240) = ((xs.length:Int) == 240):=by
  rw [Bool.eq_iff_iff]; simp; omega
 rw [at_spec xs m (by omega) g,cpLed_ok xs (by omega) g,cpMsg_ok m gm,e]
 simp only [obs]
 rw [appN (show xs.length + [m].length≤2097152 by simp; omega) (by decide)]
 cases decide (atM xs m ≥ 0) <;> cases ((xs.length:Int) == 240) <;> rfl
theorem put_impl (xs:List TMsg) (m:TMsg) (h:xs.length≤240) (g:∀ x∈xs,goodMsg x) (gm:goodMsg m):m27 xs m = some (bif refsBad xs.length m then ([],4) else putL xs m):=by
 unfold m27 putL
 rw [refs_impl m xs.length gm,at_impl xs m (by omega) g,ownMsg_ok m gm,show m58 xs = some xs from app0 (by omega) (by decide)]
 simp only [obs]
 rw [appN (show xs.length + [m].length≤2097152 by simp; omega) (by decide)]
 cases refsBad xs.length m <;> cases decide (atM xs m ≥ 0) <;> cases ((xs.length:Int) == 240) <;> rfl
theorem put_good {xs:List TMsg} {m:TMsg} (h:xs.length≤240) (g:∀ x∈xs,goodMsg x) (gm:goodMsg m):(putL xs m).1.length≤241∧∀ x∈(putL xs m).1,goodMsg x:=by
 unfold putL
 cases decide (atM xs m ≥ 0)
 ·cases ((xs.length:Int) == 240)
  ·exact ⟨by show (xs++[m]).length≤241; simp; omega,fun x hx=>by
    rcases List.mem_append.1 (show x∈xs++[m] from hx) with h | h
    ·exact g x h
    ·rw [List.mem_singleton.1 h]; exact gm⟩
  ·exact ⟨Nat.zero_le _,fun x hx=>by cases hx⟩
 ·exact ⟨by show xs.length≤241; omega,g⟩
theorem NN_20:1048576 < NN:=by rw [NN_eq]; omega
def hInt (x k k':Int):Prop:=x = k∧k' = k + 1
theorem hInt_m:∀ x k k',hInt x k k'→k≤k':=fun x k k' h=>by obtain ⟨_,rfl⟩:=h; omega
abbrev few {α:Type} (good:α→Prop) (xs:List α):Prop:=xs.length≤1048576∧∀ x∈xs,good x
theorem mkInt:Mks m32 (MKL hInt) (few fun _=>True) (1048576 * 1):=
 gMk (F:=ms32_0) (good:=fun _=>True) (by omega) NN_20 (fun k i a x _ hx hi h0 hb hk hB=>by
  have hB:k + 1≤1152921504606846976:=hB
  refine ⟨k + 1,k,?_,⟨rfl,rfl⟩,by omega,by omega⟩
  unfold ms32_0
  simp (disch:=omega) only [hi,decide_true,cond_true,hx,obs,letO_eq,wiK]) (fun k i a h=>by
  unfold ms32_0
  simp only [h,decide_false,cond_false])
theorem hdInt:Hds m62 (MKL hInt):=
 gHd (F:=ms62_0) hInt_m NN_20 (fun xs k r i k' x hx hi h0 hb hk hB h=>by
  obtain ⟨rfl,rfl⟩:=h
  have hB:x + 1≤1152921504606846976:=hB
  refine ⟨r,?_⟩
  unfold ms62_0
  simp (disch:=omega) only [hi,decide_true,cond_true,hx,obs,bne_self_eq_false,cond_false,wiK]) (fun xs k r i h=>by
  unfold ms62_0
  simp only [h,decide_false,cond_false])
def hCert (x:TCert) (k k':Int):Prop:=x = ⟨k,k + 1,k + 1 + 1⟩∧k' = k + 1 + 1 + 1
theorem hCert_m:∀ x k k',hCert x k k'→k≤k':=fun x k k' h=>by obtain ⟨_,rfl⟩:=h; omega
theorem mkCerts:Mks m31 (MKL hCert) (few fun _=>True) (1048576 * 3):=
 gMk (F:=ms31_0) (good:=fun _=>True) (by omega) NN_20 (fun k i a x _ hx hi h0 hb hk hB=>by
  have hB:k + 3≤1152921504606846976:=hB
  refine ⟨k + 1 + 1 + 1,⟨k,k + 1,k + 1 + 1⟩,?_,⟨rfl,rfl⟩,by omega,by omega⟩
  unfold ms31_0
  simp (disch:=omega) only [hi,decide_true,cond_true,hx,obs,letO_eq,wiK,getI_set hx,getI_set (getI_set hx _),List.set_set]) (fun k i a h=>by
  unfold ms31_0
  simp only [h,decide_false,cond_false])
theorem hdCerts:Hds m61 (MKL hCert):=
 gHd (F:=ms61_0) hCert_m NN_20 (fun xs k r i k' x hx hi h0 hb hk hB h=>by
  obtain ⟨rfl,rfl⟩:=h
  have hB:k + 1 + 1 + 1≤1152921504606846976:=hB
  refine ⟨r,?_⟩
  unfold ms61_0
  simp (disch:=omega) only [hi,decide_true,cond_true,hx,obs,bne_self_eq_false,cond_false,wiK]) (fun xs k r i h=>by
  unfold ms61_0
  simp only [h,decide_false,cond_false])
def hMsg (x:TMsg) (k k':Int):Prop:=x.Kind = k∧x.View = k + 1∧x.From = k + 1 + 1∧x.Slot = k + 1 + 1 + 1∧x.Value = k + 1 + 1 + 1 + 1∧∃ j,MKL hCert x.Certs (k + 1 + 1 + 1 + 1 + 1) j∧MKL hInt x.Refs j k'
theorem hMsg_m:∀ x k k',hMsg x k k'→k≤k':=fun x k k' h=>by
 obtain ⟨_,_,_,_,_,j,h1,h2⟩:=h
 have:=MKL.mono hCert_m _ _ _ h1
 have:=MKL.mono hInt_m _ _ _ h2
 omega
abbrev gMsg (m:TMsg):Prop:=m.Certs.length≤1048576∧m.Refs.length≤1048576
theorem mkMsgs:Mks m13 (MKL hMsg) (few gMsg) (1048576 * 4194309):=
 gMk (F:=ms13_0) (good:=gMsg) (by omega) NN_20 (fun k i a x hg hx hi h0 hb hk hB=>by
  have hB:k + 4194309≤1152921504606846976:=hB
  obtain ⟨j,cs,q1,q2,q3,q4⟩:=mkCerts x.Certs (k + 1 + 1 + 1 + 1 + 1) ⟨hg.1,fun _ _=>trivial⟩ (by omega) (show _≤(1152921504606846976:Int) by omega)
  obtain ⟨k',rs,p1,p2,p3,p4⟩:=mkInt x.Refs j ⟨hg.2,fun _ _=>trivial⟩ (by omega) (show _≤(1152921504606846976:Int) by omega)
  refine ⟨k',⟨k,k + 1,k + 1 + 1,k + 1 + 1 + 1,k + 1 + 1 + 1 + 1,cs,rs⟩,?_,⟨rfl,rfl,rfl,rfl,rfl,j,q2,p2⟩,by omega,by omega⟩
  unfold ms13_0
  simp (disch:=omega) only [hi,decide_true,cond_true,hx,obs,letO_eq,wiK,q1,p1,getI_set hx,getI_set (getI_set hx _),getI_set (getI_set (getI_set hx _) _),getI_set (getI_set (getI_set (getI_set hx _) _) _),getI_set (getI_set (getI_set (getI_set (getI_set hx _) _) _) _),getI_set (getI_set (getI_set (getI_set (getI_set (getI_set hx _) _) _) _) _),List.set_set]) (fun k i a h=>by
  unfold ms13_0
  simp only [h,decide_false,cond_false])
theorem hdMsgs:Hds m33 (MKL hMsg):=
 gHd (F:=ms33_0) hMsg_m NN_20 (fun xs k r i k' x hx hi h0 hb hk hB h=>by
  have hB:k'≤1152921504606846976:=hB
  obtain ⟨g1,g2,g3,g4,g5,j,q1,q2⟩:=h
  have m1:=MKL.mono hCert_m _ _ _ q1
  have m2:=MKL.mono hInt_m _ _ _ q2
  have e1:=hdCerts _ _ _ q1 (by omega) (show _≤(1152921504606846976:Int) by omega)
  have e2:=hdInt _ _ _ q2 (by omega) (show _≤(1152921504606846976:Int) by omega)
  have n1:¬ j < 0:=by omega
  have n2:¬ k' < 0:=by omega
  refine ⟨r,?_⟩
  unfold ms33_0
  simp (disch:=omega) only [hi,decide_true,cond_true,hx,obs,g1,g2,g3,g4,g5,bne_self_eq_false,cond_false,wiK,e1,e2,n1,n2,decide_false]) (fun xs k r i h=>by
  unfold ms33_0
  simp only [h,decide_false,cond_false])
theorem mkMsg1 (m:TMsg) (k:Int) (gm:goodMsg m) (h0:0≤k) (hk:k≤1125899906842625):∃ k' m',m14 m k = some (k',m')∧0≤k':=by
 obtain ⟨k1,y1,p1,_,p3,p4⟩:=mkCerts m.Certs k ⟨gm.1,fun _ _=>trivial⟩ h0 (show k + 1048576 * 3≤(1152921504606846976:Int) by omega)
 obtain ⟨k2,y2,q1,_,q3,q4⟩:=mkInt m.Refs k1 ⟨gm.2,fun _ _=>trivial⟩ (by omega) (show k1 + 1048576 * 1≤(1152921504606846976:Int) by omega)
 refine ⟨k2,{ m with Certs:=y1,Refs:=y2 },?_,by omega⟩
 unfold m14
 rw [p1]
 simp only [obs,letO_eq]
 rw [q1]
 rfl
theorem eqMsg1 (m:TMsg) (gm:goodMsg m):m12 m m = some true:=by
 unfold m12
 rw [eqCerts_ok _ gm.1,eqI_ok _ gm.2]
 simp
theorem mkLedR (x:TLedgerResult) (g:few gMsg x.Ledger):∃ k' x',m15 x 1 = some (k',x')∧m16 x' 1 = some k'∧0≤k':=by
 obtain ⟨k',y,h1,h2,h3,h4⟩:=mkMsgs x.Ledger 1 g (by omega) (by decide)
 have h4:k'≤1 + 1048576 * 4194309:=h4
 refine ⟨k',{ x with Ledger:=y },?_,?_,by omega⟩
 ·unfold m15
  rw [h1]; rfl
 ·unfold m16
  rw [hdMsgs y 1 k' h2 (by omega) (show k'≤(1152921504606846976:Int) by omega)]
  have:¬ k' < 0:=by omega
  simp only [obs,this,decide_false,cond_false]
theorem eqLedR (x:TLedgerResult) (g:few goodMsg x.Ledger):m10 x x = some true:=by
 unfold m10
 rw [eqMsgs_ok _ g.1 g.2]
 simp
theorem pm_eq (f:Int) (xs:List TMsg) (m:TMsg) (h:xs.length≤1048576) (g:∀ x∈xs,goodMsg x) (gm:goodMsg m):∃ y,m6 f xs m = some y∧m9 f xs m = some y∧few goodMsg y.Ledger:=by
 have nil:∀ c:Int,few goodMsg (⟨c,[]⟩:TLedgerResult).Ledger:=fun c=>⟨Nat.zero_le _,fun x hx=>by cases hx⟩
 unfold m6 m9
 rw [led_spec f xs h g,led_impl f xs h g]
 simp only [obs]
 by_cases hc:codeL f xs = 0
 rotate_left
 ·have e:(codeL f xs != 0) = true:=by simpa using hc
  simp only [e,cond_true]
  exact ⟨_,rfl,rfl,nil _⟩
 have hl:=(codeL_ok hc).len
 have e:(codeL f xs != 0) = false:=by simpa using hc
 simp only [e,cond_false]
 rw [msg_spec f m gm,msg_impl f m gm]
 simp only [obs]
 by_cases hm:codeM f m = 0
 rotate_left
 ·have e:(codeM f m != 0) = true:=by simpa using hm
  simp only [e,cond_true]
  exact ⟨_,rfl,rfl,nil _⟩
 have e:(codeM f m != 0) = false:=by simpa using hm
 simp only [e,cond_false]
 rw [refs_spec m xs.length gm,put_spec xs m hl g gm,put_impl xs m hl g gm]
 simp only [obs,Bool.not_not]
 cases hr:refsBad xs.length m
 rotate_left
 ·exact ⟨_,rfl,rfl,nil _⟩
 obtain ⟨p1,p2⟩:=put_good (m:=m) hl g gm
 simp only [cond_false,ownLed_ok _ (show (putL xs m).1.length≤1048576 by omega) p2,obs]
 cases hk:(putL xs m).2 == 0
 ·have hk':(putL xs m).2 = 2∧(putL xs m).1 = []:=by
   unfold putL at hk ⊢
   cases h1:decide (atM xs m ≥ 0)
   ·cases h2:((xs.length:Int) == 240)
    ·rw [h1,h2] at hk; cases hk
    ·exact ⟨rfl,rfl⟩
   ·rw [h1] at hk; cases hk
  have hk2:((putL xs m).2 != 0) = true:=by rw [hk'.1]; rfl
  rw [hk'.1,hk'.2]
  exact ⟨_,rfl,rfl,nil _⟩
 ·have hk':(putL xs m).2 = 0:=by simpa using hk
  refine ⟨⟨0,(putL xs m).1⟩,?_,?_,by show (putL xs m).1.length≤_; omega,p2⟩
  ·rw [hk']
  ·simp only [hk',bne_self_eq_false,cond_false,beq_self_eq_true,cond_true]
theorem pm_law (f:Int) (xs:List TMsg) (m:TMsg) (h:xs.length≤maxLen∧∀ x∈xs,okMsg x) (hm:okMsg m):m3 f xs m = some true:=by
 unfold m3
 obtain ⟨y,h1,h2⟩:=szMsgS_ok xs h 1048576 (by omega) (by omega)
 have h1:m4 xs 1048576 = some y:=h1
 rw [h1,obs]
 by_cases hy:y < 0
 ·simp only [hy,decide_true,cond_true]
 obtain ⟨hl,g⟩:=h2 (by omega)
 simp only [hy,decide_false,cond_false]
 obtain ⟨z,k1,k2⟩:=szMsg_ok m hm y (by omega) hl
 have k1:m5 m y = z:=by injection k1
 rw [k1]
 by_cases hz:z < 0
 ·simp only [hz,decide_true,cond_true]
 have gm:=(k2 (by omega)).2
 simp only [hz,decide_false,cond_false]
 obtain ⟨w,e1,e2,e3⟩:=pm_eq f xs m g.1 g.2 gm
 obtain ⟨k,c',q1,_,q3,q4⟩:=mkMsgs xs 1 g (by omega) (by decide)
 have q4:k≤1 + 1048576 * 4194309:=q4
 obtain ⟨k0,r',p0,p00⟩:=mkMsg1 m k gm (by omega) (by omega)
 obtain ⟨k2,w',p1,p2,p3⟩:=mkLedR w e3
 have hk:¬ k0 < 0:=by omega
 have hk2:¬ k2 < 0:=by omega
 simp only [toMsgs_ok xs g.1 g.2,toMsg_ok m gm,e1,e2,eqLedR w e3,eqMsgs_ok xs g.1 g.2,eqMsg1 m gm,q1,p0,p1,p2,hk,hk2,obs,Bool.not_true,contO,bne_self_eq_false,decide_false,cond_false]
end Go.Proofs.Ytifocmbeahpopaa
