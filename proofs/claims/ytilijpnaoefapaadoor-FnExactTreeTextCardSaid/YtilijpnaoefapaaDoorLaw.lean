/- The order of texts. -/
import Derived.Test.YtilijpnaoefapaaDoorW1
import Derived.Test.YtilijpnaoefapaaDoorRh6
import Derived.Test.YtilijpnaoefapaaDoorRh11
namespace Go.Proofs.YtilijpnaoefapaaDoor
theorem obs {α β:Type} {x:α} {f:α→Option β}:(some x).bind f = f x:=rfl
open Go Go.Rf
set_option linter.unusedVariables false
set_option linter.unusedSimpArgs false
theorem less_irr:∀ x:Str,Op.bytesLess x x = false
 | []=>rfl
 | a::x=>by simp [Op.bytesLess,less_irr x]
theorem less_trans:∀ {x y z:Str},Op.bytesLess x y = true→Op.bytesLess y z = true→Op.bytesLess x z = true
 | _,[],_,h,_=>by cases h':(‹Str›:Str) <;> simp [Op.bytesLess] at h
 | _,_::_,[],_,h=>by simp [Op.bytesLess] at h
 | [],_::_,_::_,_,_=>rfl
 | a::x,b::y,c::z,h,k=>by
  simp only [Op.bytesLess,Bool.or_eq_true,decide_eq_true_eq,Bool.and_eq_true,beq_iff_eq] at h k ⊢
  rcases h with h | ⟨rfl,h⟩
  ·rcases k with k | ⟨rfl,k⟩
   ·exact .inl (UInt8.lt_trans h k)
   ·exact .inl h
  ·rcases k with k | ⟨rfl,k⟩
   ·exact .inl k
   ·exact .inr ⟨rfl,less_trans h k⟩
theorem cmp_lt:∀ x y:Str,decide (Lib.compareBytes x y < 0) = Op.bytesLess x y
 | [],[]=>rfl
 | [],_::_=>rfl
 | _::_,[]=>rfl
 | a::x,b::y=>by
  have ih:=cmp_lt x y
  unfold Lib.compareBytes
  simp only [Op.bytesLess]
  by_cases h:a < b
  ·simp [h]
  ·by_cases h2:b < a
   ·have:a≠b:=fun e=>by subst e; exact h h2
    simp [h,h2,this]
   ·have:a = b:=UInt8.le_antisymm (UInt8.not_lt.1 h2) (UInt8.not_lt.1 h)
    subst this
    simp [h,ih]
theorem cmp_eq0:∀ x y:Str,(Lib.compareBytes x y == 0) = (x == y)
 | [],[]=>rfl
 | [],_::_=>rfl
 | _::_,[]=>rfl
 | a::x,b::y=>by
  have ih:=cmp_eq0 x y
  unfold Lib.compareBytes
  by_cases h:a < b
  ·have:a≠b:=fun e=>by subst e; exact UInt8.lt_irrefl _ h
   simp [h,this]
  ·by_cases h2:b < a
   ·have:a≠b:=fun e=>by subst e; exact h h2
    simp [h,h2,this]
   ·have:a = b:=UInt8.le_antisymm (UInt8.not_lt.1 h2) (UInt8.not_lt.1 h)
    subst this
    simp only [h,if_false,ih]
    rw [Bool.eq_iff_iff]
    simp
def rises (ks:List Str):Prop:=∀ (i:Nat) (hi:i + 1 < ks.length),Op.bytesLess ks[i] ks[i + 1] = true
theorem rise_lt {ks:List Str} (h:rises ks):∀ (d i:Nat) (hi:i + d + 1 < ks.length),Op.bytesLess ks[i] ks[i + d + 1] = true
 | 0,i,hi=>h i hi
 | d + 1,i,hi=>less_trans (rise_lt h d i (by omega)) (h (i + d + 1) hi)
theorem rise_lt' {ks:List Str} (h:rises ks) {i j:Nat} (hij:i < j) (hj:j < ks.length):Op.bytesLess ks[i] ks[j] = true:=by
 obtain ⟨d,rfl⟩:∃ d,j = i + d + 1:=⟨j - i - 1,by omega⟩
 exact rise_lt h d i hj
theorem stands {ks:List Str} (h:rises ks) {p:Str} {i:Nat} (h1:∀ k (hk:k < ks.length),k < i→Op.bytesLess ks[k] p = true) (h2:∀ k (hk:k < ks.length),i≤k→Op.bytesLess ks[k] p = false):p∈ks ↔ ∃ hi:i < ks.length,ks[i] = p:=by
 constructor
 ·intro hp
  obtain ⟨k,hk,rfl⟩:=List.mem_iff_getElem.1 hp
  by_cases hki:k < i
  ·have:=h1 k hk hki
   rw [less_irr] at this; cases this
  ·refine ⟨by omega,?_⟩
   by_cases e:k = i
   ·subst e; rfl
   ·have:=rise_lt' h (i:=i) (j:=k) (by omega) hk
    rw [h2 i (by omega) (Nat.le_refl _)] at this; cases this
 ·rintro ⟨hi,rfl⟩
  exact List.getElem_mem hi
theorem rise_inj {ks:List Str} (h:rises ks) {i j:Nat} (hi:i < ks.length) (hj:j < ks.length) (e:ks[i] = ks[j]):i = j:=by
 rcases Nat.lt_trichotomy i j with q | q | q
 ·have:=rise_lt' h q hj
  rw [e,less_irr] at this; cases this
 ·exact q
 ·have:=rise_lt' h q hi
  rw [e,less_irr] at this; cases this
theorem less_tot:∀ {x y:Str},Op.bytesLess x y = false→x≠y→Op.bytesLess y x = true
 | [],[],_,h=>absurd rfl h
 | [],_::_,h,_=>by simp [Op.bytesLess] at h
 | _::_,[],_,_=>rfl
 | a::x,b::y,h,k=>by
  simp only [Op.bytesLess,Bool.or_eq_false_iff,decide_eq_false_iff_not,Bool.and_eq_false_imp,beq_iff_eq,Bool.or_eq_true,decide_eq_true_eq,Bool.and_eq_true] at h ⊢
  by_cases e:a = b
  ·subst e
   exact .inr ⟨rfl,less_tot (h.2 rfl) fun e=>k (by rw [e])⟩
  ·exact .inl (UInt8.lt_of_le_of_ne (UInt8.not_lt.1 h.1) (Ne.symm e))
open Go Go.Rf
set_option linter.unusedVariables false
set_option linter.unusedSimpArgs false
theorem NN_eq:NN = 9223372036854775808:=by unfold NN maxLen; rfl
theorem NN_l {n:Nat} (h:n≤1048576):n < NN:=by rw [NN_eq]; omega
theorem big_l {n:Nat} (h:n≤1048576):n≤big:=by unfold big; omega
theorem sub_take {α:Type} {xs:List α} {i:Nat} (h:i≤xs.length):subI xs 0 (i:Int) = some (xs.take i):=by
 unfold subI
 rw [if_pos ⟨by omega,by omega,by omega⟩]
 simp
theorem wi_next {i:Nat} (h:i≤1048576):wi .i64 ((i:Int) + 1 + 1) = ((i + 1:Nat):Int) + 1:=by rw [wi64 (by omega) (by omega)]; omega
theorem appS {L:List Str} {k:Str} (h:L.length≤1048577):appO 16 L [k] = some (L++[k]):=by
 unfold appO
 rw [if_pos (by simp; omega)]
theorem u8_47 (b:UInt8):((b.toNat:Int) == 47) = (b == 47):=by
 rw [Bool.eq_iff_iff,beq_iff_eq,beq_iff_eq]
 constructor
 ·intro h
  apply UInt8.toNat_inj.1
  have:(47:UInt8).toNat = 47:=rfl
  omega
 ·rintro rfl; rfl
theorem sub_nat {xs:Str} {i j:Nat} (h1:i≤j) (h2:j≤xs.length):subI xs (i:Int) (j:Int) = some ((xs.drop i).take (j - i)):=by
 unfold subI
 rw [if_pos ⟨by omega,by omega,by omega⟩,Int.toNat_natCast,show ((j:Int) - (i:Int)).toNat = j - i by omega]
theorem cut_ok (a:Str) (h:a.length≤1000):m29 a 47 = some (spl 47 a):=by
 unfold m29
 obtain ⟨o,h1,s,rfl,h2⟩:=loop_idx (f:=ms29_0 a 47) (fun i s=>(i≤a.length∧∃ (fr:Nat) (out:List Str),s = ((fr:Int),(i:Int),out)∧fr≤i∧out.length≤i∧out++hd1 ((a.drop fr).take (i - fr)) (spl 47 (a.drop i)) = spl 47 a)∨(i = a.length + 1∧∃ fr:Int,s = (fr,(i:Int),spl 47 a))) (a.length + 1) (fun o=>∃ s,o = .exit 0 s∧s.2.2 = spl 47 a) (fun i s hi hs=>by
  rcases hs with ⟨hil,fr,out,rfl,h1,h2,h3⟩ | ⟨rfl,fr,rfl⟩
  ·unfold ms29_0
   dsimp only
   have hc:(i:Int)≤(a.length:Int):=by omega
   simp only [hc,decide_true,cond_true]
   by_cases he:i = a.length
   ·subst he
    have e1:((a.length:Int) == (a.length:Int)) = true:=by simp
    simp only [e1,cond_true,sub_nat h1 (Nat.le_refl _),obs,appS (show out.length≤1048577 by omega),contO,wi1 (show a.length≤1099511627776 by omega)]
    refine .inl ⟨by omega,(((a.length + 1:Nat):Int),((a.length + 1:Nat):Int),out++[(a.drop fr).take (a.length - fr)]),rfl,.inr ⟨trivial,((a.length + 1:Nat):Int),?_⟩⟩
    rw [← h3,List.drop_length]
    simp [spl,hd1]
   ·have hlt:i < a.length:=by omega
    have e1:((i:Int) == (a.length:Int)) = false:=by
     rw [Bool.eq_false_iff]; simp; omega
    rw [List.drop_eq_getElem_cons hlt] at h3
    simp only [e1,cond_false,getN hlt,obs,u8_47]
    cases hb:a[i] == 47
    ·simp only [cond_false,obs,contO,wi1 (show i≤1099511627776 by omega)]
     rw [hd1_spl hb] at h3
     refine .inl ⟨by omega,_,rfl,.inl ⟨by omega,fr,out,rfl,by omega,by omega,?_⟩⟩
     rw [← h3]
     congr 2
     rw [show i + 1 - fr = (i - fr) + 1 by omega,List.take_add_one,List.getElem?_drop,show fr + (i - fr) = i by omega,List.getElem?_eq_getElem hlt]
     rfl
    ·simp only [cond_true,sub_nat h1 (Nat.le_of_lt hlt),obs,appS (show out.length≤1048577 by omega),contO,wi1 (show i≤1099511627776 by omega)]
     rw [hd1_cut hb] at h3
     refine .inl ⟨by omega,_,rfl,.inl ⟨by omega,i + 1,out++[(a.drop fr).take (i - fr)],rfl,by omega,by simp; omega,?_⟩⟩
     rw [← h3]
     simp [hd1_nil _ (spl_ne 47 (a.drop (i + 1)))]
  ·unfold ms29_0
   have hc:¬ (((a.length + 1:Nat):Int)≤(a.length:Int)):=by omega
   simp only [hc,decide_false,cond_false]
   exact .inr (.inl ⟨_,_,rfl,_,rfl,rfl⟩)) NN 0 (0,0,[]) (Nat.zero_le _) (NN_l (by omega)) (.inl ⟨Nat.zero_le _,0,[],rfl,Nat.le_refl _,Nat.le_refl _,by simp [hd1_nil _ (spl_ne 47 a)]⟩)
 rw [h1]
 simp [contO,h2]
theorem count_le (a:Str):Lib.countByte a 47≤a.length:=List.count_le_length
theorem minI_ok (c n:Nat) (h:c≤n):minI ((c + 1:Nat):Int) ((n + 1:Nat):Int) = ((c + 1:Nat):Int):=by
 unfold minI
 rw [if_neg (by omega)]
theorem split_ok (a:Str) (h:a.length≤1000):m45 a [47] = some (spl 47 a):=by
 unfold m45 m56
 have hcl:=count_le a
 have e0:((-1:Int) == 0) = false:=rfl
 have e1:(([47]:Str) == ([]:Str)) = false:=rfl
 have e2:decide ((-1:Int) < 0) = true:=rfl
 have e3:m44 a [47] = some (Lib.countByte a 47:Int):=rfl
 have e4:wi .i64 ((Lib.countByte a 47:Int) + 1) = ((Lib.countByte a 47 + 1:Nat):Int):=wi1 (by omega)
 have e5:wi .i64 ((a.length:Int) + 1) = ((a.length + 1:Nat):Int):=wi1 (by omega)
 have e6:mkO 16 ((Lib.countByte a 47 + 1:Nat):Int) ([]:Str) = some (List.replicate (Lib.countByte a 47 + 1) []):=by
  unfold mkO
  rw [if_pos ⟨by omega,by rw [Int.toNat_natCast]; omega⟩,Int.toNat_natCast]
 simp only [e0,e1,e2,e3,e4,e5,minI_ok _ _ hcl,e6,cond_false,cond_true,obs,contO]
 obtain ⟨o,h1,s,rfl,h2⟩:=loop_idx (f:=ms56_0 a [47] 0 ((Lib.countByte a 47 + 1:Nat):Int)) (fun i s=>∃ (t:Str) (b:List Str),s = (t,(i:Int),b)∧b.length = Lib.countByte a 47 + 1∧b.take i++spl 47 t = spl 47 a∧Lib.countByte t 47 + i = Lib.countByte a 47∧t.length≤a.length) (Lib.countByte a 47) (fun o=>∃ s,o = .exit 0 s∧∃ (t:Str) (b:List Str),s = (t,(Lib.countByte a 47:Int),b)∧b.length = Lib.countByte a 47 + 1∧b.take (Lib.countByte a 47)++[t] = spl 47 a) (fun i s hi hs=>by
  obtain ⟨t,b,rfl,g1,g2,g3,g4⟩:=hs
  unfold ms56_0
  have e7:wi .i64 (((Lib.countByte a 47 + 1:Nat):Int) - 1) = (Lib.countByte a 47:Int):=by rw [wi64 (by omega) (by omega)]; omega
  dsimp only
  rw [e5,minI_ok _ _ hcl,e7]
  by_cases hc:i < Lib.countByte a 47
  ·have hc':(i:Int) < (Lib.countByte a 47:Int):=by omega
   rcases index_nat 47 t with hn | ⟨m,hm⟩
   ·have:=(index_none 47 t).1 hn; omega
   ·obtain ⟨q1,q2,q3⟩:=spl_at 47 t m hm
    have e8:m55 t [47] = some (m:Int):=by rw [← hm]; rfl
    have e9:¬ ((m:Int) < 0):=by omega
    have e10:wi .i64 ((m:Int) + 0) = (m:Int):=by rw [wi64 (by omega) (by omega)]; omega
    have e11:wi .i64 ((m:Int) + (([47]:Str).length:Int)) = ((m + 1:Nat):Int):=by
     rw [show (([47]:Str).length:Int) = 1 from rfl]; exact wi1 (by omega)
    have e12:subI t 0 (m:Int) = some (t.take m):=by
     have:=sub_nat (xs:=t) (i:=0) (j:=m) (Nat.zero_le _) (by omega)
     simpa using this
    have e13:subI t ((m + 1:Nat):Int) (t.length:Int) = some (t.drop (m + 1)):=by
     rw [sub_nat (by omega) (Nat.le_refl _),List.take_of_length_le (by simp)]
    simp only [hc',decide_true,cond_true,e8,obs,e9,decide_false,cond_false,e10,e11,e12,e13,getN (show i < b.length by omega),Int.toNat_natCast,wi1 (show i≤1099511627776 by omega)]
    refine .inl ⟨hc,_,rfl,_,_,rfl,by simp [g1],?_,by omega,by simp; omega⟩
    rw [← g2,q2]
    rw [List.take_add_one,List.take_set_of_le (Nat.le_refl _),List.getElem?_set,if_pos rfl,if_pos (by omega)]
    simp
  ·have hc':¬ (i:Int) < (Lib.countByte a 47:Int):=by omega
   simp only [hc',decide_false,cond_false]
   have hi2:i = Lib.countByte a 47:=by omega
   refine .inr (.inl ⟨_,_,rfl,_,rfl,t,b,by rw [hi2],g1,?_⟩)
   rw [← g2,spl_none 47 t (by omega),hi2]) NN 0 (a,0,List.replicate (Lib.countByte a 47 + 1) []) (Nat.zero_le _) (NN_l (by omega)) ⟨a,_,rfl,by simp,by simp,by omega,Nat.le_refl _⟩
 obtain ⟨t,b,rfl,g1,g2⟩:=h2
 rw [h1]
 have e14:wi .i64 ((Lib.countByte a 47:Int) + 1) = ((Lib.countByte a 47 + 1:Nat):Int):=e4
 simp only [obs,contO,if_true,getN (show Lib.countByte a 47 < b.length by omega),Int.toNat_natCast,e14]
 have e15:subI (b.set (Lib.countByte a 47) t) 0 ((Lib.countByte a 47 + 1:Nat):Int) = some (spl 47 a):=by
  rw [sub_take (xs:=b.set (Lib.countByte a 47) t) (i:=Lib.countByte a 47 + 1) (by simp [g1]),← g2]
  rw [List.take_add_one,List.take_set_of_le (Nat.le_refl _),List.getElem?_set,if_pos rfl,if_pos (by omega)]
  simp
 rw [e15]; rfl
theorem name_ok (s:Str) (h:s.length≤1048576):∃ b,m43 s = some b:=by
 unfold m43
 obtain ⟨o,h1,h2⟩:=loop_idx (f:=ms43_0 s) (fun i t=>t = (false,(i:Int))) s.length (fun o=>(∃ t,o = .exit 0 t)∨∃ t,o = .ret t) (fun i t hi ht=>by
  subst ht
  unfold ms43_0
  dsimp only
  by_cases hc:i < s.length
  ·have hc':(i:Int) < (s.length:Int):=by omega
   simp only [hc',decide_true,cond_true,getN hc,obs]
   have key:∀ b:Bool,((some (LO.norm b):Option (LO Bool)).bind (contO (fun s4=>
    bif s4 then
     some (LO.ret false)
    else
     some (LO.norm false)) (fun i1 s4=>
    if i1 = 1 then
     some (LO.norm false)
    else
     some (LO.exit i1 false)) (fun s4=>
    some (LO.ret false)))).bind (contO (fun s5=>
   some (LO.norm (s5,wi .i64 ((i:Int) + 1)))) (fun i2 s5=>
   some (LO.exit i2 (s5,(i:Int)))) (fun s5=>
   some (LO.ret (s5,(i:Int))))) = some (LO.norm (false,((i + 1:Nat):Int)))∨((some (LO.norm b):Option (LO Bool)).bind (contO (fun s4=>
    bif s4 then
     some (LO.ret false)
    else
     some (LO.norm false)) (fun i1 s4=>
    if i1 = 1 then
     some (LO.norm false)
    else
     some (LO.exit i1 false)) (fun s4=>
    some (LO.ret false)))).bind (contO (fun s5=>
   some (LO.norm (s5,wi .i64 ((i:Int) + 1)))) (fun i2 s5=>
   some (LO.exit i2 (s5,(i:Int)))) (fun s5=>
   some (LO.ret (s5,(i:Int))))) = some (LO.ret (false,(i:Int))):=fun b=>by
    cases b
    ·left; simp only [cond_false,obs,contO,wi1 (show i≤1099511627776 by omega)]
    ·right; rfl
   have tree:∀ a b c d:Bool,∃ e,(bif a then bif c then some (LO.norm true) else some (LO.norm d) else bif b then bif c then some (LO.norm true) else some (LO.norm d) else some (LO.norm false)) = (some (LO.norm e):Option (LO Bool)):=fun a b c d=>by
    cases a <;> cases b <;> cases c <;> exact ⟨_,rfl⟩
   obtain ⟨e,he⟩:=tree (decide ((s[i].toNat:Int) < 97)) (decide ((s[i].toNat:Int) > 122)) (decide ((s[i].toNat:Int) < 48)) (decide ((s[i].toNat:Int) > 57))
   rw [he]
   rcases key e with k | k
   ·exact .inl ⟨hc,_,k,rfl⟩
   ·exact .inr (.inr ⟨_,k,.inr ⟨_,rfl⟩⟩)
  ·have hc':¬ (i:Int) < (s.length:Int):=by omega
   simp only [hc',decide_false,cond_false]
   exact .inr (.inl ⟨_,_,rfl,.inl ⟨_,rfl⟩⟩)) NN 0 (false,0) (Nat.zero_le _) (NN_l h) rfl
 rw [h1]
 rcases h2 with ⟨t,rfl⟩ | ⟨t,rfl⟩
 ·exact ⟨_,rfl⟩
 ·exact ⟨_,rfl⟩
noncomputable def nameB (s:Str):Bool:=(m43 s).getD false
theorem name1 (s:Str) (h:s.length≤1048576):m43 s = some (nameB s):=by
 obtain ⟨b,hb⟩:=name_ok s h
 unfold nameB; rw [hb]; rfl
theorem name2 (s:Str) (h:s.length≤1048576):m46 s = some (nameB s):=(rfl:m46 s = m43 s).trans (name1 s h)
theorem spl_small (c:UInt8):∀ (a:Str),∀ x∈spl c a,x.length≤a.length
 | [],x,hx=>by
  simp [spl] at hx; subst hx; simp
 | b::r,x,hx=>by
  have ih:=spl_small c r
  unfold spl at hx
  by_cases e:(b == c) = true
  ·rw [if_pos e] at hx
   rcases List.mem_cons.1 hx with rfl | hx
   ·simp
   ·have:=ih x hx; simp; omega
  ·rw [if_neg e] at hx
   obtain ⟨h,t,e2⟩:=spl_cons c r
   rw [e2] at hx ih
   rcases List.mem_cons.1 hx with rfl | hx
   ·have:=ih h (by simp); simp; omega
   ·have:=ih x (by simp [hx]); simp; omega
noncomputable def badName (x:Str):Bool:=!nameB x
noncomputable def pathCode (a:Str):Int:=bif decide ((a.length:Int) > 24) then 2 else bif decide ((Lib.countByte a 47:Int) > 4) then 2 else bif a == ([47]:Str) then 0 else bif decide (((spl 47 a).length:Int) < 2) then 5 else bif !((spl 47 a).headD [] == ([]:Str)) then 5 else bif ((spl 47 a).drop 1).any badName then 5 else 0
theorem head_spl (a:Str):getI (spl 47 a) 0 = some ((spl 47 a).headD []):=by
 obtain ⟨h,t,e⟩:=spl_cons 47 a
 rw [e]; rfl
theorem path_impl (a:Str):m32 a = some (pathCode a):=by
 unfold m32 pathCode
 by_cases hl:(a.length:Int) > 24
 ·simp only [hl,decide_true,cond_true,obs,contO]
 simp only [hl,decide_false,cond_false]
 rw [show m44 a [47] = some (Lib.countByte a 47:Int) from rfl,obs]
 cases decide ((Lib.countByte a 47:Int) > 4)
 rotate_left
 ·rfl
 simp only [cond_false,obs,contO]
 cases a == ([47]:Str)
 rotate_left
 ·rfl
 simp only [cond_false,split_ok a (by omega),obs]
 cases hw:decide (((spl 47 a).length:Int) < 2)
 rotate_left
 ·rfl
 simp only [cond_false,head_spl,obs]
 cases !((spl 47 a).headD [] == ([]:Str))
 rotate_left
 ·rfl
 have hsl:=spl_len 47 a
 have hcl:=count_le a
 have e1:subI (spl 47 a) 1 ((spl 47 a).length:Int) = some ((spl 47 a).drop 1):=by
  unfold subI
  rw [if_pos ⟨by omega,by omega,by omega⟩]
  rw [List.take_of_length_le (by simp)]
  rfl
 simp only [cond_false,obs,contO,e1]
 have hdl:((spl 47 a).drop 1).length≤1048576:=by simp; omega
 rw [loop_first (f:=ms32_0 ((spl 47 a).drop 1)) (s0:=(0,0)) (fun i=>(0,(i:Int))) ((spl 47 a).drop 1).length (pAt badName ((spl 47 a).drop 1)) (fun i=>.ret (5,(i:Int))) (.exit 0 (0,(((spl 47 a).drop 1).length:Int))) (fun i hi _ hp=>?_) (fun i hi _ hp=>?_) (fun _=>?_) (NN_l hdl) rfl]
 ·rw [← fst_any]
  cases fstN (pAt badName ((spl 47 a).drop 1)) ((spl 47 a).drop 1).length <;> rfl
 ·rw [pAt_get hi] at hp
  have hc':(i:Int) < (((spl 47 a).drop 1).length:Int):=by omega
  have hx:=spl_small 47 a _ (List.mem_of_mem_drop (List.getElem_mem hi))
  unfold ms32_0
  unfold badName at hp
  simp only [hc',decide_true,cond_true,getN hi,obs,name2 _ (show ((spl 47 a).drop 1)[i].length≤1048576 by omega),hp,cond_false,wi1 (show i≤1099511627776 by omega)]
 ·rw [pAt_get hi] at hp
  have hc':(i:Int) < (((spl 47 a).drop 1).length:Int):=by omega
  have hx:=spl_small 47 a _ (List.mem_of_mem_drop (List.getElem_mem hi))
  unfold ms32_0
  unfold badName at hp
  simp only [hc',decide_true,cond_true,getN hi,obs,name2 _ (show ((spl 47 a).drop 1)[i].length≤1048576 by omega),hp]
  exact ⟨trivial,rfl⟩
 ·unfold ms32_0
  simp only [Int.lt_irrefl,decide_false,cond_false]
  exact ⟨trivial,rfl⟩
theorem names_spec (a:Str) (h:a.length≤24) (hs:(a == ([47]:Str)) = false):∃ l,m30 a = some (l,!(bif decide (((spl 47 a).length:Int) < 2) then true else bif !((spl 47 a).headD [] == ([]:Str)) then true else ((spl 47 a).drop 1).any badName)):=by
 unfold m30
 rw [hs,cond_false,cut_ok a (by omega),obs]
 cases hw:decide (((spl 47 a).length:Int) < 2)
 rotate_left
 ·exact ⟨_,rfl⟩
 simp only [cond_false,head_spl,obs]
 cases !((spl 47 a).headD [] == ([]:Str))
 rotate_left
 ·exact ⟨_,rfl⟩
 have hsl:=spl_len 47 a
 have hcl:=count_le a
 have e1:subI (spl 47 a) 1 ((spl 47 a).length:Int) = some ((spl 47 a).drop 1):=by
  unfold subI
  rw [if_pos ⟨by omega,by omega,by omega⟩]
  rw [List.take_of_length_le (by simp)]
  rfl
 simp only [cond_false,obs,contO]
 have hdl:((spl 47 a).drop 1).length≤1048576:=by simp; omega
 have hdl2:((spl 47 a).drop 1).length + 1 = (spl 47 a).length:=by simp; omega
 rw [loop_first (f:=ms30_0 (spl 47 a)) (s0:=([],false,1)) (fun i=>([],false,(i:Int) + 1)) ((spl 47 a).drop 1).length (pAt badName ((spl 47 a).drop 1)) (fun i=>.ret ([],false,(i:Int) + 1)) (.exit 0 ([],false,(((spl 47 a).drop 1).length:Int) + 1)) (fun i hi _ hp=>?_) (fun i hi _ hp=>?_) (fun _=>?_) (NN_l hdl) rfl]
 ·rw [← fst_any]
  cases fstN (pAt badName ((spl 47 a).drop 1)) ((spl 47 a).drop 1).length
  ·exact ⟨_,by simp only [orF,obs,contO,if_true,e1,Option.isSome_none]; rfl⟩
  ·exact ⟨_,rfl⟩
 ·rw [pAt_get hi] at hp
  have hc':(i:Int) + 1 < ((spl 47 a).length:Int):=by omega
  have hx:=spl_small 47 a _ (List.mem_of_mem_drop (List.getElem_mem hi))
  have g1:getI (spl 47 a) ((i:Int) + 1) = some ((spl 47 a).drop 1)[i]:=by
   rw [show ((i:Int) + 1) = ((i + 1:Nat):Int) by omega,getN (show i + 1 < (spl 47 a).length by omega)]
   simp [Nat.add_comm]
  unfold ms30_0
  unfold badName at hp
  simp only [hc',decide_true,cond_true,g1,obs,name1 _ (show ((spl 47 a).drop 1)[i].length≤1048576 by omega),hp,cond_false,wi_next (show i≤1048576 by omega)]
 ·rw [pAt_get hi] at hp
  have hc':(i:Int) + 1 < ((spl 47 a).length:Int):=by omega
  have hx:=spl_small 47 a _ (List.mem_of_mem_drop (List.getElem_mem hi))
  have g1:getI (spl 47 a) ((i:Int) + 1) = some ((spl 47 a).drop 1)[i]:=by
   rw [show ((i:Int) + 1) = ((i + 1:Nat):Int) by omega,getN (show i + 1 < (spl 47 a).length by omega)]
   simp [Nat.add_comm]
  unfold ms30_0
  unfold badName at hp
  simp only [hc',decide_true,cond_true,g1,obs,name1 _ (show ((spl 47 a).drop 1)[i].length≤1048576 by omega),hp]
  exact ⟨trivial,rfl⟩
 ·have hc':¬ ((((spl 47 a).drop 1).length:Int) + 1 < ((spl 47 a).length:Int)):=by omega
  unfold ms30_0
  simp only [hc',decide_false,cond_false]
  exact ⟨trivial,rfl⟩
theorem path_spec (a:Str):m17 a = some (pathCode a):=by
 unfold m17 pathCode
 by_cases hl:(a.length:Int) > 24
 ·simp only [hl,decide_true,cond_true,obs,contO]
 simp only [hl,decide_false,cond_false]
 cases hs:a == ([47]:Str)
 rotate_left
 ·have e:a = [47]:=by simpa using hs
  subst e
  rfl
 have hsl:=spl_len 47 a
 obtain ⟨l,hn⟩:=names_spec a (by omega) hs
 have e5:decide (((spl 47 a).length:Int) > 5) = decide ((Lib.countByte a 47:Int) > 4):=decide_eq_decide.2 (by omega)
 simp only [Bool.not_false,cond_true,cut_ok a (by omega),obs,e5,contO]
 cases decide ((Lib.countByte a 47:Int) > 4)
 rotate_left
 ·rfl
 simp only [cond_false,obs,contO,hn]
 cases decide (((spl 47 a).length:Int) < 2)
 rotate_left
 ·rfl
 cases !((spl 47 a).headD [] == ([]:Str))
 rotate_left
 ·rfl
 cases ((spl 47 a).drop 1).any badName <;> rfl
theorem path_head {q:Str} (h:pathCode q = 0):∃ r,q = 47::r:=by
 unfold pathCode at h
 cases h1:decide ((q.length:Int) > 24)
 rotate_left
 ·rw [h1] at h; cases h
 cases h2:decide ((Lib.countByte q 47:Int) > 4)
 rotate_left
 ·rw [h1,h2] at h; cases h
 cases h3:q == ([47]:Str)
 rotate_left
 ·exact ⟨[],by simpa using h3⟩
 cases h4:decide (((spl 47 q).length:Int) < 2)
 rotate_left
 ·rw [h1,h2,h3,h4] at h; cases h
 cases h5:!((spl 47 q).headD [] == ([]:Str))
 rotate_left
 ·rw [h1,h2,h3,h4,h5] at h; cases h
 match q,h4,h5 with
 | [],h4,_=>simp [spl] at h4
 | b::r,h4,h5=>
  by_cases e:(b == 47) = true
  ·exact ⟨r,by rw [eq_of_beq e]⟩
  ·obtain ⟨x,y,e2⟩:=spl_cons 47 r
   unfold spl at h5
   rw [if_neg e,e2] at h5
   simp at h5
theorem path_len {q:Str} (h:pathCode q = 0):q.length≤24:=by
 unfold pathCode at h
 by_cases h1:(q.length:Int) > 24
 ·simp [h1] at h
 ·omega
def lst (q:Str):Nat→Option Nat
 | 0=>none
 | n + 1=>if q[n]? = some 47 then some n else lst q n
theorem lst_lt {q:Str}:∀ {n k:Nat},lst q n = some k→k < n
 | 0,_,h=>by cases h
 | n + 1,k,h=>by
  unfold lst at h
  by_cases e:q[n]? = some 47
  ·rw [if_pos e] at h; injection h with h; omega
  ·rw [if_neg e] at h
   have:=lst_lt h; omega
theorem lst_some {r:Str}:∀ n:Nat,∃ k,lst (47::r) (n + 1) = some k
 | 0=>⟨0,by simp [lst]⟩
 | n + 1=>by
  obtain ⟨k,h⟩:=lst_some n (r:=r)
  unfold lst
  by_cases e:(47::r:Str)[n + 1]? = some 47
  ·rw [if_pos e]; exact ⟨_,rfl⟩
  ·rw [if_neg e]; exact ⟨k,h⟩
theorem last_spec (q:Str) (h:q.length≤1048576):m31 q = some (((lst q q.length).getD 0:Nat):Int):=by
 unfold m31
 rw [loop_all (f:=ms31_0 q) (s0:=(0,0)) (fun i=>((((lst q i).getD 0:Nat):Int),(i:Int))) q.length (.exit 0 ((((lst q q.length).getD 0:Nat):Int),(q.length:Int))) (fun i hi=>?_) ?_ rfl (NN_l h) rfl]
 ·rfl
 ·unfold ms31_0
  simp only [Int.lt_irrefl,decide_false,cond_false]
 ·have hc':(i:Int) < (q.length:Int):=by omega
  unfold ms31_0
  simp only [hc',decide_true,cond_true,getN hi,obs,u8_47]
  have e:lst q (i + 1) = if q[i] = 47 then some i else lst q i:=by
   show (if q[i]? = some 47 then some i else lst q i) = _
   rw [List.getElem?_eq_getElem hi]
   simp
  rw [e]
  by_cases hb:q[i] = 47
  ·simp [hb,contO,wi1 (show i≤1099511627776 by omega)]
  ·have hb':(q[i] == 47) = false:=by simpa using hb
   simp only [hb',hb,if_false,cond_false,obs,contO,wi1 (show i≤1099511627776 by omega)]
theorem last_impl (q:Str) (h:q.length≤1048576):m48 q 47 = some (match lst q q.length with | none=>-1 | some k=>(k:Int)):=by
 unfold m48
 obtain ⟨o,h1,h2⟩:=loopO_rule (f:=ms48_0 q 47) (fun s=>∃ i:Nat,s = (0,(i:Int) - 1)∧i≤q.length∧lst q i = lst q q.length) (fun s=>(s.2 + 1).toNat) (fun o=>match lst q q.length with | none=>∃ s,o = .exit 0 s | some k=>o = .ret ((k:Int),(k:Int))) (fun s hs=>by
  obtain ⟨i,rfl,h1,h2⟩:=hs
  unfold ms48_0
  dsimp only
  cases i with
  | zero=>
   have hc':¬ (((0:Nat):Int) - 1 ≥ 0):=by omega
   simp only [hc',decide_false,cond_false]
   refine .inr (.inl ⟨_,_,rfl,?_⟩)
   rw [← h2]
   exact ⟨_,rfl⟩
  | succ i=>
   have hc':(((i + 1:Nat):Int) - 1 ≥ 0):=by omega
   have ei:((i + 1:Nat):Int) - 1 = (i:Int):=by omega
   have hi:i < q.length:=by omega
   have e:lst q (i + 1) = if q[i] = 47 then some i else lst q i:=by
    show (if q[i]? = some 47 then some i else lst q i) = _
    rw [List.getElem?_eq_getElem hi]
    simp
   rw [ei] at hc' ⊢
   simp only [hc',decide_true,cond_true,getN hi,obs,u8_47]
   by_cases hb:q[i] = 47
   ·rw [if_pos hb] at e
    simp only [hb,beq_self_eq_true,cond_true]
    refine .inr (.inr ⟨_,rfl,?_⟩)
    rw [← h2,e]
   ·rw [if_neg hb] at e
    have hb':(q[i] == 47) = false:=by simpa using hb
    simp only [hb',cond_false]
    refine .inl ⟨_,rfl,⟨i,by rw [wi64 (by omega) (by omega)],by omega,by rw [← h2,e]⟩,?_⟩
    dsimp only
    rw [wi64 (by omega) (by omega)]
    omega) NN (0,wi .i64 ((q.length:Int) - 1)) ⟨q.length,by rw [wi64 (by omega) (by omega)],Nat.le_refl _,rfl⟩ (by
   dsimp only
   rw [wi64 (by omega) (by omega),NN_eq]; omega)
 rw [h1]
 cases hl:lst q q.length with
 | none=>rw [hl] at h2; obtain ⟨s,rfl⟩:=h2; rfl
 | some k=>rw [hl] at h2; subst h2; rfl
def upP (q:Str):Str:=match lst q q.length with
 | none=>[47]
 | some k=>if k = 0 then [47] else q.take k
theorem up_spec (q:Str) (h:pathCode q = 0):m22 q = some (upP q):=by
 have hl:=path_len h
 obtain ⟨r,rfl⟩:=path_head h
 obtain ⟨k,hk⟩:=lst_some (r:=r) r.length
 have hlt:=lst_lt hk
 unfold m22 upP
 rw [last_spec _ (by omega),show (47::r:Str).length = r.length + 1 from rfl,hk]
 simp only [obs,Option.getD_some]
 by_cases h0:k = 0
 ·subst h0; rfl
 ·have e:((k:Int) == 0) = false:=by simpa using h0
  rw [e,cond_false,if_neg h0]
  have:=sub_nat (xs:=(47::r:Str)) (i:=0) (j:=k) (Nat.zero_le _) (by simp; omega)
  rw [show ((0:Nat):Int) = 0 from rfl] at this
  rw [this]; rfl
theorem up_impl (q:Str) (h:pathCode q = 0):∃ z,m26 q = some (upP q,z):=by
 have hl:=path_len h
 obtain ⟨r,rfl⟩:=path_head h
 have hl2:r.length + 1≤24:=hl
 obtain ⟨k,hk⟩:=lst_some (r:=r) r.length
 have hlt:=lst_lt hk
 have e0:m38 (47::r:Str) ([47]:Str) = some (k:Int):=by
  have e1:m38 (47::r:Str) ([47]:Str) = (m48 (47::r:Str) 47).bind fun y1=>some y1:=rfl
  rw [e1,last_impl _ (by omega),show (47::r:Str).length = r.length + 1 from rfl,hk]; rfl
 unfold m26 upP
 rw [e0,show (47::r:Str).length = r.length + 1 from rfl,hk,obs]
 have e2:wi .i64 ((k:Int) + 1) = ((k + 1:Nat):Int):=wi1 (by omega)
 have e3:=sub_nat (xs:=(47::r:Str)) (i:=k + 1) (j:=(47::r:Str).length) (by simp; omega) (Nat.le_refl _)
 rw [show (47::r:Str).length = r.length + 1 from rfl] at e3
 have e4:subI (47::r:Str) 0 (maxI (k:Int) 1) = some (if k = 0 then [47] else (47::r:Str).take k):=by
  by_cases h0:k = 0
  ·subst h0
   have:=sub_nat (xs:=(47::r:Str)) (i:=0) (j:=1) (Nat.zero_le _) (by simp)
   simpa [maxI] using this
  ·have:=sub_nat (xs:=(47::r:Str)) (i:=0) (j:=k) (Nat.zero_le _) (by simp; omega)
   rw [if_neg h0,show maxI (k:Int) 1 = (k:Int) from by unfold maxI; rw [if_neg (by omega)]]
   simpa using this
 rw [e2,e3,e4]
 exact ⟨_,rfl⟩
noncomputable def badNum (z:TZnode):Bool:=!(m18 z.Data) || !(m19 z.Version 0 999) || !(m20 z.Owner) || !(m19 z.Next 0 100)
noncomputable def nodeCode (z:TZnode):Int:=bif pathCode z.Path != 0 then pathCode z.Path else bif badNum z then 3 else 0
theorem node_impl (z:TZnode):m24 z = some (nodeCode z):=by
 unfold m24 nodeCode badNum
 rw [path_impl,obs,show m33 z.Data = m18 z.Data from rfl,show m34 z.Version 0 999 = m19 z.Version 0 999 from rfl,show m35 z.Owner = m20 z.Owner from rfl,show m34 z.Next 0 100 = m19 z.Next 0 100 from rfl]
 cases pathCode z.Path != 0 <;> cases m18 z.Data <;> cases m19 z.Version 0 999 <;> cases m20 z.Owner <;> cases m19 z.Next 0 100 <;> rfl
noncomputable def badAt (ns:List TZnode) (i:Nat):Bool:=match ns[i]? with
 | none=>false
 | some z=>nodeCode z != 0 || (decide (0 < i) && match ns[i - 1]? with
  | none=>false
  | some y=>Op.bytesLess z.Path y.Path || z.Path == y.Path)
noncomputable def codeAt (ns:List TZnode) (i:Nat):Int:=match ns[i]? with
 | none=>0
 | some z=>bif nodeCode z != 0 then nodeCode z else 1
noncomputable def outA (ns:List TZnode) (i:Nat):LO (Int×Int):=bif badAt ns i then .ret (codeAt ns i,(i:Int)) else .norm (0,((i + 1:Nat):Int))
theorem step_impl {ns:List TZnode} {i:Nat} (hi:i < ns.length) (hl:ns.length≤1048576):ms14_0 ns (0,(i:Int)) = some (outA ns i):=by
 have hc':(i:Int) < (ns.length:Int):=by omega
 unfold ms14_0 outA badAt codeAt
 simp only [hc',decide_true,cond_true,getN hi,obs,node_impl,List.getElem?_eq_getElem hi,wi1 (show i≤1099511627776 by omega)]
 cases hn:nodeCode ns[i] != 0
 rotate_left
 ·simp [contO]
 ·by_cases h0:0 < i
  ·have e1:wi .i64 ((i:Int) - 1) = ((i - 1:Nat):Int):=by rw [wi64 (by omega) (by omega)]; omega
   have h0':(i:Int) > 0:=by omega
   simp only [h0,h0',decide_true,cond_true,cond_false,e1,getN (show i - 1 < ns.length by omega),List.getElem?_eq_getElem (show i - 1 < ns.length by omega),obs,Bool.false_or,Bool.true_and]
   cases Op.bytesLess ns[i].Path ns[i - 1].Path || ns[i].Path == ns[i - 1].Path <;> simp [contO]
  ·have h0':¬ (i:Int) > 0:=by omega
   simp [h0,h0',contO]
theorem step_spec {ns:List TZnode} {i:Nat} (hi:i < ns.length) (hl:ns.length≤1048576):ms11_0 ns (0,(i:Int)) = some (outA ns i):=by
 have hc':(i:Int) < (ns.length:Int):=by omega
 unfold ms11_0 outA badAt codeAt
 simp only [hc',decide_true,cond_true,getN hi,obs,path_spec,List.getElem?_eq_getElem hi,wi1 (show i≤1099511627776 by omega)]
 unfold nodeCode badNum
 cases hn:pathCode ns[i].Path != 0
 rotate_left
 ·simp [contO,hn]
 simp only [cond_false]
 by_cases hb:(m18 ns[i].Data && m19 ns[i].Version 0 999 && m20 ns[i].Owner && m19 ns[i].Next 0 100) = true
 ·simp only [Bool.and_eq_true] at hb
  obtain ⟨⟨⟨b1,b2⟩,b3⟩,b4⟩:=hb
  simp only [b1,b2,b3,b4,Bool.not_true,cond_false,obs,contO,Bool.or_self,show ((0:Int) != 0) = false from rfl,Bool.false_or]
  by_cases h0:0 < i
  ·have e1:wi .i64 ((i:Int) - 1) = ((i - 1:Nat):Int):=by rw [wi64 (by omega) (by omega)]; omega
   have h0':(i:Int) > 0:=by omega
   simp only [h0,h0',decide_true,cond_true,cond_false,e1,getN (show i - 1 < ns.length by omega),List.getElem?_eq_getElem (show i - 1 < ns.length by omega),obs,Bool.false_or,Bool.true_and]
   cases Op.bytesLess ns[i].Path ns[i - 1].Path || ns[i].Path == ns[i - 1].Path <;> simp [contO]
  ·have h0':¬ (i:Int) > 0:=by omega
   simp [h0,h0',contO]
 ·have hb2:(!(m18 ns[i].Data) || !(m19 ns[i].Version 0 999) || !(m20 ns[i].Owner) || !(m19 ns[i].Next 0 100)) = true:=by
   revert hb
   cases m18 ns[i].Data <;> cases m19 ns[i].Version 0 999 <;> cases m20 ns[i].Owner <;> cases m19 ns[i].Next 0 100 <;> simp
  rw [hb2]
  cases h1:m18 ns[i].Data
  ·simp [contO]
  cases h2:m19 ns[i].Version 0 999
  ·simp [contO]
  cases h3:m20 ns[i].Owner
  ·simp [contO]
  cases h4:m19 ns[i].Next 0 100
  ·simp [contO]
  ·rw [h1,h2,h3,h4] at hb; simp at hb
open Go Go.Rf
set_option linter.unusedVariables false
set_option linter.unusedSimpArgs false
theorem wi8 {x:Int} (h1:0≤x) (h2:x < 256):wi .u8 x = x:=by
 show IntKind.u8.wrap x = x
 rw [IntKind.wrap_u8]; omega
theorem catS {a b:Str} (h:a.length + b.length≤4611686018427387904):catO a b = some (a++b):=by
 unfold catO; rw [if_pos h]
theorem dig_byte {k:Nat} (h:k < 10):UInt8.ofNat (Int.toNat (wi .u8 (wi .i64 (48 + (k:Int))))) = UInt8.ofNat (48 + k):=by
 rw [wi64 (by omega) (by omega),wi8 (by omega) (by omega)]
 congr 1
theorem decLen:∀ (j k:Nat),k < 10 ^ (j + 1)→(Lib.decDigits k).length≤j + 1
 | 0,k,h=>by rw [Lib.decDigits,dif_pos (by simpa using h)]; simp
 | j + 1,k,h=>by
  by_cases hk:k < 10
  ·rw [Lib.decDigits,dif_pos hk]; simp
  ·rw [Lib.decDigits,dif_neg hk,List.length_append]
   have e:(10:Nat) ^ (j + 1 + 1) = 10 ^ (j + 1) * 10:=Nat.pow_succ ..
   have:=decLen j (k / 10) (by omega)
   simp only [List.length_singleton]; omega
theorem dig_nat:∀ (j k n:Nat),k < 10 ^ (j + 1)→j < n→j≤17→m23 n (k:Int) = some (Lib.decDigits k)
 | j,k,n,hk,hn,hj=>by
  obtain ⟨n,rfl⟩:∃ q,n = q + 1:=⟨n - 1,by omega⟩
  show m23F (m23 n) (k:Int) = _
  unfold m23F
  have h0:¬ (k:Int) < 0:=by omega
  simp only [h0,decide_false,cond_false]
  have hb:k < 10 ^ 18:=Nat.lt_of_lt_of_le hk (Nat.pow_le_pow_right (by omega) (by omega))
  by_cases h1:k < 10
  ·have h1':(k:Int) < 10:=by omega
   simp only [h1',decide_true,cond_true]
   rw [dig_byte h1,Lib.decDigits,dif_pos h1]
  ·have h1':¬ (k:Int) < 10:=by omega
   simp only [h1',decide_false,cond_false]
   obtain ⟨j,rfl⟩:∃ q,j = q + 1:=⟨j - 1,by
    cases j with
    | zero=>simp at hk; omega
    | succ j=>omega⟩
   have e:(10:Nat) ^ (j + 1 + 1) = 10 ^ (j + 1) * 10:=Nat.pow_succ ..
   have e1:wi .i64 (Int.tdiv (k:Int) 10) = ((k / 10:Nat):Int):=by
    rw [Int.tdiv_eq_ediv_of_nonneg (by omega),wi64 (by omega) (by omega)]; omega
   have e2:Int.tmod (k:Int) 10 = ((k % 10:Nat):Int):=by
    rw [Int.tmod_eq_emod_of_nonneg (by omega)]; omega
   have hl:=decLen j (k / 10) (by omega)
   rw [e1,dig_nat j (k / 10) n (by omega) (by omega) (by omega),obs,e2,dig_byte (by omega),catS (by simp; omega),obs]
   conv=>rhs; rw [Lib.decDigits,dif_neg h1]
theorem digits (n:Int) (h1:-100000000000000000≤n) (h2:n≤100000000000000000):m23 64 n = some (Lib.itoa n)∧(Lib.itoa n).length≤20:=by
 by_cases h0:n < 0
 ·have e:wi .i64 (0 - n) = ((n.natAbs:Nat):Int):=by rw [wi64 (by omega) (by omega)]; omega
  have hl:=decLen 17 n.natAbs (by omega)
  have ei:Lib.itoa n = 45::Lib.decDigits n.natAbs:=by unfold Lib.itoa; rw [if_pos h0]
  refine ⟨?_,by rw [ei,List.length_cons]; omega⟩
  show m23F (m23 63) n = _
  unfold m23F
  simp only [h0,decide_true,cond_true]
  rw [e,dig_nat 17 n.natAbs 63 (by omega) (by omega) (by omega),obs,catS (by simp; omega),obs,ei]
  rfl
 ·obtain ⟨k,rfl⟩:∃ k:Nat,n = k:=⟨n.toNat,by omega⟩
  have hl:=decLen 17 k (by omega)
  have ei:Lib.itoa (k:Int) = Lib.decDigits k:=by unfold Lib.itoa; rw [if_neg h0]; simp
  rw [ei]
  exact ⟨dig_nat 17 k 64 (by omega) (by omega) (by omega),by omega⟩
theorem decimal (n:Int) (h1:-9223372036854775808≤n) (h2:n≤9223372036854775807):m42 n = some (Lib.itoa n):=by
 unfold m42 m52 fmtO
 rw [if_pos ⟨rfl,decide_eq_true ⟨h1,h2⟩⟩]; rfl
open Go Go.Rf
set_option linter.unusedVariables false
set_option linter.unusedSimpArgs false
def keys (ns:List TZnode):List Str:=ns.map (·.Path)
theorem keys_len (ns:List TZnode):(keys ns).length = ns.length:=by simp [keys]
theorem keys_get {ns:List TZnode} {i:Nat} (h:i < ns.length):(keys ns)[i]'(by rw [keys_len]; exact h) = ns[i].Path:=by simp [keys]
theorem mid_ok {a b:Nat} (h:a + b≤1099511627776):wi .i64 (shrI .u64 (wi .u64 (wi .i64 ((a:Int) + (b:Int)))) 1) = (((a + b) / 2:Nat):Int):=by
 have e1:wi .i64 ((a:Int) + (b:Int)) = ((a + b:Nat):Int):=by rw [wi64 (by omega) (by omega)]; omega
 have e2:wi .u64 ((a + b:Nat):Int) = ((a + b:Nat):Int):=by
  show IntKind.u64.wrap _ = _
  simp only [IntKind.wrap,IntKind.bits,IntKind.signed]; simp; omega
 have e3:shrI .u64 ((a + b:Nat):Int) 1 = (((a + b) / 2:Nat):Int):=by
  unfold shrI
  rw [show (2:Int) ^ (min (Int.toNat 1) IntKind.u64.bits) = 2 from by decide]
  rw [Int.fdiv_eq_ediv_of_nonneg _ (by decide)]
  omega
 rw [e1,e2,e3,wi64 (by omega) (by omega)]
theorem find_ok {ns:List TZnode} (hr:rises (keys ns)) (hl:ns.length≤1048576) (p:Str):∃ a:Nat,m25 ns p = some ((a:Int),decide (p∈keys ns))∧(p∈keys ns→∃ h:a < ns.length,ns[a].Path = p):=by
 unfold m25 m36
 obtain ⟨o,h1,h2⟩:=loopO_rule (f:=ms36_0 ns p (fun x0_ x1_=>m37 x0_ x1_)) (fun s=>∃ a b:Nat,s = ((a:Int),(b:Int))∧a≤b∧b≤ns.length∧(∀ k (hk:k < (keys ns).length),k < a→Op.bytesLess (keys ns)[k] p = true)∧(∀ k (hk:k < (keys ns).length),b≤k→Op.bytesLess (keys ns)[k] p = false)) (fun s=>(s.2 - s.1).toNat) (fun o=>∃ a:Nat,o = .exit 0 ((a:Int),(a:Int))∧a≤ns.length∧(∀ k (hk:k < (keys ns).length),k < a→Op.bytesLess (keys ns)[k] p = true)∧(∀ k (hk:k < (keys ns).length),a≤k→Op.bytesLess (keys ns)[k] p = false)) (fun s hs=>by
  obtain ⟨a,b,rfl,hab,hb,hlo,hhi⟩:=hs
  unfold ms36_0
  dsimp only
  by_cases hc:a < b
  ·have hc':(a:Int) < (b:Int):=by omega
   have hm:(a + b) / 2 < ns.length:=by omega
   have hm2:(a + b) / 2 < (keys ns).length:=by rw [keys_len]; exact hm
   simp only [hc',decide_true,cond_true,mid_ok (show a + b≤1099511627776 by omega),getN hm,obs]
   have e:m37 ns[(a + b) / 2] p = some (Lib.compareBytes ns[(a + b) / 2].Path p):=rfl
   rw [e,obs,cmp_lt]
   cases hx:Op.bytesLess ns[(a + b) / 2].Path p
   ·refine .inl ⟨_,rfl,⟨a,(a + b) / 2,rfl,by omega,by omega,hlo,fun k hk hk2=>?_⟩,by dsimp only; omega⟩
    cases hy:Op.bytesLess (keys ns)[k] p
    ·rfl
    ·by_cases ek:k = (a + b) / 2
     ·subst ek
      rw [keys_get hm,hx] at hy; exact hy.symm
     ·have:=less_trans (rise_lt' hr (i:=(a + b) / 2) (j:=k) (by omega) hk) hy
      rw [keys_get hm,hx] at this; exact this.symm
   ·refine .inl ⟨_,rfl,⟨(a + b) / 2 + 1,b,by rw [wi1 (by omega)],by omega,hb,fun k hk hk2=>?_,hhi⟩,by dsimp only; rw [wi1 (by omega)]; omega⟩
    by_cases ek:k = (a + b) / 2
    ·subst ek
     rw [keys_get hm]; exact hx
    ·refine less_trans (rise_lt' hr (i:=k) (j:=(a + b) / 2) (by omega) hm2) ?_
     rw [keys_get hm]; exact hx
  ·have hc':¬ (a:Int) < (b:Int):=by omega
   have e:a = b:=by omega
   subst e
   simp only [hc',decide_false,cond_false]
   exact .inr (.inl ⟨_,_,rfl,a,rfl,hb,hlo,hhi⟩)) NN (0,(ns.length:Int)) ⟨0,ns.length,rfl,Nat.zero_le _,Nat.le_refl _,fun k _ h=>absurd h (Nat.not_lt_zero _),fun k hk h=>by rw [keys_len] at hk; omega⟩ (by
   dsimp only
   have:=NN_l hl
   omega)
 obtain ⟨a,rfl,ha,hlo,hhi⟩:=h2
 have hs:=stands hr hlo hhi
 rw [h1]
 simp only [obs,contO,if_true]
 refine ⟨a,?_,fun hp=>?_⟩
 ·by_cases hc:a < ns.length
  ·have hc':(a:Int) < (ns.length:Int):=by omega
   have e:m37 ns[a] p = some (Lib.compareBytes ns[a].Path p):=rfl
   simp only [hc',decide_true,cond_true,getN hc,obs,e,cmp_eq0]
   congr 2
   rw [Bool.eq_iff_iff,beq_iff_eq,decide_eq_true_iff,hs]
   constructor
   ·intro h; exact ⟨by rw [keys_len]; exact hc,by rw [keys_get hc]; exact h⟩
   ·rintro ⟨_,h⟩; rw [keys_get hc] at h; exact h
  ·have hc':¬ (a:Int) < (ns.length:Int):=by omega
   simp only [hc',decide_false,cond_false,obs]
   congr 2
   symm
   rw [decide_eq_false_iff_not,hs]
   rintro ⟨h,_⟩
   rw [keys_len] at h
   exact hc h
 ·obtain ⟨h,e⟩:=hs.1 hp
  have h':a < ns.length:=by rw [keys_len] at h; exact h
  exact ⟨h',by rw [keys_get h'] at e; exact e⟩
def atN (ns:List TZnode) (p:Str):Nat:=(fstN (pAt (fun z:TZnode=>z.Path == p) ns) ns.length).getD 0
theorem at_spec (ns:List TZnode) (hl:ns.length≤1048576) (p:Str):m21 ns p = some (bif decide (p∈keys ns) then (atN ns p:Int) else -1):=by
 have e:m21 ns p = gIF NN ns (fun z=>some (z.Path == p)):=rfl
 rw [e,gIF_ok (q:=fun z=>z.Path == p) (NN_l hl) (big_l hl) (fun _ _=>rfl)]
 have e2:decide (p∈keys ns) = (fstN (pAt (fun z:TZnode=>z.Path == p) ns) ns.length).isSome:=by
  rw [fst_any,Bool.eq_iff_iff,decide_eq_true_iff,List.any_eq_true]
  unfold keys
  rw [List.mem_map]
  constructor
  ·rintro ⟨z,h1,h2⟩; exact ⟨z,h1,by simpa using h2⟩
  ·rintro ⟨z,h1,h2⟩; exact ⟨z,h1,by simpa using h2⟩
 rw [e2]
 unfold atN
 cases fstN (pAt (fun z:TZnode=>z.Path == p) ns) ns.length <;> rfl
theorem at_lt {ns:List TZnode} {p:Str} (h:p∈keys ns):∃ h:atN ns p < ns.length,ns[atN ns p].Path = p:=by
 unfold keys at h
 obtain ⟨z,h1,h2⟩:=List.mem_map.1 h
 have ha:ns.any (fun z=>z.Path == p) = true:=List.any_eq_true.2 ⟨z,h1,by simpa using h2⟩
 rw [← fst_any] at ha
 unfold atN
 cases hc:fstN (pAt (fun z:TZnode=>z.Path == p) ns) ns.length with
 | none=>rw [hc] at ha; cases ha
 | some i=>
  obtain ⟨h3,_,h4⟩:=fst_some_iff.1 hc
  rw [pAt_get h3] at h4
  exact ⟨h3,by simpa using h4⟩
theorem find_at {ns:List TZnode} (hr:rises (keys ns)) (hl:ns.length≤1048576) {p:Str} (hp:p∈keys ns):m25 ns p = some ((atN ns p:Int),true):=by
 obtain ⟨a,h1,h2⟩:=find_ok hr hl p
 obtain ⟨ha,e⟩:=h2 hp
 obtain ⟨hb,e2⟩:=at_lt hp
 have:a = atN ns p:=rise_inj hr (by rw [keys_len]; exact ha) (by rw [keys_len]; exact hb) (by rw [keys_get ha,keys_get hb,e,e2])
 rw [h1,this,decide_eq_true hp]
theorem find_no {ns:List TZnode} (hr:rises (keys ns)) (hl:ns.length≤1048576) {p:Str} (hp:¬ p∈keys ns):∃ a:Nat,m25 ns p = some ((a:Int),false):=by
 obtain ⟨a,h1,_⟩:=find_ok hr hl p
 exact ⟨a,by rw [h1,decide_eq_false hp]⟩
structure TreeOk (ns:List TZnode):Prop where
 len:ns.length≤20
 code:∀ z∈ns,nodeCode z = 0
 up:rises (keys ns)
theorem code_path {z:TZnode} (h:nodeCode z = 0):pathCode z.Path = 0∧badNum z = false:=by
 unfold nodeCode at h
 cases h1:pathCode z.Path != 0
 ·rw [h1,cond_false] at h
  cases h2:badNum z
  ·exact ⟨by simpa using h1,rfl⟩
  ·rw [h2] at h; cases h
 ·rw [h1,cond_true] at h
  rw [h] at h1; cases h1
theorem tree_ok {ns:List TZnode} (hl:ns.length≤20) (h:∀ i,i < ns.length→badAt ns i = false):TreeOk ns:=by
 refine ⟨hl,fun z hz=>?_,fun i hi=>?_⟩
 ·obtain ⟨i,hi,rfl⟩:=List.mem_iff_getElem.1 hz
  have:=h i hi
  unfold badAt at this
  rw [List.getElem?_eq_getElem hi] at this
  simp only [Bool.or_eq_false_iff] at this
  simpa using this.1
 ·rw [keys_len] at hi
  have:=h (i + 1) hi
  unfold badAt at this
  rw [List.getElem?_eq_getElem hi,show i + 1 - 1 = i from rfl,List.getElem?_eq_getElem (show i < ns.length by omega)] at this
  simp only [Bool.or_eq_false_iff,Nat.zero_lt_succ,decide_true,Bool.true_and] at this
  rw [keys_get (show i < ns.length by omega),keys_get hi]
  exact less_tot this.2.1 (by simpa using this.2.2)
noncomputable def ownU (ns:List TZnode) (z:TZnode):Bool:=match ns[atN ns (upP z.Path)]? with
 | none=>false
 | some y=>y.Owner != 0
def orphan (ns:List TZnode) (z:TZnode):Bool:=!decide (upP z.Path∈keys ns)
theorem own_get {ns:List TZnode} {z:TZnode} (h:orphan ns z = false):∃ h:atN ns (upP z.Path) < ns.length,ownU ns z = (ns[atN ns (upP z.Path)].Owner != 0):=by
 unfold orphan at h
 obtain ⟨h1,_⟩:=at_lt (ns:=ns) (p:=upP z.Path) (by simpa using h)
 refine ⟨h1,?_⟩
 unfold ownU
 rw [List.getElem?_eq_getElem h1]
theorem rest_spec1 {ns:List TZnode} (T:TreeOk ns):loopO (ms11_1 ns) NN (0,0) = some (orF (fstN (pAt (orphan ns) ns) ns.length) (fun i=>.ret (4,(i:Int))) (.exit 2 (0,(ns.length:Int)))):=by
 have hl:ns.length≤1048576:=by have:=T.len; omega
 rw [loop_first (f:=ms11_1 ns) (s0:=(0,0)) (fun i=>(0,(i:Int))) ns.length (pAt (orphan ns) ns) (fun i=>.ret (4,(i:Int))) (.exit 2 (0,(ns.length:Int))) (fun i hi _ hp=>?_) (fun i hi _ hp=>?_) (fun _=>?_) (NN_l hl) rfl]
 ·rw [pAt_get hi] at hp
  have hc':(i:Int) < (ns.length:Int):=by omega
  have hin:upP ns[i].Path∈keys ns:=by simpa [orphan] using hp
  have hneg:¬ ((atN ns (upP ns[i].Path):Int) < 0):=by omega
  unfold ms11_1
  simp only [hc',decide_true,cond_true,getN hi,obs,up_spec _ (code_path (T.code _ (List.getElem_mem hi))).1,at_spec ns hl,hin,hneg,decide_false,cond_false,wi1 (show i≤1099511627776 by omega)]
 ·rw [pAt_get hi] at hp
  have hc':(i:Int) < (ns.length:Int):=by omega
  have hin:¬ upP ns[i].Path∈keys ns:=by simpa [orphan] using hp
  unfold ms11_1
  simp only [hc',decide_true,cond_true,getN hi,obs,up_spec _ (code_path (T.code _ (List.getElem_mem hi))).1,at_spec ns hl,hin,decide_false,cond_false]
  exact ⟨rfl,rfl⟩
 ·unfold ms11_1
  simp only [Int.lt_irrefl,decide_false,cond_false]
  exact ⟨trivial,rfl⟩
theorem rest_spec2 {ns:List TZnode} (T:TreeOk ns) (h:∀ z∈ns,orphan ns z = false):loopO (ms11_2 ns) NN (0,0) = some (orF (fstN (pAt (ownU ns) ns) ns.length) (fun i=>.ret (1,(i:Int))) (.exit 4 (0,(ns.length:Int)))):=by
 have hl:ns.length≤1048576:=by have:=T.len; omega
 have key:∀ i (hi:i < ns.length),ms11_2 ns (0,(i:Int)) = some (bif ownU ns ns[i] then .ret (1,(i:Int)) else .norm (0,((i + 1:Nat):Int))):=fun i hi=>by
  have hc':(i:Int) < (ns.length:Int):=by omega
  have hz:=h _ (List.getElem_mem hi)
  have hin:upP ns[i].Path∈keys ns:=by simpa [orphan] using hz
  obtain ⟨hb,e⟩:=own_get hz
  unfold ms11_2
  simp only [hc',decide_true,cond_true,getN hi,obs,up_spec _ (code_path (T.code _ (List.getElem_mem hi))).1,at_spec ns hl,hin,getN hb,e,wi1 (show i≤1099511627776 by omega)]
  cases ns[atN ns (upP ns[i].Path)].Owner != 0 <;> rfl
 rw [loop_first (f:=ms11_2 ns) (s0:=(0,0)) (fun i=>(0,(i:Int))) ns.length (pAt (ownU ns) ns) (fun i=>.ret (1,(i:Int))) (.exit 4 (0,(ns.length:Int))) (fun i hi _ hp=>?_) (fun i hi _ hp=>?_) (fun _=>?_) (NN_l hl) rfl]
 ·rw [pAt_get hi] at hp
  rw [key i hi,hp]; rfl
 ·rw [pAt_get hi] at hp
  rw [key i hi,hp]; exact ⟨rfl,rfl⟩
 ·unfold ms11_2
  simp only [Int.lt_irrefl,decide_false,cond_false]
  exact ⟨trivial,rfl⟩
theorem rest_impl {ns ys:List TZnode} (T:TreeOk ns) (hy:ys.length≤20) (hs:∀ z∈ys,z∈ns) (b:Bool):loopO (ms14_1 ns ys) NN (0,b,0) = some (orF (fstN (pAt (orphan ns) ys) ys.length) (fun i=>.ret (4,b || (ys.take i).any (ownU ns),(i:Int))) (.exit 2 (0,b || ys.any (ownU ns),(ys.length:Int)))):=by
 have hl:ns.length≤1048576:=by have:=T.len; omega
 rw [loop_first (f:=ms14_1 ns ys) (s0:=(0,b,0)) (fun i=>(0,b || (ys.take i).any (ownU ns),(i:Int))) ys.length (pAt (orphan ns) ys) (fun i=>.ret (4,b || (ys.take i).any (ownU ns),(i:Int))) (.exit 2 (0,b || ys.any (ownU ns),(ys.length:Int))) (fun i hi _ hp=>?_) (fun i hi _ hp=>?_) (fun _=>?_) (NN_l (by omega)) (by simp)]
 ·rw [pAt_get hi] at hp
  have hc':(i:Int) < (ys.length:Int):=by omega
  have hin:upP ys[i].Path∈keys ns:=by simpa [orphan] using hp
  obtain ⟨hb,e⟩:=own_get hp
  obtain ⟨z,hz⟩:=up_impl _ (code_path (T.code _ (hs _ (List.getElem_mem hi)))).1
  unfold ms14_1
  simp only [hc',decide_true,cond_true,getN hi,obs,hz,find_at T.up hl hin,Bool.not_true,cond_false,getN hb]
  rw [take_snoc' hi,List.any_append,List.any_cons,List.any_nil,Bool.or_false,e,← Bool.or_assoc]
  cases b || (ys.take i).any (ownU ns) <;> simp only [cond_true,cond_false,obs,contO,wi1 (show i≤1099511627776 by omega),Bool.true_or,Bool.false_or]
 ·rw [pAt_get hi] at hp
  have hc':(i:Int) < (ys.length:Int):=by omega
  have hin:¬ upP ys[i].Path∈keys ns:=by simpa [orphan] using hp
  obtain ⟨z,hz⟩:=up_impl _ (code_path (T.code _ (hs _ (List.getElem_mem hi)))).1
  obtain ⟨a,ha⟩:=find_no T.up hl hin
  unfold ms14_1
  simp only [hc',decide_true,cond_true,getN hi,obs,hz,ha,Bool.not_false,contO]
  exact ⟨trivial,rfl⟩
 ·unfold ms14_1
  simp only [Int.lt_irrefl,decide_false,cond_false,List.take_length]
  exact ⟨trivial,rfl⟩
theorem up_top:upP [47] = [47]:=by decide
theorem first_top {ns:List TZnode} (T:TreeOk ns) (h:[47]∈keys ns):∃ z t,ns = z::t∧z.Path = [47]:=by
 obtain ⟨k,hk,e⟩:=List.mem_iff_getElem.1 h
 cases k with
 | zero=>
  cases ns with
  | nil=>simp [keys] at hk
  | cons z t=>exact ⟨z,t,rfl,by simpa [keys] using e⟩
 | succ k=>
  have:=rise_lt' T.up (i:=0) (j:=k + 1) (by omega) hk
  rw [e] at this
  have h0:0 < ns.length:=by rw [keys_len] at hk; omega
  rw [keys_get h0] at this
  obtain ⟨r,hr⟩:=path_head (code_path (T.code _ (List.getElem_mem h0))).1
  rw [hr] at this
  cases r <;> simp [Op.bytesLess] at this
theorem fault_eq (ns:List TZnode) (hn:ns.length≤1048576):∃ y,m11 ns = some y∧m14 ns = some y∧(y = 0→TreeOk ns):=by
 unfold m11 m14
 by_cases h20:(ns.length:Int) > 20
 ·simp only [h20,decide_true,cond_true]; exact ⟨_,rfl,rfl,fun h=>by cases h⟩
 simp only [h20,decide_false,cond_false]
 have hl:ns.length≤20:=by omega
 rw [loop_first (f:=ms11_0 ns) (s0:=(0,0)) (fun i=>(0,(i:Int))) ns.length (badAt ns) (fun i=>.ret (codeAt ns i,(i:Int))) (.exit 0 (0,(ns.length:Int))) (fun i hi _ hp=>by rw [step_spec hi hn]; unfold outA; rw [hp]; rfl) (fun i hi _ hp=>by rw [step_spec hi hn]; unfold outA; rw [hp]; exact ⟨rfl,rfl⟩) (fun _=>by
  unfold ms11_0
  simp only [Int.lt_irrefl,decide_false,cond_false]
  exact ⟨trivial,rfl⟩) (NN_l hn) rfl]
 rw [loop_first (f:=ms14_0 ns) (s0:=(0,0)) (fun i=>(0,(i:Int))) ns.length (badAt ns) (fun i=>.ret (codeAt ns i,(i:Int))) (.exit 0 (0,(ns.length:Int))) (fun i hi _ hp=>by rw [step_impl hi hn]; unfold outA; rw [hp]; rfl) (fun i hi _ hp=>by rw [step_impl hi hn]; unfold outA; rw [hp]; exact ⟨rfl,rfl⟩) (fun _=>by
  unfold ms14_0
  simp only [Int.lt_irrefl,decide_false,cond_false]
  exact ⟨trivial,rfl⟩) (NN_l hn) rfl]
 rcases fst_cases (badAt ns) ns.length with hb | ⟨i,h1,h2,h3⟩
 rotate_left
 ·rw [fstN_some h1 h2 h3]
  refine ⟨_,rfl,rfl,fun h=>?_⟩
  exfalso
  have h:codeAt ns i = 0:=h
  unfold codeAt at h
  rw [List.getElem?_eq_getElem h1] at h
  dsimp only at h
  cases hc:nodeCode ns[i] != 0
  ·rw [hc] at h; cases h
  ·rw [hc,cond_true] at h; rw [h] at hc; cases hc
 rw [fstN_none hb]
 have T:=tree_ok hl hb
 simp only [orF,obs,contO,if_true,at_spec ns hn]
 by_cases ht:([47]:Str)∈keys ns
 rotate_left
 ·obtain ⟨a,ha⟩:=find_no T.up hn ht
  simp only [ht,decide_false,cond_false,ha,obs,Bool.not_false,cond_true]
  exact ⟨_,rfl,rfl,fun h=>by cases h⟩
 have hneg:¬ ((atN ns [47]:Int) < 0):=by omega
 simp only [ht,decide_true,cond_true,find_at T.up hn ht,obs,Bool.not_true,cond_false,hneg,decide_false]
 obtain ⟨z,t,e,hz⟩:=first_top T ht
 have g0:getI ns 0 = some z:=by rw [e]; rfl
 have e1:subI ns 1 (ns.length:Int) = some t:=by
  unfold subI
  rw [if_pos ⟨by omega,by rw [e]; simp; omega,by omega⟩,List.take_of_length_le (by simp)]
  rw [e]; rfl
 have ho:orphan ns z = false:=by unfold orphan; rw [hz,up_top]; simpa using ht
 have ha0:atN ns [47] = 0:=by
  obtain ⟨q1,q2⟩:=at_lt ht
  refine rise_inj T.up (by rw [keys_len]; exact q1) (by rw [keys_len,e]; simp) ?_
  rw [keys_get q1,keys_get (show 0 < ns.length by rw [e]; simp),q2]
  simp only [e,List.getElem_cons_zero,hz]
 have hw:ownU ns z = (z.Owner != 0):=by
  unfold ownU
  rw [hz,up_top,ha0,e]; rfl
 have ht20:t.length≤20:=by rw [e] at hl; simp at hl; omega
 rw [g0,e1]
 simp only [obs]
 rw [rest_spec1 T,rest_impl T ht20 (fun y hy=>by rw [e]; simp [hy]) (z.Owner != 0)]
 have eor:ns.any (orphan ns) = t.any (orphan ns):=by
  conv=>lhs; rw [e,List.any_cons]
  rw [← e,ho,Bool.false_or]
 have eow:ns.any (ownU ns) = ((z.Owner != 0) || t.any (ownU ns)):=by
  conv=>lhs; rw [e,List.any_cons]
  rw [← e,hw]
 have f1:=fst_any (orphan ns) ns
 have f2:=fst_any (orphan ns) t
 rw [eor] at f1
 cases hx:t.any (orphan ns)
 rotate_left
 ·rw [hx] at f1 f2
  obtain ⟨i,hi⟩:=Option.isSome_iff_exists.1 f1
  obtain ⟨j,hj⟩:=Option.isSome_iff_exists.1 f2
  rw [hi,hj]
  exact ⟨_,rfl,rfl,fun h=>by cases h⟩
 rw [hx] at f1 f2
 have n1:fstN (pAt (orphan ns) ns) ns.length = none:=by simpa using f1
 have n2:fstN (pAt (orphan ns) t) t.length = none:=by simpa using f2
 have hall:∀ y∈ns,orphan ns y = false:=fun y hy=>by
  cases hq:orphan ns y
  ·rfl
  ·have:ns.any (orphan ns) = true:=List.any_eq_true.2 ⟨y,hy,hq⟩
   rw [eor,hx] at this; cases this
 rw [n1,n2]
 simp only [orF,obs,contO,if_true]
 rw [rest_spec2 T hall]
 have f3:=fst_any (ownU ns) ns
 rw [eow] at f3
 cases hy:(z.Owner != 0) || t.any (ownU ns)
 rotate_left
 ·rw [hy] at f3
  obtain ⟨i,hi⟩:=Option.isSome_iff_exists.1 f3
  rw [hi]
  exact ⟨_,rfl,rfl,fun h=>by cases h⟩
 ·rw [hy] at f3
  have n3:fstN (pAt (ownU ns) ns) ns.length = none:=by simpa using f3
  rw [n3]
  exact ⟨_,rfl,rfl,fun _=>T⟩
open Go Go.Rf
set_option linter.unusedVariables false
set_option linter.unusedSimpArgs false
theorem flat_len {α:Type} {g:α→Str}:∀ {l:List α},(∀ x∈l,(g x).length≤100)→((l.map g).flatten).length≤100 * l.length
 | [],_=>by simp
 | x::l,h=>by
  have h1:=h x (by simp)
  have h2:=flat_len (l:=l) fun y hy=>h y (by simp [hy])
  simp only [List.map_cons,List.flatten_cons,List.length_append,List.length_cons]
  omega
theorem flat_snoc {α:Type} {g:α→Str} {l:List α} {i:Nat} (h:i < l.length):((l.take (i + 1)).map g).flatten = ((l.take i).map g).flatten++g l[i]:=by
 rw [take_snoc' h,List.map_append,List.flatten_append]
 simp
theorem catN {a b:Str} (ha:a.length≤1000000000) (hb:b.length≤1000000):catO a b = some (a++b):=catS (by omega)
theorem node_nums {z:TZnode} (h:nodeCode z = 0):z.Path.length≤24∧(0≤z.Data∧z.Data≤9999)∧(0≤z.Version∧z.Version≤999)∧(0≤z.Owner∧z.Owner≤9):=by
 obtain ⟨h1,h2⟩:=code_path h
 refine ⟨path_len h1,?_⟩
 unfold badNum m18 m20 m19 at h2
 simp only [Bool.or_eq_false_iff,Bool.not_eq_false'] at h2
 obtain ⟨⟨⟨a1,a2⟩,a3⟩,a4⟩:=h2
 have key:∀ {x lo hi:Int},(bif decide (x ≥ lo) then decide (x≤hi) else false) = true→lo≤x∧x≤hi:=fun {x lo hi} h=>by
  by_cases h1:x ≥ lo
  ·simp only [h1,decide_true,cond_true] at h
   exact ⟨h1,by simpa using h⟩
  ·simp only [h1,decide_false,cond_false] at h; cases h
 exact ⟨key a1,key a2,key a3⟩
noncomputable def nodeT (z:TZnode):Str:=z.Path++[32]++Lib.itoa z.Data++[32]++Lib.itoa z.Version++[32]++Lib.itoa z.Owner++[10]
noncomputable def nodesT (ns:List TZnode):Str:=(ns.map nodeT).flatten
theorem itoaL {n:Int} (h:0≤n∧n≤9999):(Lib.itoa n).length≤20:=(digits n (by omega) (by omega)).2
theorem nodeT_len {z:TZnode} (h:nodeCode z = 0):(nodeT z).length≤100:=by
 obtain ⟨h0,h1,h2,h3⟩:=node_nums h
 have:=itoaL (n:=z.Data) (by omega)
 have:=itoaL (n:=z.Version) (by omega)
 have:=itoaL (n:=z.Owner) (by omega)
 unfold nodeT
 simp; omega
theorem nodesT_len {ns:List TZnode} (T:TreeOk ns) (i:Nat):(nodesT (ns.take i)).length≤100000:=by
 have:=flat_len (g:=nodeT) (l:=ns.take i) fun z hz=>nodeT_len (T.code z (List.mem_of_mem_take hz))
 unfold nodesT
 have:(ns.take i).length≤ns.length:=List.length_take_le' _ _
 have:=T.len
 omega
theorem text_spec {ns:List TZnode} (T:TreeOk ns):m12 ns = some (nodesT ns):=by
 have hn:ns.length≤1048576:=by have:=T.len; omega
 unfold m12
 rw [loop_all (f:=ms12_0 ns) (s0:=(([]:Str),0)) (fun i=>(nodesT (ns.take i),(i:Int))) ns.length (.exit 0 (nodesT ns,(ns.length:Int))) (fun i hi=>?_) ?_ rfl (NN_l hn) rfl]
 ·rfl
 ·unfold ms12_0
  simp only [Int.lt_irrefl,decide_false,cond_false,List.take_length]
 ·have hc':(i:Int) < (ns.length:Int):=by omega
  obtain ⟨h0,h1,h2,h3⟩:=node_nums (T.code _ (List.getElem_mem hi))
  obtain ⟨d1,l1⟩:=digits ns[i].Data (by omega) (by omega)
  obtain ⟨d2,l2⟩:=digits ns[i].Version (by omega) (by omega)
  obtain ⟨d3,l3⟩:=digits ns[i].Owner (by omega) (by omega)
  have hr:=nodesT_len T i
  have e:nodesT (ns.take (i + 1)) = nodesT (ns.take i)++nodeT ns[i]:=flat_snoc hi
  unfold ms12_0
  simp only [hc',decide_true,cond_true,getN hi,obs,d1,d2,d3]
  rw [e]
  unfold nodeT
  simp (disch:=(first | omega | (simp only [List.length_append,List.length_cons,List.length_nil] <;> omega))) only [catN,obs,contO,wi1 (show i≤1099511627776 by omega)]
  simp
theorem nums3 {a b c:Int} (h1:0≤a∧a≤9999) (h2:0≤b∧b≤9999) (h3:0≤c∧c≤9999):m28 [a,b,c] = some [Lib.itoa a,Lib.itoa b,Lib.itoa c]:=by
 have h:∀ v∈[a,b,c],0≤v∧v≤9999:=by
  intro v hv
  simp only [List.mem_cons,List.not_mem_nil,or_false] at hv
  rcases hv with rfl | rfl | rfl <;> assumption
 have hl:[a,b,c].length≤30:=by simp
 rw [show [Lib.itoa a,Lib.itoa b,Lib.itoa c] = [a,b,c].map Lib.itoa from rfl]
 generalize [a,b,c] = l at h hl
 unfold m28
 rw [loop_all (f:=ms28_0 l) (s0:=(0,[])) (fun i=>((i:Int),(l.take i).map Lib.itoa)) l.length (.exit 0 ((l.length:Int),l.map Lib.itoa)) (fun i hi=>?_) ?_ rfl (NN_l (by omega)) rfl]
 ·rfl
 ·unfold ms28_0
  simp only [Int.lt_irrefl,decide_false,cond_false,List.take_length]
 ·have hc':(i:Int) < (l.length:Int):=by omega
  have sm:=h _ (List.getElem_mem hi)
  unfold ms28_0
  simp only [hc',decide_true,cond_true,getN hi,obs,decimal l[i] (by omega) (by omega),wi1 (show i≤1099511627776 by omega)]
  rw [show appO 16 ((l.take i).map Lib.itoa) [Lib.itoa l[i]] = some ((l.take i).map Lib.itoa++[Lib.itoa l[i]]) from by
   unfold appO; rw [if_pos (by simp; omega)]]
  rw [take_snoc' hi,List.map_append]
  rfl
theorem join3 (a b c:Str):Lib.join [a,b,c] [32] = a++[32]++b++[32]++c:=by simp [Lib.join,List.intercalate]
theorem text_impl {ns:List TZnode} (T:TreeOk ns):m15 ns = some (nodesT ns):=by
 have hn:ns.length≤1048576:=by have:=T.len; omega
 unfold m15
 rw [loop_all (f:=ms15_0 ns) (s0:=(([]:Str),0)) (fun i=>(nodesT (ns.take i),(i:Int))) ns.length (.exit 0 (nodesT ns,(ns.length:Int))) (fun i hi=>?_) ?_ rfl (NN_l hn) rfl]
 ·rfl
 ·unfold ms15_0
  simp only [Int.lt_irrefl,decide_false,cond_false,List.take_length]
 ·have hc':(i:Int) < (ns.length:Int):=by omega
  obtain ⟨h0,h1,h2,h3⟩:=node_nums (T.code _ (List.getElem_mem hi))
  have l1:=itoaL (n:=ns[i].Data) (by omega)
  have l2:=itoaL (n:=ns[i].Version) (by omega)
  have l3:=itoaL (n:=ns[i].Owner) (by omega)
  have hr:=nodesT_len T i
  have e:nodesT (ns.take (i + 1)) = nodesT (ns.take i)++nodeT ns[i]:=flat_snoc hi
  have hj:m27 [Lib.itoa ns[i].Data,Lib.itoa ns[i].Version,Lib.itoa ns[i].Owner] [32] = some (Lib.itoa ns[i].Data++[32]++Lib.itoa ns[i].Version++[32]++Lib.itoa ns[i].Owner):=by
   unfold m27 joinO
   rw [join3,if_pos ⟨by simp [joinMost],by simp [joinMost]; omega⟩]
  unfold ms15_0
  simp only [hc',decide_true,cond_true,getN hi,obs,nums3 (show 0≤ns[i].Data∧ns[i].Data≤9999 by omega) (show 0≤ns[i].Version∧ns[i].Version≤9999 by omega) (show 0≤ns[i].Owner∧ns[i].Owner≤9999 by omega),hj]
  rw [e]
  unfold nodeT
  simp (disch:=(first | omega | (simp only [List.length_append,List.length_cons,List.length_nil] <;> omega))) only [catN,obs,contO,wi1 (show i≤1099511627776 by omega)]
  simp
theorem tree_eq (ns:List TZnode) (hn:ns.length≤1048576):∃ y,m5 ns = some y∧m7 ns = some y:=by
 obtain ⟨y,h1,h2,h3⟩:=fault_eq ns hn
 unfold m5 m7
 rw [h1,h2]
 simp only [obs]
 by_cases hy:y = 0
 ·subst hy
  rw [text_spec (h3 rfl),text_impl (h3 rfl)]
  exact ⟨_,rfl,rfl⟩
 ·have e:(y != 0) = true:=by simpa using hy
  simp only [e,cond_true]
  exact ⟨_,rfl,rfl⟩
def okTree (ns:List TZnode):Prop:=ns.length≤maxLen∧∀ z∈ns,z.Path.length≤maxLen
theorem szZ_ok:Sz (fun x l=>some (m10 x l)) (fun z=>z.Path.length≤maxLen) (fun z=>z.Path.length≤1048576):=fun x hx l k0 k1=>gSl_ok x.Path hx l k0 k1
theorem szZS_ok:Sz (m4) (fun xs=>xs.length≤maxLen∧∀ x∈xs,x.Path.length≤maxLen) (fun xs=>xs.length≤1048576∧∀ x∈xs,x.Path.length≤1048576):=gS_ok szZ_ok (NN_l (Nat.le_refl _))
theorem toZ_ok (xs:List TZnode) (h:xs.length≤1048576):m6 xs = some xs:=gT_ok (t:=m13) (z:=(⟨[],0,0,0,0⟩:TZnode)) (by_:=48) (fun _=>rfl) (NN_l h) h (by omega)
theorem eqZ_ok (xs:List TZnode) (h:xs.length≤1048576):m9 xs xs = some true:=gE_self (ne:=fun a b=>!(m16 a b)) (fun a=>by simp [m16]) (NN_l h) (big_l h)
theorem tree_law (ns:List TZnode) (h:okTree ns):m3 ns = some true:=by
 unfold m3
 obtain ⟨y,h1,h2⟩:=szZS_ok ns h 1048576 (by omega) (by omega)
 rw [h1,obs]
 by_cases hy:y < 0
 ·simp only [hy,decide_true,cond_true]
 have g:=h2 (by omega)
 have hn:=g.2.1
 obtain ⟨w,e1,e2⟩:=tree_eq ns hn
 have e3:m8 w w = true:=by simp [m8]
 simp only [hy,decide_false,cond_false,toZ_ok ns hn,e1,e2,e3,eqZ_ok ns hn,obs,Bool.not_true]
end Go.Proofs.YtilijpnaoefapaaDoor
