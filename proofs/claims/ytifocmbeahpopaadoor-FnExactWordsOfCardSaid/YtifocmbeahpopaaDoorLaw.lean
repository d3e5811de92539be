/- FnExactWordsOf, the plain law. -/
import Derived.Test.YtifocmbeahpopaaDoorW1
import Derived.Test.YtifocmbeahpopaaDoorRh3
import Derived.Test.YtifocmbeahpopaaDoorRh6
import Derived.Test.YtifocmbeahpopaaDoorRh10
namespace Go.Proofs.YtifocmbeahpopaaDoor
theorem obs {α β:Type} {x:α} {f:α→Option β}:(some x).bind f = f x:=rfl
open Go Go.Rf
set_option linter.unusedVariables false
set_option linter.unusedSimpArgs false
theorem NN_eq:NN = 9223372036854775808:=by unfold NN maxLen; rfl
theorem NN_l {n:Nat} (h:n≤1048576):n < NN:=by rw [NN_eq]; omega
theorem big_l {n:Nat} (h:n≤1048576):n≤big:=by unfold big; omega
theorem sub_take {α:Type} {xs:List α} {i:Nat} (h:i≤xs.length):subI xs 0 (i:Int) = some (xs.take i):=by
 unfold subI
 rw [if_pos ⟨by omega,by omega,by omega⟩]
 simp
theorem appS {L:List Str} {k:Str} (h:L.length≤1048577):appO 16 L [k] = some (L++[k]):=by
 unfold appO
 rw [if_pos (by simp; omega)]
theorem sub_nat {xs:Str} {i j:Nat} (h1:i≤j) (h2:j≤xs.length):subI xs (i:Int) (j:Int) = some ((xs.drop i).take (j - i)):=by
 unfold subI
 rw [if_pos ⟨by omega,by omega,by omega⟩,Int.toNat_natCast,show ((j:Int) - (i:Int)).toNat = j - i by omega]
theorem minI_ok (c n:Nat) (h:c≤n):minI ((c + 1:Nat):Int) ((n + 1:Nat):Int) = ((c + 1:Nat):Int):=by
 unfold minI
 rw [if_neg (by omega)]
theorem u8_32 (b:UInt8):((b.toNat:Int) == 32) = (b == 32):=by
 rw [Bool.eq_iff_iff,beq_iff_eq,beq_iff_eq]
 constructor
 ·intro h
  apply UInt8.toNat_inj.1
  have:(32:UInt8).toNat = 32:=rfl
  omega
 ·rintro rfl; rfl
theorem cut_ok (a:Str) (h:a.length≤1048576):m14 a 32 = some (spl 32 a):=by
 unfold m14
 obtain ⟨o,h1,s,rfl,h2⟩:=loop_idx (f:=ms14_0 a 32) (fun i s=>(i≤a.length∧∃ (fr:Nat) (out:List Str),s = ((fr:Int),(i:Int),out)∧fr≤i∧out.length≤i∧out++hd1 ((a.drop fr).take (i - fr)) (spl 32 (a.drop i)) = spl 32 a)∨(i = a.length + 1∧∃ fr:Int,s = (fr,(i:Int),spl 32 a))) (a.length + 1) (fun o=>∃ s,o = .exit 0 s∧s.2.2 = spl 32 a) (fun i s hi hs=>by
  rcases hs with ⟨hil,fr,out,rfl,h1,h2,h3⟩ | ⟨rfl,fr,rfl⟩
  ·unfold ms14_0
   dsimp only
   have hc:(i:Int)≤(a.length:Int):=by omega
   simp only [hc,decide_true,cond_true]
   by_cases he:i = a.length
   ·subst he
    have e1:((a.length:Int) == (a.length:Int)) = true:=by simp
    simp only [e1,cond_true,sub_nat h1 (Nat.le_refl _),obs,appS (show out.length≤1048577 by omega),contO,wi1 (show a.length≤1099511627776 by omega)]
    refine .inl ⟨by omega,(((a.length + 1:Nat):Int),((a.length + 1:Nat):Int),out++[(a.drop fr).take (a.length - fr)]),rfl,.inr ⟨trivial,((a.length + 1:Nat):Int),?_⟩⟩
    rw [← h3,List.drop_length]
    simp [spl,hd1]
   ·have hlt:i < a.length:=by omega
    have e1:((i:Int) == (a.length:Int)) = false:=by
     rw [Bool.eq_false_iff]; simp; omega
    rw [List.drop_eq_getElem_cons hlt] at h3
    simp only [e1,cond_false,getN hlt,obs,u8_32]
    cases hb:a[i] == 32
    ·simp only [cond_false,obs,contO,wi1 (show i≤1099511627776 by omega)]
     rw [hd1_spl hb] at h3
     refine .inl ⟨by omega,_,rfl,.inl ⟨by omega,fr,out,rfl,by omega,by omega,?_⟩⟩
     rw [← h3]
     congr 2
     rw [show i + 1 - fr = (i - fr) + 1 by omega,List.take_add_one,List.getElem?_drop,show fr + (i - fr) = i by omega,List.getElem?_eq_getElem hlt]
     rfl
    ·simp only [cond_true,sub_nat h1 (Nat.le_of_lt hlt),obs,appS (show out.length≤1048577 by omega),contO,wi1 (show i≤1099511627776 by omega)]
     rw [hd1_cut hb] at h3
     refine .inl ⟨by omega,_,rfl,.inl ⟨by omega,i + 1,out++[(a.drop fr).take (i - fr)],rfl,by omega,by simp; omega,?_⟩⟩
     rw [← h3]
     simp [hd1_nil _ (spl_ne 32 (a.drop (i + 1)))]
  ·unfold ms14_0
   have hc:¬ (((a.length + 1:Nat):Int)≤(a.length:Int)):=by omega
   simp only [hc,decide_false,cond_false]
   exact .inr (.inl ⟨_,_,rfl,_,rfl,rfl⟩)) NN 0 (0,0,[]) (Nat.zero_le _) (by rw [NN_eq]; omega) (.inl ⟨Nat.zero_le _,0,[],rfl,Nat.le_refl _,Nat.le_refl _,by simp [hd1_nil _ (spl_ne 32 a)]⟩)
 rw [h1]
 simp [contO,h2]
theorem count_le (a:Str):Lib.countByte a 32≤a.length:=List.count_le_length
theorem split_ok (a:Str) (h:a.length≤1048576):m16 a [32] = some (spl 32 a):=by
 unfold m16 m20
 have hcl:=count_le a
 have e0:((-1:Int) == 0) = false:=rfl
 have e1:(([32]:Str) == ([]:Str)) = false:=rfl
 have e2:decide ((-1:Int) < 0) = true:=rfl
 have e3:m22 a [32] = some (Lib.countByte a 32:Int):=rfl
 have e4:wi .i64 ((Lib.countByte a 32:Int) + 1) = ((Lib.countByte a 32 + 1:Nat):Int):=wi1 (by omega)
 have e5:wi .i64 ((a.length:Int) + 1) = ((a.length + 1:Nat):Int):=wi1 (by omega)
 have e6:mkO 16 ((Lib.countByte a 32 + 1:Nat):Int) ([]:Str) = some (List.replicate (Lib.countByte a 32 + 1) []):=by
  unfold mkO
  rw [if_pos ⟨by omega,by rw [Int.toNat_natCast]; omega⟩,Int.toNat_natCast]
 simp only [e0,e1,e2,e3,e4,e5,minI_ok _ _ hcl,e6,cond_false,cond_true,obs,contO]
 obtain ⟨o,h1,s,rfl,h2⟩:=loop_idx (f:=ms20_0 a [32] 0 ((Lib.countByte a 32 + 1:Nat):Int)) (fun i s=>∃ (t:Str) (b:List Str),s = (t,(i:Int),b)∧b.length = Lib.countByte a 32 + 1∧b.take i++spl 32 t = spl 32 a∧Lib.countByte t 32 + i = Lib.countByte a 32∧t.length≤a.length) (Lib.countByte a 32) (fun o=>∃ s,o = .exit 0 s∧∃ (t:Str) (b:List Str),s = (t,(Lib.countByte a 32:Int),b)∧b.length = Lib.countByte a 32 + 1∧b.take (Lib.countByte a 32)++[t] = spl 32 a) (fun i s hi hs=>by
  obtain ⟨t,b,rfl,g1,g2,g3,g4⟩:=hs
  unfold ms20_0
  have e7:wi .i64 (((Lib.countByte a 32 + 1:Nat):Int) - 1) = (Lib.countByte a 32:Int):=by rw [wi64 (by omega) (by omega)]; omega
  dsimp only
  rw [e5,minI_ok _ _ hcl,e7]
  by_cases hc:i < Lib.countByte a 32
  ·have hc':(i:Int) < (Lib.countByte a 32:Int):=by omega
   rcases index_nat 32 t with hn | ⟨m,hm⟩
   ·have:=(index_none 32 t).1 hn; omega
   ·obtain ⟨q1,q2,q3⟩:=spl_at 32 t m hm
    have e8:m23 t [32] = some (m:Int):=by rw [← hm]; rfl
    have e9:¬ ((m:Int) < 0):=by omega
    have e10:wi .i64 ((m:Int) + 0) = (m:Int):=by rw [wi64 (by omega) (by omega)]; omega
    have e11:wi .i64 ((m:Int) + (([32]:Str).length:Int)) = ((m + 1:Nat):Int):=by
     rw [show (([32]:Str).length:Int) = 1 from rfl]; exact wi1 (by omega)
    have e12:subI t 0 (m:Int) = some (t.take m):=by
     have:=sub_nat (xs:=t) (i:=0) (j:=m) (Nat.zero_le _) (by omega)
     simpa using this
    have e13:subI t ((m + 1:Nat):Int) (t.length:Int) = some (t.drop (m + 1)):=by
     rw [sub_nat (by omega) (Nat.le_refl _),List.take_of_length_le (by simp)]
    simp only [hc',decide_true,cond_true,e8,obs,e9,decide_false,cond_false,e10,e11,e12,e13,getN (show i < b.length by omega),Int.toNat_natCast,wi1 (show i≤1099511627776 by omega)]
    refine .inl ⟨hc,_,rfl,_,_,rfl,by simp [g1],?_,by omega,by simp; omega⟩
    rw [← g2,q2]
    rw [List.take_add_one,List.take_set_of_le (Nat.le_refl _),List.getElem?_set,if_pos rfl,if_pos (by omega)]
    simp
  ·have hc':¬ (i:Int) < (Lib.countByte a 32:Int):=by omega
   simp only [hc',decide_false,cond_false]
   have hi2:i = Lib.countByte a 32:=by omega
   refine .inr (.inl ⟨_,_,rfl,_,rfl,t,b,by rw [hi2],g1,?_⟩)
   rw [← g2,spl_none 32 t (by omega),hi2]) NN 0 (a,0,List.replicate (Lib.countByte a 32 + 1) []) (Nat.zero_le _) (by rw [NN_eq]; omega) ⟨a,_,rfl,by simp,by simp,by omega,Nat.le_refl _⟩
 obtain ⟨t,b,rfl,g1,g2⟩:=h2
 rw [h1]
 have e14:wi .i64 ((Lib.countByte a 32:Int) + 1) = ((Lib.countByte a 32 + 1:Nat):Int):=e4
 simp only [obs,contO,if_true,getN (show Lib.countByte a 32 < b.length by omega),Int.toNat_natCast,e14]
 have e15:subI (b.set (Lib.countByte a 32) t) 0 ((Lib.countByte a 32 + 1:Nat):Int) = some (spl 32 a):=by
  rw [sub_take (xs:=b.set (Lib.countByte a 32) t) (i:=Lib.countByte a 32 + 1) (by simp [g1]),← g2]
  rw [List.take_add_one,List.take_set_of_le (Nat.le_refl _),List.getElem?_set,if_pos rfl,if_pos (by omega)]
  simp
 rw [e15]; rfl
def fullB (w:Str):Bool:=!(w == ([]:Str))
def wordsL (a:Str):List Str:=(spl 32 a).filter fullB
theorem words_len (c:UInt8):∀ s:Str,((spl c s).filter fullB).length≤s.length
 | []=>by simp [spl,fullB]
 | b::r=>by
  have ih:=words_len c r
  unfold spl
  split
  ·simp only [List.filter_cons,show fullB [] = false from rfl,Bool.false_eq_true,if_false,List.length_cons]; omega
  ·obtain ⟨h,t,e⟩:=spl_cons c r
   rw [e] at ih ⊢
   simp only [List.filter_cons,show fullB (b::h) = true from rfl,if_true,List.length_cons]
   simp only [List.filter_cons] at ih
   split at ih
   ·simp only [List.length_cons] at ih; omega
   ·omega
theorem words_spec (a:Str) (h:a.length≤1048576):m9 a = some (wordsL a):=by
 unfold m9
 rw [cut_ok a h,obs]
 have hl:(spl 32 a).length≤1048577:=by have:=spl_len 32 a; have:=count_le a; omega
 rw [loop_all (f:=ms9_0 (spl 32 a)) (s0:=(0,[])) (fun i=>((i:Int),((spl 32 a).take i).filter fullB)) (spl 32 a).length (.exit 0 (((spl 32 a).length:Int),wordsL a)) (fun i hi=>?_) ?_ rfl (by rw [NN_eq]; omega) rfl]
 ·rfl
 ·unfold ms9_0
  simp only [Int.lt_irrefl,decide_false,cond_false,List.take_length,wordsL]
 ·have hc':(i:Int) < ((spl 32 a).length:Int):=by omega
  have hf:(((spl 32 a).take i).filter fullB).length≤1048577:=by
   have:=List.length_filter_le fullB ((spl 32 a).take i)
   have:=List.length_take_le' i (spl 32 a)
   omega
  unfold ms9_0
  simp only [hc',decide_true,cond_true,getN hi,obs,wi1 (show i≤1099511627776 by omega)]
  rw [take_snoc' hi,List.filter_append]
  cases e:(spl 32 a)[i] == ([]:Str)
  ·have e':fullB (spl 32 a)[i] = true:=by unfold fullB; rw [e]; rfl
   simp only [Bool.not_false,cond_true,appS hf,obs,contO,List.filter_cons,List.filter_nil,e',if_true]
  ·have e':fullB (spl 32 a)[i] = false:=by unfold fullB; rw [e]; rfl
   simp only [Bool.not_true,cond_false,obs,contO,List.filter_cons,List.filter_nil,e',Bool.false_eq_true,if_false,List.append_nil]
theorem del_ok (xs:List Str) (h:xs.length≤1048577):m15 xs = some (xs.filter fullB):=by
 unfold m15
 rw [show m19 xs (fun x0_=>some (m17 x0_)) = some (ixI (fstN (pAt (fun w=>w == ([]:Str)) xs) xs.length)) from gIF_ok (by rw [NN_eq]; omega) (by unfold big; omega) (fun x _=>rfl),obs]
 rcases fst_cases (pAt (fun w=>w == ([]:Str)) xs) xs.length with hn | ⟨i0,k1,k2,k3⟩
 ·have e:fstN (pAt (fun w=>w == ([]:Str)) xs) xs.length = none:=fstN_none hn
  rw [e]
  show some xs = _
  rw [List.filter_eq_self.2 fun x hx=>?_]
  obtain ⟨j,hj,rfl⟩:=List.mem_iff_getElem.1 hx
  have:=hn j hj
  rw [pAt_get hj] at this
  unfold fullB
  rw [this]; rfl
 ·rw [fstN_some k1 k2 k3]
  have e1:(ixI (some i0) == (-1:Int)) = false:=by
   rw [beq_eq_false_iff_ne]; show (i0:Int)≠-1; omega
  rw [e1,cond_false,show ixI (some i0) = (i0:Int) from rfl,wi1 (show i0≤1099511627776 by omega)]
  obtain ⟨o,h1,i,ys,rfl,g1,g2,g3⟩:=loop_idx (f:=ms15_0) (fun j s=>∃ (i:Nat) (ys:List Str),s = ((i:Int),(j:Int),ys)∧ys.length = xs.length∧i < j∧ys.take i = (xs.take j).filter fullB∧ys.drop j = xs.drop j) xs.length
   (fun o=>∃ (i:Nat) (ys:List Str),o = .exit 0 ((i:Int),(xs.length:Int),ys)∧ys.length = xs.length∧i≤xs.length∧ys.take i = xs.filter fullB) (fun j s hj hs=>by
   obtain ⟨i,ys,rfl,g1,g2,g3,g4⟩:=hs
   unfold ms15_0
   dsimp only
   rw [g1]
   by_cases hc:j < xs.length
   ·have hc':(j:Int) < (xs.length:Int):=by omega
    have hy:j < ys.length:=by omega
    have hx:ys[j] = xs[j]:=by
     rw [List.drop_eq_getElem_cons hy,List.drop_eq_getElem_cons hc] at g4
     injection g4
    have hd:ys.drop (j + 1) = xs.drop (j + 1):=by
     rw [List.drop_eq_getElem_cons hy,List.drop_eq_getElem_cons hc] at g4
     injection g4
    simp only [hc',decide_true,cond_true,getN hy,obs,hx,show m17 xs[j] = (xs[j] == ([]:Str)) from rfl]
    cases e:xs[j] == ([]:Str)
    ·have e':fullB xs[j] = true:=by unfold fullB; rw [e]; rfl
     simp only [Bool.not_false,cond_true,getN (show i < ys.length by omega),letO_eq,obs,contO,Int.toNat_natCast,wi1 (show i≤1099511627776 by omega),wi1 (show j≤1099511627776 by omega)]
     refine .inl ⟨hc,_,rfl,i + 1,ys.set i xs[j],rfl,by simp [g1],by omega,?_,?_⟩
     ·rw [List.take_add_one,List.take_set_of_le (Nat.le_refl _),List.getElem?_set,if_pos rfl,if_pos (by omega),g3,take_snoc' hc,List.filter_append]
      simp [e']
     ·rw [List.drop_set_of_lt (by omega)]; exact hd
    ·have e':fullB xs[j] = false:=by unfold fullB; rw [e]; rfl
     simp only [Bool.not_true,cond_false,obs,contO,wi1 (show j≤1099511627776 by omega)]
     refine .inl ⟨hc,_,rfl,i,ys,rfl,g1,by omega,?_,hd⟩
     rw [g3,take_snoc' hc,List.filter_append]
     simp [e']
   ·have hj':j = xs.length:=by omega
    subst hj'
    simp only [Int.lt_irrefl,decide_false,cond_false]
    exact .inr (.inl ⟨_,_,rfl,i,ys,rfl,g1,by omega,by rw [g3,List.take_length]⟩)) NN (i0 + 1) ((i0:Int),((i0 + 1:Nat):Int),xs) (by omega) (by rw [NN_eq]; omega) ⟨i0,xs,rfl,rfl,by omega,by
    rw [take_snoc' k1,List.filter_append]
    have e2:(xs.take i0).filter fullB = xs.take i0:=List.filter_eq_self.2 fun x hx=>by
     obtain ⟨j,hj,rfl⟩:=List.mem_iff_getElem.1 hx
     rw [List.length_take] at hj
     have:=k2 j (by omega)
     rw [pAt_get (by omega)] at this
     rw [List.getElem_take]
     unfold fullB
     rw [this]; rfl
    rw [pAt_get k1] at k3
    have e3:fullB xs[i0] = false:=by unfold fullB; rw [k3]; rfl
    rw [e2]
    simp [e3],rfl⟩
  rw [h1]
  simp only [obs,contO,if_true,g1]
  rw [show viO xs.length (i:Int) (xs.length:Int) = some () from by unfold viO; rw [if_pos ⟨by omega,by omega,by omega⟩],obs,Int.toNat_natCast,g3]
theorem words_impl (a:Str) (h:a.length≤1048576):m10 a = some (wordsL a):=by
 unfold m10
 have hl:(spl 32 a).length≤1048577:=by have:=spl_len 32 a; have:=count_le a; omega
 rw [split_ok a h,obs,del_ok _ hl]; rfl
theorem NN_20:1048576 < NN:=by rw [NN_eq]; omega
abbrev few {α:Type} (good:α→Prop) (xs:List α):Prop:=xs.length≤1048576∧∀ x∈xs,good x
theorem mkText_loop:∀ (j:Nat) (k:Int) (s:Str) (N:Nat),k < 10 ^ j→j < N→s.length + j≤1000→∃ z s',loopO ms18_0 N (k,s) = some (.exit 0 (z,s'))∧s'.length≤s.length + j
 | 0,k,s,N,hk,hN,hs=>by
  obtain ⟨N,rfl⟩:∃ n,N = n + 1:=⟨N - 1,by omega⟩
  have h:¬ k > 0:=by simp at hk; omega
  refine ⟨k,s,?_,by omega⟩
  simp only [loopO]
  unfold ms18_0
  simp only [h,decide_false,cond_false,obs]
 | j + 1,k,s,N,hk,hN,hs=>by
  obtain ⟨N,rfl⟩:∃ n,N = n + 1:=⟨N - 1,by omega⟩
  by_cases h:k > 0
  ·have e1:Int.tdiv k 10 = k / 10:=Int.tdiv_eq_ediv_of_nonneg (by omega)
   have e2:(10:Int) ^ (j + 1) = 10 ^ j * 10:=Int.pow_succ ..
   have e3:wi .i64 (Int.tdiv k 10) < 10 ^ j:=by
    rw [e1]
    have:k / 10 < 10 ^ j:=by omega
    by_cases hb:k≤9223372036854775807
    ·rw [wi64 (by omega) (by omega)]; exact this
    ·refine Int.lt_of_le_of_lt ?_ this
     show IntKind.i64.wrap (k / 10)≤k / 10
     rw [IntKind.wrap_i64]; omega
   obtain ⟨z,s',q1,q2⟩:=mkText_loop j (wi .i64 (Int.tdiv k 10)) (([UInt8.ofNat (Int.toNat (wi .u8 (wi .i64 (48 + (Int.tmod k 10)))))]:Str)++s) N e3 (by omega) (by simp; omega)
   refine ⟨z,s',?_,by simp at q2; omega⟩
   simp only [loopO]
   rw [show ms18_0 (k,s) = some (LO.norm (wi .i64 (Int.tdiv k 10),([UInt8.ofNat (Int.toNat (wi .u8 (wi .i64 (48 + (Int.tmod k 10)))))]:Str)++s)) from by
    unfold ms18_0
    simp only [h,decide_true,cond_true]
    unfold catO
    rw [if_pos (by simp; omega)]; rfl]
   exact q1
  ·refine ⟨k,s,?_,by omega⟩
   simp only [loopO]
   unfold ms18_0
   simp only [h,decide_false,cond_false,obs]
theorem mkText (k:Int) (hk:k≤mB):∃ s,m18 k = some s:=by
 unfold m18
 by_cases h:k≤0
 ·simp only [h,decide_true,cond_true]; exact ⟨_,rfl⟩
 ·simp only [h,decide_false,cond_false]
  have hk:k≤1152921504606846976:=hk
  obtain ⟨z,s',q1,q2⟩:=mkText_loop 30 k [] NN (by simp; omega) (by rw [NN_eq]; omega) (by simp)
  rw [q1,obs]
  simp only [contO,if_true]
  unfold catO
  rw [if_pos (by simp at q2 ⊢; omega)]
  exact ⟨_,rfl⟩
def hStr (x:Str) (k k':Int):Prop:=m18 k = some x∧k' = k + 1
theorem hStr_m:∀ x k k',hStr x k k'→k≤k':=fun x k k' h=>by obtain ⟨_,rfl⟩:=h; omega
theorem mkStrs:Mks m12 (MKL hStr) (few fun _=>True) (1048576 * 1):=
 gMk (F:=ms12_0) (good:=fun _=>True) (by omega) NN_20 (fun k i a x hg hx hi h0 hb hk hB=>by
  have hB:k + 1≤1152921504606846976:=hB
  obtain ⟨s,hs⟩:=mkText k (show k≤(1152921504606846976:Int) by omega)
  refine ⟨k + 1,s,?_,⟨hs,rfl⟩,by omega,by omega⟩
  unfold ms12_0
  simp (disch:=omega) only [hi,decide_true,cond_true,hx,obs,letO_eq,wiK,hs]) (fun k i a h=>by
  unfold ms12_0
  simp only [h,decide_false,cond_false])
theorem hdStrs:Hds m13 (MKL hStr):=
 gHd (F:=ms13_0) hStr_m NN_20 (fun xs k r i k' x hx hi h0 hb hk hB h=>by
  have hB:k'≤1152921504606846976:=hB
  obtain ⟨g1,rfl⟩:=h
  refine ⟨r,?_⟩
  unfold ms13_0
  simp (disch:=omega) only [hi,decide_true,cond_true,hx,obs,g1,beq_self_eq_true,Bool.not_true,cond_false,wiK]) (fun xs k r i h=>by
  unfold ms13_0
  simp only [h,decide_false,cond_false])
theorem wrd_law (a:Str):m3 a = some true:=by
 unfold m3
 by_cases hl:(a.length:Int) > 1048576
 ·simp only [hl,decide_true,cond_true]
 have h:a.length≤1048576:=by omega
 simp only [hl,decide_false,cond_false]
 unfold m4 m5
 rw [words_spec a h,words_impl a h]
 have hw:(wordsL a).length≤1048576:=by have:=words_len 32 a; unfold wordsL; omega
 have he:m6 (⟨0,wordsL a⟩:TTextsResult) ⟨0,wordsL a⟩ = some true:=by
  unfold m6
  rw [show m11 (wordsL a) (wordsL a) = some true from gE_self (ne:=fun a b=>!(a == b)) (fun a=>by simp) (NN_l hw) (big_l hw)]
  simp
 obtain ⟨k',y,q1,q2,q3,q4⟩:=mkStrs (wordsL a) 1 ⟨hw,fun _ _=>trivial⟩ (by omega) (by decide)
 have q4:k'≤1 + 1048576 * 1:=q4
 have hm:m7 (⟨0,wordsL a⟩:TTextsResult) 1 = some (k',⟨0,y⟩):=by
  unfold m7
  rw [q1]; rfl
 have hk:¬ k' < 0:=by omega
 have hh:m8 (⟨0,y⟩:TTextsResult) 1 = some k':=by
  unfold m8
  rw [hdStrs y 1 k' q2 (by omega) (show k'≤(1152921504606846976:Int) by omega)]
  simp only [obs,hk,decide_false,cond_false]
 simp only [obs,he,hm,hh,hk,Bool.not_true,cond_false,decide_false,bne_self_eq_false]
end Go.Proofs.YtifocmbeahpopaaDoor
