/- Votes: what is wrong with them. -/
import Derived.Test.YtocbahgmnandaaaDoorSort
import Derived.Test.YtocbahgmnandaaaDoorRh6
import Derived.Test.YtocbahgmnandaaaDoorRh11
namespace Go.Proofs.YtocbahgmnandaaaDoor
open Go Go.Rf
set_option linter.unusedVariables false
set_option linter.unusedSimpArgs false
theorem rep_ok (x:TReply):∃ b,m23 x = some b:=by
 unfold m23
 cases m36 x.Code 0 10 <;> cases m36 x.Value (-1) 9999 <;> exact ⟨_,rfl⟩
noncomputable def repB (x:TReply):Bool:=(m23 x).getD false
theorem rep1 (x:TReply):m23 x = some (repB x):=by
 obtain ⟨b,h⟩:=rep_ok x
 unfold repB; rw [h]; rfl
theorem rep2 (x:TReply):m21 x = some (repB x):=(rfl:m21 x = m23 x).trans (rep1 x)
noncomputable def goodV (f:Int) (x:TVote):Bool:=m31 f x.From && repB x.Reply
theorem all_take {α:Type} {p:α→Bool} {xs:List α} {i:Nat} (hi:i < xs.length) (h:∀ j (hj:j < xs.length),j < i→p xs[j] = true) (hp:p xs[i] = true):∀ j (hj:j < xs.length),j < i + 1→p xs[j] = true:=fun j hj h1=>by
 by_cases e:j = i
 ·subst e; exact hp
 ·exact h j hj (by omega)
theorem fault1 (f:Int) (xs:List TVote) (hl:xs.length≤40):loopO (ms15_0 f xs) NN (0,0) = some (if xs.all (goodV f) then .exit 0 (0,(xs.length:Int)) else .ret (3,((xs.findIdx fun x=>!goodV f x:Nat):Int))):=by
 obtain ⟨o,h1,rfl⟩:=loop_idx (f:=ms15_0 f xs) (fun i s=>s = (0,(i:Int))∧∀ j (hj:j < xs.length),j < i→goodV f xs[j] = true) xs.length (fun o=>o = if xs.all (goodV f) then .exit 0 (0,(xs.length:Int)) else .ret (3,((xs.findIdx fun x=>!goodV f x:Nat):Int)))
  (fun i s hi hs=>by
   obtain ⟨rfl,hg⟩:=hs
   unfold ms15_0
   dsimp only
   by_cases hc:i < xs.length
   ·have hc':(i:Int) < (xs.length:Int):=by omega
    simp only [hc',decide_true,cond_true,getN hc,obs,rep1]
    by_cases hgi:goodV f xs[i] = true
    ·have:=hgi
     unfold goodV at this
     rw [Bool.and_eq_true] at this
     simp only [this.1,this.2,Bool.not_true,cond_false,obs,contO,wi1 (show i≤1099511627776 by omega)]
     exact .inl ⟨hc,_,rfl,rfl,all_take hc hg hgi⟩
    ·have hall:¬ (xs.all (goodV f)) = true:=fun h=>hgi (List.all_eq_true.1 h _ (List.getElem_mem hc))
     have hidx:(xs.findIdx fun x=>!goodV f x) = i:=by
      rw [List.findIdx_eq hc]
      exact ⟨by simpa using hgi,fun j hj=>by simpa using hg j (by omega) hj⟩
     refine .inr (.inr ⟨(3,(i:Int)),?_,by rw [if_neg hall,hidx]⟩)
     unfold goodV at hgi
     cases e1:m31 f xs[i].From
     ·simp [contO]
     ·cases e2:repB xs[i].Reply
      ·simp [contO]
      ·simp [e1,e2] at hgi
   ·have hc':¬ (i:Int) < (xs.length:Int):=by omega
    have:i = xs.length:=by omega
    subst this
    simp only [hc',decide_false,cond_false]
    have hall:xs.all (goodV f) = true:=List.all_eq_true.2 fun x hx=>by
     obtain ⟨j,hj,rfl⟩:=List.mem_iff_getElem.1 hx
     exact hg j hj hj
    exact .inr (.inl ⟨_,_,rfl,by rw [if_pos hall]⟩)) NN 0 (0,0) (Nat.zero_le _) (by rw [NN_eq]; omega) ⟨rfl,fun j hj h=>by omega⟩
 exact h1
theorem bad_eq (f:Int) (x:TVote):m19 x f = some (!goodV f x):=by
 unfold m19 goodV
 rw [show m20 f x.From = m31 f x.From from rfl,rep2]
 cases m31 f x.From <;> cases repB x.Reply <;> rfl
theorem fault2 (f:Int) (xs:List TVote) (hl:xs.length≤40):∃ z:Int,m33 xs (fun x=>m19 x f) = some z∧decide (z ≥ 0) = !xs.all (goodV f):=by
 unfold m33
 obtain ⟨o,h1,h2⟩:=loop_idx (f:=ms33_0 xs (fun x=>m19 x f)) (fun i s=>s = (0,(i:Int))∧∀ j (hj:j < xs.length),j < i→goodV f xs[j] = true) xs.length (fun o=>(xs.all (goodV f) = true∧∃ s,o = .exit 0 s)∨(xs.all (goodV f) = false∧∃ (i:Nat) (s:Int),o = .ret ((i:Int),s)))
  (fun i s hi hs=>by
   obtain ⟨rfl,hg⟩:=hs
   unfold ms33_0
   dsimp only
   by_cases hc:i < xs.length
   ·have hc':(i:Int) < (xs.length:Int):=by omega
    simp only [hc',decide_true,cond_true,getN hc,obs,bad_eq]
    by_cases hgi:goodV f xs[i] = true
    ·simp only [hgi,Bool.not_true,cond_false,wi1 (show i≤1099511627776 by omega)]
     exact .inl ⟨hc,_,rfl,rfl,all_take hc hg hgi⟩
    ·have hall:xs.all (goodV f) = false:=Bool.eq_false_iff.2 fun h=>hgi (List.all_eq_true.1 h _ (List.getElem_mem hc))
     have hgi':goodV f xs[i] = false:=Bool.eq_false_iff.2 hgi
     simp only [hgi',Bool.not_false,cond_true]
     exact .inr (.inr ⟨_,rfl,.inr ⟨hall,i,_,rfl⟩⟩)
   ·have hc':¬ (i:Int) < (xs.length:Int):=by omega
    have:i = xs.length:=by omega
    subst this
    simp only [hc',decide_false,cond_false]
    have hall:xs.all (goodV f) = true:=List.all_eq_true.2 fun x hx=>by
     obtain ⟨j,hj,rfl⟩:=List.mem_iff_getElem.1 hx
     exact hg j hj hj
    exact .inr (.inl ⟨_,_,rfl,.inl ⟨hall,_,rfl⟩⟩)) NN 0 (0,0) (Nat.zero_le _) (by rw [NN_eq]; omega) ⟨rfl,fun j hj h=>by omega⟩
 rw [h1]
 rcases h2 with ⟨g,s,rfl⟩ | ⟨g,i,s,rfl⟩
 ·exact ⟨-1,by simp [contO],by rw [g]; rfl⟩
 ·exact ⟨(i:Int),by simp [contO],by rw [g]; simp⟩
theorem fault_eq (f:Int) (xs:List TVote):∃ y:Int,m15 f xs = some y∧m8 f xs = some y∧(y = 0→1≤f∧f≤2∧xs.length≤40∧∀ x∈xs,1≤x.From∧x.From≤3 * f + 1):=by
 unfold m15 m8
 rw [show m17 f = m30 f from rfl]
 cases hf:m30 f
 ·exact ⟨3,rfl,rfl,fun h=>by omega⟩
 have hf2:1≤f∧f≤2:=by
  unfold m30 m36 at hf
  by_cases h:f ≥ 1
  ·simp [h] at hf; omega
  ·simp [h] at hf
 simp only [Bool.not_true,cond_false]
 by_cases hl:(xs.length:Int) > 40
 ·simp only [hl,decide_true,cond_true]
  exact ⟨2,rfl,rfl,fun h=>by omega⟩
 simp only [hl,decide_false,cond_false]
 rw [fault1 f xs (by omega)]
 obtain ⟨z,h1,h2⟩:=fault2 f xs (by omega)
 unfold m18
 rw [h1]
 cases hall:xs.all (goodV f)
 ·rw [hall] at h2
  exact ⟨3,by simp [contO],by simp only [obs,h2]; rfl,fun h=>by omega⟩
 ·rw [hall] at h2
  refine ⟨0,by simp [contO],by simp only [obs,h2]; rfl,fun _=>⟨hf2.1,hf2.2,by omega,fun x hx=>?_⟩⟩
  have:=List.all_eq_true.1 hall x hx
  unfold goodV at this
  rw [Bool.and_eq_true] at this
  have h3:=this.1
  unfold m31 m36 at h3
  rw [wi64 (x:=3 * f) (by omega) (by omega),wi64 (by omega) (by omega)] at h3
  by_cases h:x.From ≥ 1
  ·simp [h] at h3; omega
  ·simp [h] at h3
open Go Go.Rf
set_option linter.unusedVariables false
set_option linter.unusedSimpArgs false
def eqR (x r:TReply):Bool:=(x.Code == r.Code) && ((x.Value == r.Value) && ((x.Path == r.Path) && true))
def saidBy (xs:List TVote) (r:TReply) (k:Int):Bool:=xs.any fun x=>x.From == k && eqR x.Reply r
def upto (n:Nat):List Int:=(List.range n).map fun (j:Nat)=>((j:Int) + 1)
theorem upto_succ (n:Nat):upto (n + 1) = upto n++[(n:Int) + 1]:=by simp [upto,List.range_succ]
theorem upto_mem (n:Nat) (k:Int):k∈upto n ↔ 1≤k∧k≤n:=by
 simp only [upto,List.mem_map,List.mem_range]
 constructor
 ·rintro ⟨j,h,rfl⟩; omega
 ·intro h; exact ⟨(k - 1).toNat,by omega,by omega⟩
theorem upto_lt (n:Nat):(upto n).Pairwise (· < ·):=by
 unfold upto
 rw [List.pairwise_map]
 exact List.pairwise_lt_range.imp fun h=>by omega
theorem said_ok (xs:List TVote) (r:TReply) (k:Int) (L:List Int) (hl:xs.length≤40):loopO (ms16_0 xs r (k,L)) NN (false,0) = some (.exit 2 (saidBy xs r k,(xs.length:Int))):=by
 obtain ⟨o,h1,rfl⟩:=loop_idx (f:=ms16_0 xs r (k,L)) (fun i s=>s = (saidBy (xs.take i) r k,(i:Int))) xs.length (fun o=>o = .exit 2 (saidBy xs r k,(xs.length:Int)))
  (fun i s hi hs=>by
   subst hs
   unfold ms16_0
   dsimp only
   by_cases hc:i < xs.length
   ·have hc':(i:Int) < (xs.length:Int):=by omega
    simp only [hc',decide_true,cond_true,getN hc,obs]
    have hst:saidBy (xs.take (i + 1)) r k = (saidBy (xs.take i) r k || (xs[i].From == k && eqR xs[i].Reply r)):=by
     unfold saidBy
     rw [List.take_add_one,List.any_append,List.getElem?_eq_getElem hc]
     simp
    refine .inl ⟨hc,(saidBy (xs.take (i + 1)) r k,((i + 1:Nat):Int)),?_,rfl⟩
    rw [hst]
    cases saidBy (xs.take i) r k
    ·cases hf:xs[i].From == k
     ·simp only [cond_false,obs,contO,wi1 (show i≤1099511627776 by omega)]; rfl
     ·simp only [cond_false,cond_true,obs,contO,wi1 (show i≤1099511627776 by omega)]; rfl
    ·simp only [cond_true,obs,contO,wi1 (show i≤1099511627776 by omega)]; rfl
   ·have hc':¬ (i:Int) < (xs.length:Int):=by omega
    have:i = xs.length:=by omega
    subst this
    simp only [hc',decide_false,cond_false,List.take_length]
    exact .inr (.inl ⟨_,_,rfl,rfl⟩)) NN 0 (false,0) (Nat.zero_le _) (by rw [NN_eq]; omega) rfl
 exact h1
theorem appI {L:List Int} {k:Int} (h:L.length≤1000):appO 8 L [k] = some (L++[k]):=by
 unfold appO
 rw [if_pos (by simp; omega)]
theorem voters1 (xs:List TVote) (r:TReply) (f:Nat) (hf:f≤2) (hl:xs.length≤40):m16 (f:Int) xs r = some ((upto (3 * f + 1)).filter (saidBy xs r)):=by
 unfold m16
 have e1:wi .i64 ((wi .i64 (3 * (f:Int))) + 1) = ((3 * f + 1:Nat):Int):=by rw [wi64 (x:=3 * (f:Int)) (by omega) (by omega),wi64 (by omega) (by omega)]; omega
 obtain ⟨o,h1,s,rfl,h2⟩:=loop_idx (f:=ms16_1 (f:Int) xs r) (fun i s=>s = ((i:Int) + 1,(upto i).filter (saidBy xs r))) (3 * f + 1) (fun o=>∃ s,o = .exit 0 s∧s.2 = (upto (3 * f + 1)).filter (saidBy xs r))
  (fun i s hi hs=>by
   subst hs
   unfold ms16_1
   dsimp only
   rw [e1]
   by_cases hc:i < 3 * f + 1
   ·have hc':(i:Int) + 1≤((3 * f + 1:Nat):Int):=by omega
    simp only [hc',decide_true,cond_true,said_ok xs r _ _ hl,obs,contO,if_true]
    have hlen:((upto i).filter (saidBy xs r)).length≤1000:=Nat.le_trans (List.length_filter_le _ _) (by simp [upto]; omega)
    have e2:wi .i64 ((i:Int) + 1 + 1) = ((i + 1:Nat):Int) + 1:=by rw [wi64 (by omega) (by omega)]; omega
    refine .inl ⟨hc,_,?_,rfl⟩
    rw [upto_succ,List.filter_append,e2]
    cases hs:saidBy xs r ((i:Int) + 1)
    ·simp [hs]; rfl
    ·simp [hs,appI hlen]; rfl
   ·have hc':¬ (i:Int) + 1≤((3 * f + 1:Nat):Int):=by omega
    simp only [hc',decide_false,cond_false]
    have:i = 3 * f + 1:=by omega
    subst this
    exact .inr (.inl ⟨_,_,rfl,_,rfl,rfl⟩)) NN 0 (1,[]) (Nat.zero_le _) (by rw [NN_eq]; omega) rfl
 rw [h1]
 simp [contO,h2]
theorem voters2 (xs:List TVote) (r:TReply) (hl:xs.length≤40):∃ ys:List Int,m14 xs r = some (cmpA ys)∧ys.Pairwise (·≤·)∧∀ k,k∈ys ↔ saidBy xs r k = true:=by
 unfold m14
 obtain ⟨o,h1,s,rfl,h2⟩:=loop_idx (f:=ms14_0 xs r) (fun i s=>s = ((i:Int),((xs.take i).filter fun x=>eqR x.Reply r).map fun x=>x.From)) xs.length (fun o=>∃ s,o = .exit 0 s∧s.2 = (xs.filter fun x=>eqR x.Reply r).map fun x=>x.From)
  (fun i s hi hs=>by
   subst hs
   unfold ms14_0
   dsimp only
   by_cases hc:i < xs.length
   ·have hc':(i:Int) < (xs.length:Int):=by omega
    simp only [hc',decide_true,cond_true,getN hc,obs]
    have hlen:(((xs.take i).filter fun x=>eqR x.Reply r).map fun x=>x.From).length≤1000:=by
     rw [List.length_map]; exact Nat.le_trans (List.length_filter_le _ _) (by simp; omega)
    have hst:((xs.take (i + 1)).filter fun x=>eqR x.Reply r) = ((xs.take i).filter fun x=>eqR x.Reply r)++if eqR xs[i].Reply r then [xs[i]] else []:=by
     rw [List.take_add_one,List.filter_append,List.getElem?_eq_getElem hc]
     simp [List.filter_cons]
    refine .inl ⟨hc,_,?_,rfl⟩
    rw [hst]
    show Option.bind (bif eqR xs[i].Reply r then _ else _) _ = _
    cases he:eqR xs[i].Reply r
    ·simp [contO,wi1 (show i≤1099511627776 by omega)]
    ·simp [contO,appI hlen,wi1 (show i≤1099511627776 by omega)]
   ·have hc':¬ (i:Int) < (xs.length:Int):=by omega
    have:i = xs.length:=by omega
    subst this
    simp only [hc',decide_false,cond_false,List.take_length]
    exact .inr (.inl ⟨_,_,rfl,_,rfl,rfl⟩)) NN 0 (0,[]) (Nat.zero_le _) (by rw [NN_eq]; omega) rfl
 rw [h1]
 have hlen:s.2.length < 50:=by rw [h2,List.length_map]; exact Nat.lt_of_le_of_lt (List.length_filter_le _ _) (by omega)
 obtain ⟨ys,k1,k2,k3⟩:=SO_ok hlen
 refine ⟨ys,?_,k3,fun k=>?_⟩
 ·simp only [obs,contO,if_true,k1]
  rw [CM_ok (by rw [k2.length_eq]; omega)]
  rfl
 ·rw [k2.mem_iff,h2]
  simp only [List.mem_map,List.mem_filter,saidBy,List.any_eq_true,Bool.and_eq_true,beq_iff_eq]
  constructor
  ·rintro ⟨x,⟨a,b⟩,c⟩; exact ⟨x,a,c,b⟩
  ·rintro ⟨x,a,c,b⟩; exact ⟨x,⟨a,b⟩,c⟩
theorem strict_eq:∀ (xs ys:List Int),xs.Pairwise (· < ·)→ys.Pairwise (· < ·)→(∀ k,k∈xs ↔ k∈ys)→xs = ys
 | [],[],_,_,_=>rfl
 | [],y::ys,_,_,h=>by have:=(h y).2 (by simp); cases this
 | x::xs,[],_,_,h=>by have:=(h x).1 (by simp); cases this
 | x::xs,y::ys,hx,hy,h=>by
  rw [List.pairwise_cons] at hx hy
  have e:x = y:=by
   rcases List.mem_cons.1 ((h x).1 (by simp)) with e | e
   ·exact e
   ·rcases List.mem_cons.1 ((h y).2 (by simp)) with e' | e'
    ·exact e'.symm
    ·have:=hy.1 x e; have:=hx.1 y e'; omega
  subst e
  rw [strict_eq xs ys hx.2 hy.2 fun k=>?_]
  have:=h k
  simp only [List.mem_cons] at this
  constructor
  ·intro hk
   rcases this.1 (.inr hk) with e | e
   ·subst e; have:=hx.1 k hk; omega
   ·exact e
  ·intro hk
   rcases this.2 (.inr hk) with e | e
   ·subst e; have:=hy.1 k hk; omega
   ·exact e
theorem voters_eq (xs:List TVote) (r:TReply) (f:Nat) (hf:f≤2) (hl:xs.length≤40) (hx:∀ x∈xs,1≤x.From∧x.From≤3 * (f:Int) + 1):∃ ys,m16 (f:Int) xs r = some ys∧m14 xs r = some ys:=by
 obtain ⟨ys,h1,h2,h3⟩:=voters2 xs r hl
 refine ⟨_,voters1 xs r f hf hl,?_⟩
 rw [h1]
 congr 1
 refine strict_eq _ _ (cmpA_nodup ys h2) ((upto_lt _).filter _) fun k=>?_
 rw [cmpA_mem,h3,List.mem_filter,upto_mem]
 constructor
 ·intro h
  refine ⟨?_,h⟩
  unfold saidBy at h
  rw [List.any_eq_true] at h
  obtain ⟨x,hxm,hk⟩:=h
  rw [Bool.and_eq_true,beq_iff_eq] at hk
  have:=hx x hxm
  omega
 ·exact fun h=>h.2
open Go Go.Rf
set_option linter.unusedVariables false
set_option linter.unusedSimpArgs false
theorem wi8 {x:Int} (h1:0≤x) (h2:x < 256):wi .u8 x = x:=by
 show IntKind.u8.wrap x = x
 rw [IntKind.wrap_u8]; omega
theorem catS {a b:Str} (h:a.length + b.length≤4611686018427387904):catO a b = some (a++b):=by
 unfold catO; rw [if_pos h]
theorem dig_byte {k:Nat} (h:k < 10):UInt8.ofNat (Int.toNat (wi .u8 (wi .i64 (48 + (k:Int))))) = UInt8.ofNat (48 + k):=by
 rw [wi64 (by omega) (by omega),wi8 (by omega) (by omega)]
 congr 1
theorem decLen:∀ (j k:Nat),k < 10 ^ (j + 1)→(Lib.decDigits k).length≤j + 1
 | 0,k,h=>by rw [Lib.decDigits,dif_pos (by simpa using h)]; simp
 | j + 1,k,h=>by
  by_cases hk:k < 10
  ·rw [Lib.decDigits,dif_pos hk]; simp
  ·rw [Lib.decDigits,dif_neg hk,List.length_append]
   have e:(10:Nat) ^ (j + 1 + 1) = 10 ^ (j + 1) * 10:=Nat.pow_succ ..
   have:=decLen j (k / 10) (by omega)
   simp only [List.length_singleton]; omega
theorem dig_nat:∀ (j k n:Nat),k < 10 ^ (j + 1)→j < n→j≤17→m37 n (k:Int) = some (Lib.decDigits k)
 | j,k,n,hk,hn,hj=>by
  obtain ⟨n,rfl⟩:∃ q,n = q + 1:=⟨n - 1,by omega⟩
  show m37F (m37 n) (k:Int) = _
  unfold m37F
  have h0:¬ (k:Int) < 0:=by omega
  simp only [h0,decide_false,cond_false]
  have hb:k < 10 ^ 18:=Nat.lt_of_lt_of_le hk (Nat.pow_le_pow_right (by omega) (by omega))
  by_cases h1:k < 10
  ·have h1':(k:Int) < 10:=by omega
   simp only [h1',decide_true,cond_true]
   rw [dig_byte h1,Lib.decDigits,dif_pos h1]
  ·have h1':¬ (k:Int) < 10:=by omega
   simp only [h1',decide_false,cond_false]
   obtain ⟨j,rfl⟩:∃ q,j = q + 1:=⟨j - 1,by
    cases j with
    | zero=>simp at hk; omega
    | succ j=>omega⟩
   have e:(10:Nat) ^ (j + 1 + 1) = 10 ^ (j + 1) * 10:=Nat.pow_succ ..
   have e1:wi .i64 (Int.tdiv (k:Int) 10) = ((k / 10:Nat):Int):=by
    rw [Int.tdiv_eq_ediv_of_nonneg (by omega),wi64 (by omega) (by omega)]; omega
   have e2:Int.tmod (k:Int) 10 = ((k % 10:Nat):Int):=by
    rw [Int.tmod_eq_emod_of_nonneg (by omega)]; omega
   have hl:=decLen j (k / 10) (by omega)
   rw [e1,dig_nat j (k / 10) n (by omega) (by omega) (by omega),obs,e2,dig_byte (by omega),catS (by simp; omega),obs]
   conv=>rhs; rw [Lib.decDigits,dif_neg h1]
theorem digits (n:Int) (h1:-100000000000000000≤n) (h2:n≤100000000000000000):m37 64 n = some (Lib.itoa n)∧(Lib.itoa n).length≤20:=by
 by_cases h0:n < 0
 ·have e:wi .i64 (0 - n) = ((n.natAbs:Nat):Int):=by rw [wi64 (by omega) (by omega)]; omega
  have hl:=decLen 17 n.natAbs (by omega)
  have ei:Lib.itoa n = 45::Lib.decDigits n.natAbs:=by unfold Lib.itoa; rw [if_pos h0]
  refine ⟨?_,by rw [ei,List.length_cons]; omega⟩
  show m37F (m37 63) n = _
  unfold m37F
  simp only [h0,decide_true,cond_true]
  rw [e,dig_nat 17 n.natAbs 63 (by omega) (by omega) (by omega),obs,catS (by simp; omega),obs,ei]
  rfl
 ·obtain ⟨k,rfl⟩:∃ k:Nat,n = k:=⟨n.toNat,by omega⟩
  have hl:=decLen 17 k (by omega)
  have ei:Lib.itoa (k:Int) = Lib.decDigits k:=by unfold Lib.itoa; rw [if_neg h0]; simp
  rw [ei]
  exact ⟨dig_nat 17 k 64 (by omega) (by omega) (by omega),by omega⟩
theorem decimal (n:Int) (h1:-9223372036854775808≤n) (h2:n≤9223372036854775807):m22 n = some (Lib.itoa n):=by
 unfold m22 m35 fmtO
 rw [if_pos ⟨rfl,decide_eq_true ⟨h1,h2⟩⟩]; rfl
open Go Go.Rf
set_option linter.unusedVariables false
set_option linter.unusedSimpArgs false
theorem NN_l {n:Nat} (h:n≤1048576):n < NN:=by rw [NN_eq]; omega
theorem accept_eq (f:Int) (xs:List TVote):∃ y,m7 f xs = some y∧m6 f xs = some y:=by
 obtain ⟨y,h1,h2,h3⟩:=fault_eq f xs
 unfold m7 m6
 rw [h1,h2]
 simp only [obs]
 by_cases hy:y = 0
 rotate_left
 ·have hy':(y != 0) = true:=by simpa using hy
  rw [hy']
  exact ⟨_,rfl,rfl⟩
 have hy':(y != 0) = false:=by simpa using hy
 rw [hy']
 simp only [cond_false]
 obtain ⟨g1,g2,g3,g4⟩:=h3 hy
 obtain ⟨n,rfl⟩:∃ n:Nat,f = n:=⟨f.toNat,by omega⟩
 have hstep:ms6_0 (n:Int) xs = ms7_0 (n:Int) xs:=by
  funext s
  unfold ms7_0 ms6_0
  cases hg:getI xs s.1 with
  | none=>rfl
  | some x=>
   obtain ⟨ys,v1,v2⟩:=voters_eq xs x.Reply n (by omega) g3 g4
   simp only [obs,v1,v2]
 rw [hstep]
 obtain ⟨o,k1,k2⟩:=loop_idx (f:=ms7_0 (n:Int) xs) (fun i s=>s.1 = (i:Int)) xs.length (fun o=>(∃ s,o = .exit 0 s)∨∃ s,o = .ret s)
  (fun i s hi hs=>by
   unfold ms7_0
   rw [hs]
   by_cases hc:i < xs.length
   ·have hc':(i:Int) < (xs.length:Int):=by omega
    obtain ⟨ys,v1,v2⟩:=voters_eq xs xs[i].Reply n (by omega) g3 g4
    simp only [hc',decide_true,cond_true,getN hc,obs,v1]
    by_cases h3:(ys.length:Int) > (n:Int)
    ·simp only [h3,decide_true,cond_true]
     exact .inr (.inr ⟨_,rfl,.inr ⟨_,rfl⟩⟩)
    ·simp only [h3,decide_false,cond_false]
     exact .inl ⟨hc,_,rfl,wi1 (by omega)⟩
   ·have hc':¬ (i:Int) < (xs.length:Int):=by omega
    simp only [hc',decide_false,cond_false]
    exact .inr (.inl ⟨_,_,rfl,.inl ⟨_,rfl⟩⟩)) NN 0 (0,0,0,[]) (Nat.zero_le _) (by rw [NN_eq]; omega) rfl
 rw [k1]
 rcases k2 with ⟨s,rfl⟩ | ⟨s,rfl⟩
 ·exact ⟨_,rfl,rfl⟩
 ·exact ⟨_,rfl,rfl⟩
theorem inB (n lo hi:Int):m36 n lo hi = decide (lo≤n∧n≤hi):=by
 unfold m36
 by_cases h:n ≥ lo
 ·simp [h]
 ·simp [h]
def repOk (x:TReply):Bool:=decide (0≤x.Code∧x.Code≤10) && (decide (-1≤x.Value∧x.Value≤9999) && decide ((x.Path.length:Int)≤24))
theorem rep_spec (x:TReply):m23 x = some (repOk x):=by
 unfold m23 repOk
 rw [inB,inB]
 cases decide (0≤x.Code∧x.Code≤10) <;> cases decide (-1≤x.Value∧x.Value≤9999) <;> rfl
theorem rep_impl (x:TReply):m21 x = some (repOk x):=(rfl:m21 x = m23 x).trans (rep_spec x)
def repText (x:TReply):Str:=[99,111,100,101,32]++Lib.itoa x.Code++[32]++Lib.itoa x.Value++(if x.Path = [] then [] else [32]++x.Path)
theorem text_ok (x:TReply) (h:repOk x = true):m12 x = some ⟨0,repText x⟩∧m11 x = some ⟨0,repText x⟩:=by
 unfold m12 m11
 rw [rep_spec,rep_impl,h]
 simp only [obs,Bool.not_true,cond_false]
 unfold repOk at h
 simp only [Bool.and_eq_true,decide_eq_true_eq] at h
 obtain ⟨⟨h1,h2⟩,⟨h3,h4⟩,h5⟩:=h
 obtain ⟨d1,l1⟩:=digits x.Code (by omega) (by omega)
 obtain ⟨d2,l2⟩:=digits x.Value (by omega) (by omega)
 unfold m24
 simp only [d1,d2,decimal x.Code (by omega) (by omega),decimal x.Value (by omega) (by omega),obs]
 have hp:x.Path.length≤24:=by omega
 refine ⟨?_,?_⟩
 ·simp only [catS (show (([99,111,100,101,32]:Str)).length + (Lib.itoa x.Code).length≤4611686018427387904 by simp; omega),obs]
  simp only [catS (show ([99,111,100,101,32]++Lib.itoa x.Code:Str).length + ([32]:Str).length≤4611686018427387904 by simp; omega),obs]
  simp only [catS (show ([99,111,100,101,32]++Lib.itoa x.Code++[32]:Str).length + (Lib.itoa x.Value).length≤4611686018427387904 by simp; omega),obs]
  unfold repText
  by_cases hx:x.Path = []
  ·simp [hx]
  ·have hb:(!(x.Path == ([]:Str))) = true:=by simpa using hx
   simp only [hb,cond_true,hx,if_false]
   rw [catS (by simp; omega),obs,catS (by simp; omega),obs]
   simp
 ·simp only [catS (show (([99,111,100,101,32]:Str)).length + (Lib.itoa x.Code).length≤4611686018427387904 by simp; omega),obs]
  simp only [catS (show ([99,111,100,101,32]++Lib.itoa x.Code:Str).length + ([32]:Str).length≤4611686018427387904 by simp; omega),obs]
  simp only [catS (show ([99,111,100,101,32]++Lib.itoa x.Code++[32]:Str).length + (Lib.itoa x.Value).length≤4611686018427387904 by simp; omega),obs]
  unfold repText
  by_cases hx:x.Path = []
  ·simp [hx,contO]
  ·have hb:(!(x.Path == ([]:Str))) = true:=by simpa using hx
   simp only [hb,cond_true,hx,if_false]
   rw [catS (by simp; omega),obs,catS (by simp; omega),obs]
   simp [contO]
def Src (code:List U8) (s:Tl1Src) (k:Nat):Prop:=s.Code = code∧0≤s.At∧s.At≤k
def bytes (code:List U8):Prop:=code.length≤1048576∧∀ x∈code,0≤x.v∧x.v≤255
theorem next_ok {code:List U8} (H:bytes code) {s:Tl1Src} {k:Nat} (hs:Src code s k) (hk:k≤1000) {n:Int} (hn:1≤n∧n≤200):∃ r s',m39 s n = some (r,s')∧(0≤r∧r < n)∧Src code s' (k + 1):=by
 obtain ⟨rfl,h0,h1⟩:=hs
 obtain ⟨hl,hb⟩:=H
 have e1:¬ n < 1:=by omega
 have e2:wi .i64 (s.At + 1) = s.At + 1:=wi64 (by omega) (by omega)
 have e3:wi .i64 (s.At + 1 - 1) = s.At:=by rw [wi64 (by omega) (by omega)]; omega
 have hn0:n≠0:=by omega
 have hs':Src s.Code ⟨s.Code,s.At + 1⟩ (k + 1):=⟨rfl,by show 0≤s.At + 1; omega,by show s.At + 1≤((k + 1:Nat):Int); omega⟩
 unfold m39
 simp only [e1,decide_false,cond_false,e2,e3]
 cases hc:((s.Code.length:Int) == 0)
 rotate_left
 ·simp only [cond_true,remO,if_neg hn0,obs]
  exact ⟨_,_,rfl,⟨Int.tmod_nonneg _ (by rw [wi64 (by omega) (by omega)]; omega),Int.tmod_lt_of_pos _ (by omega)⟩,hs'⟩
 have hp:0 < (s.Code.length:Int):=by
  have:(s.Code.length:Int)≠0:=by simpa using hc
  omega
 have hp0:(s.Code.length:Int)≠0:=by omega
 have q1:=Int.tmod_nonneg (a:=s.At) (s.Code.length:Int) h0
 have q2:=Int.tmod_lt_of_pos s.At hp
 have hx:∃ x∈s.Code,getI s.Code (Int.tmod s.At (s.Code.length:Int)) = some x:=by
  have hi:(Int.tmod s.At (s.Code.length:Int)).toNat < s.Code.length:=by omega
  refine ⟨s.Code[(Int.tmod s.At (s.Code.length:Int)).toNat],List.getElem_mem hi,?_⟩
  unfold getI
  rw [if_pos q1,List.getElem?_eq_getElem hi]
 obtain ⟨x,hxm,hx⟩:=hx
 have hxb:=hb x hxm
 have t1:0≤Int.tdiv s.At (s.Code.length:Int):=Int.tdiv_nonneg h0 (by omega)
 have t2:Int.tdiv s.At (s.Code.length:Int)≤s.At:=Int.tdiv_le_self _ h0
 have e4:IntKind.i64.wrap (Int.tdiv s.At (s.Code.length:Int)) = Int.tdiv s.At (s.Code.length:Int):=wi64 (by omega) (by omega)
 have e5:¬ n > 200:=by omega
 simp only [cond_false,remO,quoO,if_neg hp0,if_neg hn0,obs,hx,e4,e5,decide_false,contO]
 have e6:wi .i64 (wi .i64 x.v + wi .i64 (Int.tdiv s.At (s.Code.length:Int) * 37)) = x.v + Int.tdiv s.At (s.Code.length:Int) * 37:=by
  rw [wi64 (x:=x.v) (by omega) (by omega),wi64 (x:=Int.tdiv s.At (s.Code.length:Int) * 37) (by omega) (by omega),wi64 (by omega) (by omega)]
 rw [e6]
 exact ⟨_,_,rfl,⟨Int.tmod_nonneg _ (by omega),Int.tmod_lt_of_pos _ (by omega)⟩,hs'⟩
theorem pick_ok {code:List U8} (H:bytes code) {s:Tl1Src} {k:Nat} (hs:Src code s k) (hk:k≤1000) {l:List Int} (hn:1≤l.length∧l.length≤200):∃ r s',m38 s l = some (r,s')∧Src code s' (k + 1):=by
 obtain ⟨r,s',h1,⟨h2,h3⟩,h4⟩:=next_ok H hs hk (n:=(l.length:Int)) (by omega)
 have hi:r.toNat < l.length:=by omega
 refine ⟨l[r.toNat],s',?_,h4⟩
 unfold m38
 rw [h1,obs]
 show (getI l r).bind _ = _
 unfold getI
 rw [if_pos h2,List.getElem?_eq_getElem hi]; rfl
theorem reply_ok {code:List U8} (H:bytes code) {s:Tl1Src} {k:Nat} (hs:Src code s k) (hk:k + 3≤1000):∃ r s',m40 s = some (r,s')∧Src code s' (k + 3):=by
 obtain ⟨r1,s1,a1,a2⟩:=pick_ok H hs (by omega) (l:=[0,0,4]) (by simp)
 obtain ⟨r2,s2,b1,_,b2⟩:=next_ok H a2 (by omega) (n:=2) (by omega)
 obtain ⟨r3,s3,c1,⟨c3,c4⟩,c2⟩:=next_ok H b2 (by omega) (n:=2) (by omega)
 have hi:r3.toNat < ([([]:Str),([47,97]:Str)]).length:=by simp; omega
 refine ⟨⟨r1,r2,[([]:Str),([47,97]:Str)][r3.toNat]⟩,s3,?_,c2⟩
 unfold m40
 simp only [a1,b1,c1,obs]
 rw [show getI [([]:Str),([47,97]:Str)] r3 = some [([]:Str),([47,97]:Str)][r3.toNat] from by
  unfold getI
  rw [if_pos c3,List.getElem?_eq_getElem hi]]
 rfl
theorem appV {L:List TVote} {k:TVote} (h:L.length≤1000):appO 40 L [k] = some (L++[k]):=by
 unfold appO; rw [if_pos (by simp; omega)]
theorem votes_loop {code:List U8} (H:bytes code):∀ (j:Nat) (xs:List TVote) (s:Tl1Src) (k N:Nat),Src code s k→k + 4 * j≤1000→xs.length + j≤1000→j < N→∃ xs' s',loopO ms27_0 N ((j:Int),xs,s.Code,s.At) = some (.exit 0 (0,xs',s'.Code,s'.At))∧xs'.length≤xs.length + j∧Src code s' (k + 4 * j)
 | 0,xs,s,k,N,hs,hk,hx,hN=>by
  obtain ⟨N,rfl⟩:∃ n,N = n + 1:=⟨N - 1,by omega⟩
  refine ⟨xs,s,?_,by omega,by simpa using hs⟩
  simp only [loopO]
  unfold ms27_0
  simp
 | j + 1,xs,s,k,N,hs,hk,hx,hN=>by
  obtain ⟨N,rfl⟩:∃ n,N = n + 1:=⟨N - 1,by omega⟩
  obtain ⟨r,s1,a1,_,a2⟩:=next_ok H hs (by omega) (n:=4) (by omega)
  obtain ⟨p,s2,b1,b2⟩:=reply_ok H a2 (by omega)
  have e1:((j + 1:Nat):Int) > 0:=by omega
  have e2:wi .i64 (((j + 1:Nat):Int) - 1) = (j:Int):=by rw [wi64 (by omega) (by omega)]; omega
  have hstep:ms27_0 (((j + 1:Nat):Int),xs,s.Code,s.At) = some (.norm ((j:Int),xs++[⟨wi .i64 (1 + r),p⟩],s2.Code,s2.At)):=by
   unfold ms27_0
   simp only [e1,decide_true,cond_true,e2]
   rw [show (⟨s.Code,s.At⟩:Tl1Src) = s from rfl,a1]
   simp only [obs,b1,appV (show xs.length≤1000 by omega)]
  obtain ⟨xs',s',c1,c2,c3⟩:=votes_loop H j (xs++[⟨wi .i64 (1 + r),p⟩]) s2 (k + 1 + 3) N b2 (by omega) (by simp; omega) (by omega)
  refine ⟨xs',s',?_,by simp at c2; omega,by rw [show k + 4 * (j + 1) = k + 1 + 3 + 4 * j by omega]; exact c3⟩
  simp only [loopO,hstep]
  exact c1
theorem votes_ok {code:List U8} (H:bytes code) {s:Tl1Src} {k:Nat} (hs:Src code s k) (hk:k≤100):∃ xs s',m27 s = some (xs,s'):=by
 obtain ⟨r,s1,a1,⟨a3,a4⟩,a2⟩:=next_ok H hs (by omega) (n:=8) (by omega)
 obtain ⟨j,rfl⟩:∃ j:Nat,r = j:=⟨r.toNat,by omega⟩
 obtain ⟨xs,s2,b1,b2,b3⟩:=votes_loop H j [] s1 (k + 1) NN a2 (by omega) (by simp; omega) (by rw [NN_eq]; omega)
 have b2:xs.length≤j:=by simpa using b2
 obtain ⟨q,s3,c1,_,c2⟩:=next_ok H b3 (by omega) (n:=14) (by omega)
 unfold m27
 rw [a1,obs,b1]
 simp only [obs,contO,if_true,c1]
 cases q == 0
 ·cases q == 1
  ·exact ⟨_,_,rfl⟩
  ·rw [show mkO 40 41 (⟨0,(⟨0,0,[]⟩:TReply)⟩:TVote) = some (List.replicate 41 ⟨0,⟨0,0,[]⟩⟩) from by unfold mkO; rw [if_pos ⟨by omega,by decide⟩]; rfl]
   exact ⟨_,_,rfl⟩
 ·obtain ⟨p1,s4,d1,d2⟩:=pick_ok H c2 (by omega) (l:=[0,8,1]) (by simp)
  obtain ⟨p2,s5,f1,f2⟩:=pick_ok H d2 (by omega) (l:=[10,11]) (by simp)
  simp only [cond_true,d1,f1,obs,appV (show xs.length≤1000 by omega)]
  exact ⟨_,_,rfl⟩
theorem draw_ok {code:List U8} (H:bytes code):∃ f xs,m5 code = some (f,xs):=by
 have h0:Src code ⟨code,0⟩ 0:=⟨rfl,Int.le_refl _,Int.le_refl _⟩
 obtain ⟨f,s1,a1,a2⟩:=pick_ok H h0 (by omega) (l:=[1,1,1,1,2,0,1,1,3]) (by simp)
 obtain ⟨xs,s2,b1⟩:=votes_ok H a2 (by omega)
 refine ⟨f,xs,?_⟩
 unfold m5 m13 m25 m26
 simp only [obs,a1,b1]
theorem fault_all {f:Int} {xs:List TVote} (h:m15 f xs = some 0) (hl:xs.length≤40):xs.all (goodV f) = true:=by
 unfold m15 at h
 cases hf:m30 f
 ·rw [hf] at h; cases h
 have e:¬ ((xs.length:Int) > 40):=by omega
 rw [hf] at h
 simp only [Bool.not_true,cond_false,e,decide_false,fault1 f xs hl,obs] at h
 cases hall:xs.all (goodV f)
 ·rw [hall] at h
  simp [contO] at h
 ·rfl
noncomputable def votL (n:Nat) (xs:List TVote) (r:TReply):List Int:=(upto (3 * n + 1)).filter (saidBy xs r)
noncomputable def manyV (n:Nat) (xs:List TVote) (x:TVote):Bool:=decide (((votL n xs x.Reply).length:Int) > (n:Int))
noncomputable def repAt (xs:List TVote) (i:Nat):TReply:=((xs[i]?).map (·.Reply)).getD ⟨0,0,[]⟩
theorem acc_ok (f:Int) (xs:List TVote):∃ y,m7 f xs = some y∧m6 f xs = some y∧(y.Code = 0→m8 f xs = some 0∧repB y.Reply = true∧∃ n:Nat,f = n∧m14 xs y.Reply = some (votL n xs y.Reply)∧((votL n xs y.Reply).length:Int) > f):=by
 obtain ⟨y,h1,h2⟩:=accept_eq f xs
 refine ⟨y,h1,h2,fun hy=>?_⟩
 obtain ⟨z,z1,z2,z3⟩:=fault_eq f xs
 unfold m6 at h2
 rw [z2,obs] at h2
 by_cases hz:z = 0
 rotate_left
 ·have e:(z != 0) = true:=by simpa using hz
  rw [e,cond_true] at h2
  injection h2 with h2
  rw [← h2] at hy
  exact absurd hy hz
 subst hz
 obtain ⟨g1,g2,g3,g4⟩:=z3 rfl
 have hall:=fault_all z1 g3
 obtain ⟨n,rfl⟩:∃ n:Nat,f = n:=⟨f.toNat,by omega⟩
 have hv:∀ r,m14 xs r = some (votL n xs r):=fun r=>by
  obtain ⟨ys,v1,v2⟩:=voters_eq xs r n (by omega) g3 g4
  rw [v2,← v1,voters1 xs r n (by omega) g3]; rfl
 simp only [bne_self_eq_false,cond_false] at h2
 rw [loop_first (f:=ms6_0 (n:Int) xs) (s0:=(0,0,0,[])) (fun i=>((i:Int),0,0,[])) xs.length (pAt (manyV n xs) xs) (fun i=>.ret ((i:Int),(repAt xs i).Code,(repAt xs i).Value,(repAt xs i).Path)) (.exit 0 ((xs.length:Int),0,0,[])) (fun i hi _ hp=>?_) (fun i hi _ hp=>?_) (fun _=>?_) (by rw [NN_eq]; omega) rfl] at h2
 ·rcases fst_cases (pAt (manyV n xs) xs) xs.length with hn | ⟨i,k1,k2,k3⟩
  ·rw [fstN_none hn] at h2
   simp only [orF,obs,contO,if_true] at h2
   injection h2 with h2
   rw [← h2] at hy
   cases hy
  ·rw [fstN_some k1 k2 k3] at h2
   simp only [orF,obs,contO] at h2
   injection h2 with h2
   have hr:repAt xs i = xs[i].Reply:=by simp [repAt,k1]
   have hyr:y.Reply = xs[i].Reply:=by rw [← h2,hr]
   rw [pAt_get k1] at k3
   unfold manyV at k3
   rw [decide_eq_true_eq] at k3
   have hg:=List.all_eq_true.1 hall _ (List.getElem_mem k1)
   unfold goodV at hg
   rw [Bool.and_eq_true] at hg
   rw [hyr]
   exact ⟨z2,hg.2,n,rfl,hv _,k3⟩
 ·rw [pAt_get hi] at hp
  have hc':(i:Int) < (xs.length:Int):=by omega
  unfold manyV at hp
  unfold ms6_0
  simp only [hc',decide_true,cond_true,getN hi,obs,hv,hp,cond_false,wi1 (show i≤1099511627776 by omega)]
 ·rw [pAt_get hi] at hp
  have hc':(i:Int) < (xs.length:Int):=by omega
  have hr:repAt xs i = xs[i].Reply:=by simp [repAt,hi]
  unfold manyV at hp
  unfold ms6_0
  simp only [hc',decide_true,cond_true,getN hi,obs,hv,hp,hr]
  exact ⟨trivial,rfl⟩
 ·unfold ms6_0
  simp only [Int.lt_irrefl,decide_false,cond_false]
  exact ⟨trivial,rfl⟩
theorem in_fv (s1:Bool×Int) (f:Int) (xs:List TVote) (y:TReplyResult) (z:TIntsResult) (k:Int) (hk:getI z.List s1.2 = some k) (hl:xs.length≤40):loopO (ms3_0 s1 (f,xs) y z) NN (false,0) = some (.exit 2 (saidBy xs y.Reply k,(xs.length:Int))):=by
 rw [loop_all (f:=ms3_0 s1 (f,xs) y z) (s0:=(false,0)) (fun i=>(saidBy (xs.take i) y.Reply k,(i:Int))) xs.length (.exit 2 (saidBy xs y.Reply k,(xs.length:Int))) (fun i hi=>?_) ?_ rfl (by rw [NN_eq]; omega) rfl]
 ·unfold ms3_0
  simp only [Int.lt_irrefl,decide_false,cond_false,List.take_length]
 ·have hc':(i:Int) < (xs.length:Int):=by omega
  unfold ms3_0
  simp only [hc',decide_true,cond_true,getN hi,obs,hk,wi1 (show i≤1099511627776 by omega)]
  have e:saidBy (xs.take (i + 1)) y.Reply k = (saidBy (xs.take i) y.Reply k || (xs[i].From == k && eqR xs[i].Reply y.Reply)):=by
   unfold saidBy
   rw [take_snoc' hi,List.any_append]
   simp
  rw [e]
  unfold eqR
  cases saidBy (xs.take i) y.Reply k <;> cases xs[i].From == k <;> simp [contO]
theorem out_fv (f:Int) (xs:List TVote) (y:TReplyResult) (L:List Int) (hL:∀ k∈L,saidBy xs y.Reply k = true) (hl:xs.length≤40) (hn:L.length≤1048576):loopO (ms3_1 (f,xs) y ⟨0,L⟩) NN (false,0) = some (.exit 0 (false,(L.length:Int))):=by
 rw [loop_all (f:=ms3_1 (f,xs) y ⟨0,L⟩) (s0:=(false,0)) (fun i=>(false,(i:Int))) L.length (.exit 0 (false,(L.length:Int))) (fun i hi=>?_) ?_ rfl (by rw [NN_eq]; omega) rfl]
 ·unfold ms3_1
  simp only [Int.lt_irrefl,decide_false,cond_false]
 ·have hc':(i:Int) < (L.length:Int):=by omega
  unfold ms3_1
  simp only [hc',decide_true,cond_true]
  rw [in_fv (false,(i:Int)) f xs y ⟨0,L⟩ L[i] (getN hi) hl,hL _ (List.getElem_mem hi)]
  simp only [obs,contO,if_true,Bool.not_true,cond_false,wi1 (show i≤1099511627776 by omega)]
theorem fv_law (code:List U8) (h:∀ x∈code,0≤x.v∧x.v≤255):m3 code = some true:=by
 unfold m3 m4
 by_cases hl:(code.length:Int) > 1048576
 ·simp only [hl,decide_true,cond_true]
 obtain ⟨f,xs,hd⟩:=draw_ok (code:=code) ⟨by omega,h⟩
 obtain ⟨y,a1,a2,a3⟩:=acc_ok f xs
 obtain ⟨z,z1,z2,z3⟩:=fault_eq f xs
 have z4:m9 f xs = some z:=by unfold m9; rw [z1]; rfl
 simp only [hl,decide_false,cond_false,hd,obs,a2]
 by_cases hy:y.Code = 0
 rotate_left
 ·have e:(y.Code != 0) = true:=by simpa using hy
  simp only [e,cond_true,a1,obs,beq_self_eq_true,z2,z4]
 have e:(y.Code != 0) = false:=by simpa using hy
 obtain ⟨b1,b2,n,rfl,b3,b4⟩:=a3 hy
 have hz:z = 0:=by
  rw [z2] at b1
  injection b1
 obtain ⟨g1,g2,g3,g4⟩:=z3 hz
 have hrep:repOk y.Reply = true:=by
  have:=rep1 y.Reply
  rw [rep_spec,b2] at this
  injection this
 obtain ⟨t1,t2⟩:=text_ok y.Reply hrep
 have hvf:m10 (n:Int) xs y.Reply = some ⟨0,votL n xs y.Reply⟩:=by
  unfold m10
  rw [b1,obs]
  simp only [bne_self_eq_false,cond_false,b3,obs]
 have hL:∀ k∈votL n xs y.Reply,saidBy xs y.Reply k = true:=fun k hk=>(List.mem_filter.1 hk).2
 have hlen:(votL n xs y.Reply).length≤1048576:=by
  have:=List.length_filter_le (saidBy xs y.Reply) (upto (3 * n + 1))
  have e2:(upto (3 * n + 1)).length = 3 * n + 1:=by simp [upto]
  unfold votL
  omega
 simp only [e,cond_false,hvf,t1,t2,obs]
 rw [out_fv (n:Int) xs y _ hL g3 hlen]
 simp only [obs,contO,if_true,beq_self_eq_true,cond_true,b4,decide_true,a1,Bool.and_self,Bool.and_true]
end Go.Proofs.YtocbahgmnandaaaDoor
