/- insertionSort, heapSort's parts: what they do to a range. -/
import Derived.Test.YtjlecnhninhmnaaGreatDoorW3
import Derived.Test.YtjlecnhninhmnaaGreatDoorRh3
namespace Go.Proofs.YtjlecnhninhmnaaGreatDoor
theorem obs {α β:Type} {x:α} {f:α→Option β}:(some x).bind f = f x:=rfl
open Go Go.Rf
set_option linter.unusedVariables false
set_option linter.unusedSimpArgs false
theorem b8 (x y:Int):WX x y = some (decide (x < y)):=by
 unfold WX WL
 simp [Ai]
theorem wiS {n:Nat} (h0:0 < n) (h:n≤1099511627776):wi .i64 ((n:Int) - 1) = ((n - 1:Nat):Int):=by
 rw [Dt (by omega) (by omega)]; omega
theorem wiA {n:Nat} (h:n≤1099511627776):wi .i64 ((n:Int) + 1) = ((n + 1:Nat):Int):=by
 rw [Dt (by omega) (by omega)]; omega
theorem IS0 {a j:Nat} {ys:List Int} (haj:a≤j) (hj:j < ys.length) (hl:ys.length≤1099511627776) :
  IC (a:Int) ((j:Int),ys) = if a < j∧A ys j < A ys (j - 1) then some (.norm (((j - 1:Nat):Int),sw ys j (j - 1))) else some (.exit 2 ((j:Int),ys)):=by
 unfold IC
 by_cases h1:a < j
 ·have e1:=wiS (n:=j) (by omega) (by omega)
  have g1:=PE hj
  have g2:=PE (xs:=ys) (i:=j - 1) (by omega)
  by_cases h2:A ys j < A ys (j - 1)
  ·have g3:Aq (ys.set (Int.toNat (j:Int)) (A ys (j - 1))) ((j - 1:Nat):Int) = some (A ys (j - 1)):=by
    rw [PE (by simp; omega),NF (by simpa using hj),if_neg (by omega)]
   simp only [gt_iff_lt,Int.ofNat_lt,h1,decide_true,cond_true,g1,e1,g2,g3,obs,b8,h2,Ai,and_self,if_true]
   rfl
  ·simp [h1,h2,g1,g2,e1,b8,Ai]
 ·have:¬ ((j:Int) > (a:Int)):=by omega
  simp [h1,this,Ai]
def Hole (ys:List Int) (a j i:Nat):Prop:=∀ p q,a≤p→p < q→q≤i→q≠j→A ys p≤A ys q
theorem Yx {a i:Nat} {ys:List Int} (hai:a≤i) (hi:i < ys.length) (hl:ys.length≤1099511627776) (hs:SO ys a i) (n:Nat) (hn:i < n) :
  ∃ s':Int×List Int,Ax (IC (a:Int)) n ((i:Int),ys) = some (.exit 2 s')∧RP ys s'.2 a (i + 1)∧SO s'.2 a (i + 1):=by
 refine LG (fun s:Int×List Int=>∃ j:Nat,s.1 = j∧a≤j∧j≤i∧RP ys s.2 a (i + 1)∧Hole s.2 a j i) (fun s:Int×List Int=>s.1.toNat) (fun s:Int×List Int=>RP ys s.2 a (i + 1)∧SO s.2 a (i + 1)) 2 (fun s hs=>?_) n _ ⟨i,rfl,hai,Nat.le_refl _,RP.refl _ _ _,fun p q h1 h2 h3 h4=>hs p q h1 h2 (by omega)⟩ (by simpa using hn)
 obtain ⟨z,zs⟩:=s
 obtain ⟨j,rfl,h1,h2,h3,h4⟩:=hs
 dsimp only at h3 h4 ⊢
 have hlen:=h3.len
 rw [IS0 h1 (by omega) (by omega)]
 by_cases hc:a < j∧A zs j < A zs (j - 1)
 ·rw [if_pos hc]
  refine .inl ⟨_,rfl,⟨j - 1,rfl,by omega,by omega,h3.trans (RP.sw (by omega) (by omega) (by omega)),fun p q g1 g2 g3 g4=>?_⟩,by simp; omega⟩
  rw [gP (by omega) (by omega),gP (by omega) (by omega)]
  have k1:=h4 p (j - 1)
  have k2:=h4 (j - 1) q
  have k3:=h4 j q
  have k4:=h4 p q
  repeat' split
  all_goals first | omega | (exfalso; omega) | (have:=k1 (by omega) (by omega) (by omega) (by omega); omega) | (have:=k2 (by omega) (by omega) (by omega) (by omega); omega) | (have:=k3 (by omega) (by omega) (by omega) (by omega); omega) | exact k4 (by omega) (by omega) (by omega) (by omega)
 ·rw [if_neg hc]
  refine .inr ⟨_,rfl,h3,fun p q g1 g2 g3=>?_⟩
  show A zs p≤A zs q
  by_cases e:q = j
  ·subst e
   have h5:A zs (q - 1)≤A zs q:=by
    by_cases hq:A zs q < A zs (q - 1)
    ·exact absurd ⟨by omega,hq⟩ hc
    ·omega
   by_cases e2:p = q - 1
   ·subst e2; exact h5
   ·have:=h4 p (q - 1) g1 (by omega) (by omega) (by omega)
    omega
  ·exact h4 p q g1 g2 (by omega) e
theorem ND:NN = 9223372036854775808:=by unfold NN maxLen; rfl
theorem IS1 {a b:Nat} {xs:List Int} (hab:a≤b) (hb:b≤xs.length) (hl:xs.length≤1099511627776) (s:Int×List Int)
  (hs:∃ i:Nat,s.1 = i∧a < i∧(i≤b∨i = a + 1)∧RP xs s.2 a b∧SO s.2 a i) :
  (∃ s',IB (a:Int) (b:Int) s = some (.norm s')∧(∃ i:Nat,s'.1 = i∧a < i∧(i≤b∨i = a + 1)∧RP xs s'.2 a b∧SO s'.2 a i)∧b + 2 - s'.1.toNat < b + 2 - s.1.toNat)∨(∃ s',IB (a:Int) (b:Int) s = some (.exit 0 s')∧RP xs s'.2 a b∧SO s'.2 a b):=by
 obtain ⟨z,zs⟩:=s
 obtain ⟨i,rfl,h1,h2,h3,h4⟩:=hs
 dsimp only at h3 h4 ⊢
 have hlen:=h3.len
 unfold IB
 by_cases hc:i < b
 ·have hc':((i:Nat):Int) < (b:Int):=by omega
  obtain ⟨s',k1,k2,k3⟩:=Yx (a:=a) (i:=i) (ys:=zs) (by omega) (by omega) (by omega) h4 NN (by rw [ND]; omega)
  simp only [hc',decide_true,cond_true,k1,obs,Ai,if_true]
  rw [wiA (by omega)]
  exact .inl ⟨_,rfl,⟨i + 1,rfl,by omega,by omega,h3.trans (k2.mono (by omega) (by omega)),k3⟩,by simp; omega⟩
 ·have hc':¬ ((i:Nat):Int) < (b:Int):=by omega
  simp only [hc',decide_false,cond_false]
  exact .inr ⟨_,rfl,h3,fun p q g1 g2 g3=>h4 p q g1 g2 (by omega)⟩
theorem pI {a b:Nat} {xs:List Int} (hab:a≤b) (hb:b≤xs.length) (hl:xs.length≤1099511627776):∃ ys,QL xs a b = some ys∧RP xs ys a b∧SO ys a b:=by
 unfold QL
 rw [wiA (by omega)]
 obtain ⟨s',h1,h2,h3⟩:=LG (fun s:Int×List Int=>∃ i:Nat,s.1 = i∧a < i∧(i≤b∨i = a + 1)∧RP xs s.2 a b∧SO s.2 a i) (fun s:Int×List Int=>b + 2 - s.1.toNat) (fun s=>RP xs s.2 a b∧SO s.2 a b) 0 (IS1 hab hb hl) NN (((a + 1:Nat):Int),xs)
  ⟨a + 1,rfl,by omega,.inr rfl,RP.refl _ _ _,fun p q h1 h2 h3=>by omega⟩ (by rw [ND]; omega)
 rw [h1]
 exact ⟨s'.2,by simp [Ai],h2,h3⟩
open Go Go.Rf
noncomputable def blT (n:Nat):Bool:=(Zh (wi .u64 (n:Int))).isSome
theorem fW:∀ n:Fin 13,blT n.val = true:=by decide +kernel
theorem PD12 {xs:List Int} (h:xs.length≤12) (n:Nat) (l:Int):∃ ys,QO (n + 1) xs 0 (xs.length:Int) l = some ys∧RP xs ys 0 xs.length∧SO ys 0 xs.length:=by
 obtain ⟨ys,k1,k2,k3⟩:=pI (a:=0) (b:=xs.length) (xs:=xs) (Nat.zero_le _) (Nat.le_refl _) (by omega)
 refine ⟨ys,?_,k2,k3⟩
 show Pm (QO n) xs 0 (xs.length:Int) l = _
 unfold Pm
 have e1:wi .i64 ((xs.length:Int) - 0) = (xs.length:Int):=by rw [Dt (by omega) (by omega)]; omega
 have e2:(xs.length:Int)≤12:=by omega
 have k1:QL xs 0 (xs.length:Int) = some ys:=k1
 have step:Ku (0,(xs.length:Int),l,true,true,xs) = some (.ret (0,(xs.length:Int),l,true,true,ys)):=by
  unfold Ku
  simp only [e1,e2,decide_true,cond_true,k1,obs]
 rw [FY (by rw [ND]; omega) step rfl]
 rfl
theorem bZ {xs:List Int} (h:xs.length≤12):∃ ys,m74 xs = some ys∧ys.Perm xs∧ys.Pairwise (·≤·):=by
 unfold m74
 have hb:=fW ⟨xs.length,by omega⟩
 unfold blT at hb
 obtain ⟨y,hy⟩:=Option.isSome_iff_exists.1 hb
 rw [hy]
 obtain ⟨ys,k1,k2,k3⟩:=PD12 h 63 y
 refine ⟨ys,?_,k2.perm,?_⟩
 ·simp only [obs,k1]
 ·rw [List.pairwise_iff_getElem]
  intro i j hi hj hij
  have:=k3 i j (Nat.zero_le _) hij (by rw [← k2.len]; exact hj)
  rwa [Eg (by omega),Eg (by omega)] at this
open Go Go.Rf
theorem gN {xs:List Int} {k:Nat} (hk:1≤k) (hkn:k < xs.length) (hl:xs.length≤1099511627776) (hal:Et (xs.take (k + 1)) = xs.take k) :
  ∃ (i:Nat) (ys:List Int),Ax (ID (k:Int) (xs.length:Int)) NN ((k:Int),1,xs) = some (.exit 2 ((i:Int),((xs.length - k:Nat):Int),ys))∧i≤xs.length∧ys.length = xs.length∧ys.take i = Et xs:=by
 have h:=Dh (f:=ID (k:Int) (xs.length:Int)) (fun q s=>∃ (i:Nat) (ys:List Int),s = ((i:Int),((q + 1:Nat):Int),ys)∧i≤k + q∧ys.length = xs.length∧(∀ j,i≤j→A ys j = A xs j)∧ys.take i = Et (xs.take (k + q + 1))) (xs.length - k - 1)
  (fun o=>∃ (i:Nat) (ys:List Int),o = .exit 2 ((i:Int),((xs.length - k:Nat):Int),ys)∧i≤xs.length∧ys.length = xs.length∧ys.take i = Et xs)
  (fun q s hq hs=>by
   obtain ⟨i,ys,rfl,h1,h2,h3,h4⟩:=hs
   unfold ID
   dsimp only
   by_cases hc:q + 1 < xs.length - k
   ·left
    have hc':((q + 1:Nat):Int) < (xs.length:Int) - (k:Int):=by omega
    have e1:wi .i64 (((q + 1:Nat):Int) - 1) = (q:Int):=by rw [Dt (by omega) (by omega)]; omega
    have v1:Oh ys (k:Int) (xs.length:Int) ((q + 1:Nat):Int) = some (A xs (k + q + 1)):=by
     unfold Oh
     rw [if_pos ⟨by omega,by omega⟩,show (k:Int) + ((q + 1:Nat):Int) = ((k + q + 1:Nat):Int) by omega,PE (by omega),h3 _ (by omega)]
    have v2:Oh ys (k:Int) (xs.length:Int) (q:Int) = some (A xs (k + q)):=by
     unfold Oh
     rw [if_pos ⟨by omega,by omega⟩,show (k:Int) + (q:Int) = ((k + q:Nat):Int) by omega,PE (by omega),h3 _ (by omega)]
    have g1:=PE (xs:=ys) (i:=i) (by omega)
    have e2:=wi1 (n:=i) (by omega)
    have e3:=wi1 (n:=q + 1) (by omega)
    have hst:=Nz (xs:=xs) (i:=k + q + 1) (by omega) (by omega)
    rw [show k + q + 1 - 1 = k + q by omega] at hst
    simp only [hc',decide_true,cond_true,e1,v1,v2,g1,obs]
    refine ⟨by omega,?_⟩
    by_cases he:A xs (k + q + 1) = A xs (k + q)
    ·have he':(A xs (k + q + 1) != A xs (k + q)) = false:=by simp [he]
     rw [if_pos he.symm] at hst
     simp only [he',cond_false,obs,Ai,e3]
     exact ⟨_,rfl,i,ys,rfl,by omega,h2,h3,by rw [show k + (q + 1) + 1 = k + q + 1 + 1 by omega,hst]; exact h4⟩
    ·have he':(A xs (k + q + 1) != A xs (k + q)) = true:=by simp [he]
     rw [if_neg (fun q=>he q.symm)] at hst
     simp only [he',cond_true,obs,Ai,e2,e3]
     refine ⟨_,rfl,i + 1,ys.set i (A xs (k + q + 1)),rfl,by omega,by simp [h2],fun j hj=>?_,?_⟩
     ·rw [NF (by omega),if_neg (by omega)]; exact h3 j (by omega)
     ·rw [show k + (q + 1) + 1 = k + q + 1 + 1 by omega,hst,Ja (by simp; omega),NF (by omega),if_pos rfl,List.take_set_of_le (Nat.le_refl _),h4]
   ·right; left
    have hc':¬ ((q + 1:Nat):Int) < (xs.length:Int) - (k:Int):=by omega
    simp only [hc',decide_false,cond_false]
    have hq2:q + 1 = xs.length - k:=by omega
    refine ⟨2,_,rfl,i,ys,by rw [hq2],by omega,h2,?_⟩
    rw [h4,List.take_of_length_le (by omega)]) NN 0 ((k:Int),1,xs) (by omega) (by rw [ND]; omega) ⟨k,xs,rfl,by omega,rfl,fun _ _=>rfl,by rw [hal]⟩
 obtain ⟨o,h1,i,ys,rfl,h2⟩:=h
 exact ⟨i,ys,h1,h2⟩
theorem pJ {xs:List Int} (hl:xs.length≤1099511627776):Uf xs = some (Et xs):=by
 unfold Uf
 by_cases h2:xs.length < 2
 ·have h2':(xs.length:Int) < 2:=by omega
  simp only [h2',decide_true,cond_true]
  match xs,h2 with
  | [],_=>rfl
  | [x],_=>rfl
  | _::_::_,h=>exact absurd h (by simp)
 have h2':¬ (xs.length:Int) < 2:=by omega
 simp only [h2',decide_false,cond_false]
 have h:=Dh (f:=Kr xs) (fun q s=>s = (none,((q + 1:Nat):Int))∧(∀ i,1≤i→i < q + 1→A xs i≠A xs (i - 1))) (xs.length - 1)
  (fun o=>(∃ k,o = .exit 0 (none,k)∧Et xs = xs)∨(∃ k,o = .ret (some (Et xs),k)))
  (fun q s hq hs=>by
   obtain ⟨rfl,ha⟩:=hs
   unfold Kr
   dsimp only
   by_cases hc:q + 1 < xs.length
   ·have hc':((q + 1:Nat):Int) < (xs.length:Int):=by omega
    have e1:wi .i64 (((q + 1:Nat):Int) - 1) = (q:Int):=by rw [Dt (by omega) (by omega)]; omega
    have g1:=PE (xs:=xs) (i:=q + 1) (by omega)
    have g2:=PE (xs:=xs) (i:=q) (by omega)
    have e3:=wi1 (n:=q + 1) (by omega)
    simp only [hc',decide_true,cond_true,e1,g1,g2,obs]
    by_cases he:A xs (q + 1) = A xs q
    ·right; right
     have he':(A xs (q + 1) == A xs q) = true:=by simp [he]
     have hal:Et (xs.take (q + 1 + 1)) = xs.take (q + 1):=by
      rw [Nz (by omega) (by omega),Nat.add_sub_cancel,if_pos he.symm]
      refine Ip _ (fun i h1 h2=>?_)
      simp only [List.length_take] at h2
      have:=ha i h1 (by omega)
      rw [show ∀ j,j < q + 1→A (xs.take (q + 1)) j = A xs j from fun j hj=>by simp [A,hj],show A (xs.take (q + 1)) (i - 1) = A xs (i - 1) from by simp [A,show i - 1 < q + 1 by omega]]
      ·exact this
      ·omega
     obtain ⟨i,ys,k1,k2,k3,k4⟩:=gN (xs:=xs) (k:=q + 1) (by omega) hc hl hal
     have v1:viO xs.length ((q + 1:Nat):Int) (xs.length:Int) = some ():=by unfold viO; rw [if_pos ⟨by omega,by omega,by omega⟩]
     have v2:viO ys.length (i:Int) (ys.length:Int) = some ():=by unfold viO; rw [if_pos ⟨by omega,by omega,by omega⟩]
     have hcl:(clr ys (i:Int)).length = ys.length:=by simp [clr]; omega
     have v3:viO (clr ys (i:Int)).length 0 (i:Int) = some ():=by unfold viO; rw [if_pos ⟨by omega,by omega,by omega⟩]
     simp only [he',cond_true,v1,k1,obs,Ai,if_true,v2,v3]
     refine ⟨_,rfl,.inr ⟨(i:Int),?_⟩⟩
     have:(clr ys (i:Int)).take (i:Int).toNat = Et xs:=by
      rw [← k4]
      simp only [clr,Int.toNat_natCast]
      rw [List.take_append_of_le_length (by simp; omega),List.take_take,Nat.min_self]
     rw [this]
    ·left
     have he':(A xs (q + 1) == A xs q) = false:=by simp [he]
     simp only [he',cond_false,e3]
     refine ⟨by omega,_,rfl,rfl,fun i h1 h2=>?_⟩
     by_cases e:i = q + 1
     ·subst e; exact he
     ·exact ha i h1 (by omega)
   ·right; left
    have hc':¬ ((q + 1:Nat):Int) < (xs.length:Int):=by omega
    simp only [hc',decide_false,cond_false]
    exact ⟨0,_,rfl,.inl ⟨_,rfl,Ip xs (fun i h1 h2=>ha i h1 (by omega))⟩⟩) NN 0 (none,1) (by omega) (by rw [ND]; omega) ⟨rfl,fun i h1 h2=>by omega⟩
 obtain ⟨o,h1,h2⟩:=h
 rcases h2 with ⟨k,rfl,h3⟩ | ⟨k,rfl⟩
 ·rw [h1]
  simp only [obs,Ai,if_true,h3]
 ·rw [h1]; rfl
end Go.Proofs.YtjlecnhninhmnaaGreatDoor
