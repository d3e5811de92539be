/- insertionSort, heapSort's parts: what they do to a range. -/
import Derived.Test.YtgjljhchmokhfaaGreatW2
import Derived.Test.YtgjljhchmokhfaaGreatRh3
namespace Go.Proofs.YtgjljhchmokhfaaGreat
theorem obs {α β:Type} {x:α} {f:α→Option β}:(some x).bind f = f x:=rfl
open Go Go.Rf
set_option linter.unusedVariables false
set_option linter.unusedSimpArgs false
theorem Ew (x y:Int):Fh x y = some (decide (x < y)):=by
 unfold Fh QU
 simp [Ac]
theorem wiS {n:Nat} (h0:0 < n) (h:n≤1099511627776):wi .i64 ((n:Int) - 1) = ((n - 1:Nat):Int):=by
 rw [Bi (by omega) (by omega)]; omega
theorem wiA {n:Nat} (h:n≤1099511627776):wi .i64 ((n:Int) + 1) = ((n + 1:Nat):Int):=by
 rw [Bi (by omega) (by omega)]; omega
theorem wiD {n k:Nat} (hk:k≤n) (h:n≤1099511627776):wi .i64 ((n:Int) - (k:Int)) = ((n - k:Nat):Int):=by
 rw [Bi (by omega) (by omega)]; omega
theorem wiP {n k:Nat} (h:n + k≤1099511627776):wi .i64 ((n:Int) + (k:Int)) = ((n + k:Nat):Int):=by
 rw [Bi (by omega) (by omega)]; omega
theorem IS0 {a j:Nat} {ys:List Int} (haj:a≤j) (hj:j < ys.length) (hl:ys.length≤1099511627776) :
  GP (a:Int) ((j:Int),ys) = if a < j∧A ys j < A ys (j - 1) then some (.norm (((j - 1:Nat):Int),sw ys j (j - 1))) else some (.exit 2 ((j:Int),ys)):=by
 unfold GP
 by_cases h1:a < j
 ·have e1:=wiS (n:=j) (by omega) (by omega)
  have g1:=Bo hj
  have g2:=Bo (xs:=ys) (i:=j - 1) (by omega)
  by_cases h2:A ys j < A ys (j - 1)
  ·have g3:Am (ys.set (Int.toNat (j:Int)) (A ys (j - 1))) ((j - 1:Nat):Int) = some (A ys (j - 1)):=by
    rw [Bo (by simp; omega),Kv (by simpa using hj),if_neg (by omega)]
   simp only [gt_iff_lt,Int.ofNat_lt,h1,decide_true,cond_true,g1,e1,g2,g3,obs,Ew,h2,Ac,and_self,if_true]
   rfl
  ·simp [h1,h2,g1,g2,e1,Ew,Ac]
 ·have:¬ ((j:Int) > (a:Int)):=by omega
  simp [h1,this,Ac]
def Hole (ys:List Int) (a j i:Nat):Prop:=∀ p q,a≤p→p < q→q≤i→q≠j→A ys p≤A ys q
theorem Tc {a i:Nat} {ys:List Int} (hai:a≤i) (hi:i < ys.length) (hl:ys.length≤1099511627776) (hs:SO ys a i) (n:Nat) (hn:i < n) :
  ∃ s':Int×List Int,Aq (GP (a:Int)) n ((i:Int),ys) = some (.exit 2 s')∧RP ys s'.2 a (i + 1)∧SO s'.2 a (i + 1):=by
 refine B8 (fun s:Int×List Int=>∃ j:Nat,s.1 = j∧a≤j∧j≤i∧RP ys s.2 a (i + 1)∧Hole s.2 a j i) (fun s:Int×List Int=>s.1.toNat) (fun s:Int×List Int=>RP ys s.2 a (i + 1)∧SO s.2 a (i + 1)) 2 (fun s hs=>?_) n _ ⟨i,rfl,hai,Nat.le_refl _,RP.refl _ _ _,fun p q h1 h2 h3 h4=>hs p q h1 h2 (by omega)⟩ (by simpa using hn)
 obtain ⟨z,zs⟩:=s
 obtain ⟨j,rfl,h1,h2,h3,h4⟩:=hs
 dsimp only at h3 h4 ⊢
 have hlen:=h3.len
 rw [IS0 h1 (by omega) (by omega)]
 by_cases hc:a < j∧A zs j < A zs (j - 1)
 ·rw [if_pos hc]
  refine .inl ⟨_,rfl,⟨j - 1,rfl,by omega,by omega,h3.trans (RP.sw (by omega) (by omega) (by omega)),fun p q g1 g2 g3 g4=>?_⟩,by simp; omega⟩
  rw [EF (by omega) (by omega),EF (by omega) (by omega)]
  have k1:=h4 p (j - 1)
  have k2:=h4 (j - 1) q
  have k3:=h4 j q
  have k4:=h4 p q
  repeat' split
  all_goals first | omega | (exfalso; omega) | (have:=k1 (by omega) (by omega) (by omega) (by omega); omega) | (have:=k2 (by omega) (by omega) (by omega) (by omega); omega) | (have:=k3 (by omega) (by omega) (by omega) (by omega); omega) | exact k4 (by omega) (by omega) (by omega) (by omega)
 ·rw [if_neg hc]
  refine .inr ⟨_,rfl,h3,fun p q g1 g2 g3=>?_⟩
  show A zs p≤A zs q
  by_cases e:q = j
  ·subst e
   have h5:A zs (q - 1)≤A zs q:=by
    by_cases hq:A zs q < A zs (q - 1)
    ·exact absurd ⟨by omega,hq⟩ hc
    ·omega
   by_cases e2:p = q - 1
   ·subst e2; exact h5
   ·have:=h4 p (q - 1) g1 (by omega) (by omega) (by omega)
    omega
  ·exact h4 p q g1 g2 (by omega) e
theorem CN:NN = 9223372036854775808:=by unfold NN maxLen; rfl
theorem IS1 {a b:Nat} {xs:List Int} (hab:a≤b) (hb:b≤xs.length) (hl:xs.length≤1099511627776) (s:Int×List Int)
  (hs:∃ i:Nat,s.1 = i∧a < i∧(i≤b∨i = a + 1)∧RP xs s.2 a b∧SO s.2 a i) :
  (∃ s',GO (a:Int) (b:Int) s = some (.norm s')∧(∃ i:Nat,s'.1 = i∧a < i∧(i≤b∨i = a + 1)∧RP xs s'.2 a b∧SO s'.2 a i)∧b + 2 - s'.1.toNat < b + 2 - s.1.toNat)∨(∃ s',GO (a:Int) (b:Int) s = some (.exit 0 s')∧RP xs s'.2 a b∧SO s'.2 a b):=by
 obtain ⟨z,zs⟩:=s
 obtain ⟨i,rfl,h1,h2,h3,h4⟩:=hs
 dsimp only at h3 h4 ⊢
 have hlen:=h3.len
 unfold GO
 by_cases hc:i < b
 ·have hc':((i:Nat):Int) < (b:Int):=by omega
  obtain ⟨s',k1,k2,k3⟩:=Tc (a:=a) (i:=i) (ys:=zs) (by omega) (by omega) (by omega) h4 NN (by rw [CN]; omega)
  simp only [hc',decide_true,cond_true,k1,obs,Ac,if_true]
  rw [wiA (by omega)]
  exact .inl ⟨_,rfl,⟨i + 1,rfl,by omega,by omega,h3.trans (k2.mono (by omega) (by omega)),k3⟩,by simp; omega⟩
 ·have hc':¬ ((i:Nat):Int) < (b:Int):=by omega
  simp only [hc',decide_false,cond_false]
  exact .inr ⟨_,rfl,h3,fun p q g1 g2 g3=>h4 p q g1 g2 (by omega)⟩
theorem Yv {a b:Nat} {xs:List Int} (hab:a≤b) (hb:b≤xs.length) (hl:xs.length≤1099511627776):∃ ys,Ox xs a b = some ys∧RP xs ys a b∧SO ys a b:=by
 unfold Ox
 rw [wiA (by omega)]
 obtain ⟨s',h1,h2,h3⟩:=B8 (fun s:Int×List Int=>∃ i:Nat,s.1 = i∧a < i∧(i≤b∨i = a + 1)∧RP xs s.2 a b∧SO s.2 a i) (fun s:Int×List Int=>b + 2 - s.1.toNat) (fun s=>RP xs s.2 a b∧SO s.2 a b) 0 (IS1 hab hb hl) NN (((a + 1:Nat):Int),xs)
  ⟨a + 1,rfl,by omega,.inr rfl,RP.refl _ _ _,fun p q h1 h2 h3=>by omega⟩ (by rw [CN]; omega)
 rw [h1]
 exact ⟨s'.2,by simp [Ac],h2,h3⟩
open Go Go.Rf
theorem DY {xs:List Int} {i j:Nat} {zi zj v:Int} (hi:zi = i) (hj:zj = j) (h:j < xs.length):Am (xs.set (Int.toNat zi) v) zj = some (A (xs.set i v) j):=by
 subst hi; subst hj
 exact Bo (by simpa using h)
theorem U3 {a b:Nat} {xs:List Int} (hb:b≤xs.length) (hl:xs.length≤1099511627776) (s:Int×Int×List Int)
  (hs:∃ i j:Nat,s.1 = i∧s.2.1 = j∧a≤i∧j < b∧i≤j + 1∧RP xs s.2.2 a b) :
  (∃ s',GN s = some (.norm s')∧(∃ i j:Nat,s'.1 = i∧s'.2.1 = j∧a≤i∧j < b∧i≤j + 1∧RP xs s'.2.2 a b)∧(s'.2.1 + 1 - s'.1).toNat < (s.2.1 + 1 - s.1).toNat)∨(∃ s',GN s = some (.exit 0 s')∧RP xs s'.2.2 a b):=by
 obtain ⟨z,w,zs⟩:=s
 obtain ⟨i,j,rfl,rfl,h1,h2,h3,h4⟩:=hs
 dsimp only at h4 ⊢
 have hlen:=h4.len
 unfold GN
 by_cases hc:i < j
 ·have hc':((i:Nat):Int) < (j:Int):=by omega
  have g1:=Bo (xs:=zs) (i:=j) (by omega)
  have g2:=Bo (xs:=zs) (i:=i) (by omega)
  have g3:=DY (xs:=zs) (i:=i) (j:=j) (v:=A zs j) rfl rfl (by omega)
  simp only [hc',decide_true,cond_true,g1,g2,g3,obs,wiA (n:=i) (by omega),wiS (n:=j) (by omega) (by omega)]
  refine .inl ⟨_,rfl,⟨i + 1,j - 1,rfl,rfl,by omega,by omega,by omega,h4.trans (RP.sw (xs:=zs) (i:=i) (j:=j) (by omega) (by omega) (by omega))⟩,by dsimp only; omega⟩
 ·have hc':¬ ((i:Nat):Int) < (j:Int):=by omega
  simp only [hc',decide_false,cond_false]
  exact .inr ⟨_,rfl,h4⟩
theorem Yk {a b:Nat} {xs:List Int} (hab:a < b) (hb:b≤xs.length) (hl:xs.length≤1099511627776):∃ ys,Ot xs a b = some ys∧RP xs ys a b:=by
 unfold Ot
 rw [wiS (by omega) (by omega)]
 obtain ⟨s',h1,h2⟩:=B8 (fun s:Int×Int×List Int=>∃ i j:Nat,s.1 = i∧s.2.1 = j∧a≤i∧j < b∧i≤j + 1∧RP xs s.2.2 a b) (fun s:Int×Int×List Int=>(s.2.1 + 1 - s.1).toNat) (fun s=>RP xs s.2.2 a b) 0 (U3 hb hl) NN ((a:Int),((b - 1:Nat):Int),xs)
  ⟨a,b - 1,rfl,rfl,by omega,by omega,by omega,RP.refl _ _ _⟩ (by rw [CN]; dsimp only; omega)
 rw [h1]
 exact ⟨s'.2.2,by simp [Ac],h2⟩
theorem SZ {a0:List Int} {i j:Nat} (sw_:Int) (hi:i < a0.length) (hj:j < a0.length):∃ (p q:Nat) (t:Int),Jx a0 i j sw_ = some ((p:Int),(q:Int),t)∧((p = i∧q = j)∨(p = j∧q = i)):=by
 unfold Jx
 simp only [Bo hj,Bo hi,obs,Ew]
 by_cases h:A a0 j < A a0 i
 ·exact ⟨j,i,wi .i64 (sw_ + 1),by simp [h],.inr ⟨rfl,rfl⟩⟩
 ·exact ⟨i,j,sw_,by simp [h],.inl ⟨rfl,rfl⟩⟩
theorem Yu {a0:List Int} {i j k:Nat} (s:Int) (hi:i < a0.length) (hj:j < a0.length) (hk:k < a0.length):∃ (p:Nat) (t:Int),LA a0 i j k s = some ((p:Int),t)∧(p = i∨p = j∨p = k):=by
 unfold LA
 obtain ⟨p1,q1,t1,e1,h1⟩:=SZ (a0:=a0) (i:=i) (j:=j) s hi hj
 simp only [e1,obs]
 have hq1:q1 < a0.length:=by rcases h1 with h | h <;> omega
 have hp1:p1 < a0.length:=by rcases h1 with h | h <;> omega
 obtain ⟨p2,q2,t2,e2,h2⟩:=SZ (a0:=a0) (i:=q1) (j:=k) t1 hq1 hk
 simp only [e2,obs]
 have hp2:p2 < a0.length:=by rcases h2 with h | h <;> omega
 obtain ⟨p3,q3,t3,e3,h3⟩:=SZ (a0:=a0) (i:=p1) (j:=p2) t2 hp1 hp2
 simp only [e3,obs]
 exact ⟨q3,t3,rfl,by omega⟩
theorem wiT {n k:Nat} (h:n≤1099511627776) (hk:0 < k) (hk2:k≤1024): wi .i64 (Int.tdiv (n:Int) (k:Int)) = ((n / k:Nat):Int):=by
 have e:Int.tdiv (n:Int) (k:Int) = ((n / k:Nat):Int):=by simp
 have:n / k≤n:=Nat.div_le_self n k
 rw [e]
 generalize n / k = q at this
 rw [Bi (by omega) (by omega)]
theorem wiM {n k:Nat} (h:n * k≤1099511627776):wi .i64 ((n:Int) * (k:Int)) = ((n * k:Nat):Int):=by
 rw [← Int.natCast_mul,Bi (by omega) (by omega)]
theorem Yx {a b:Nat} {xs:List Int} (hab:a + 8≤b) (h50:b < a + 50) (hb:b≤xs.length) (hl:xs.length≤1099511627776):∃ (p:Nat) (h:Int),QX xs a b = some ((p:Int),h)∧a≤p∧p < b:=by
 unfold QX
 have e0:=wiD (n:=b) (k:=a) (by omega) (by omega)
 have e1:wi .i64 (Int.tdiv ((b - a:Nat):Int) 4) = (((b - a) / 4:Nat):Int):=wiT (n:=b - a) (k:=4) (by omega) (by omega) (by omega)
 have hq:(b - a) / 4≤12:=by omega
 have m1:wi .i64 ((((b - a) / 4:Nat):Int) * 1) = (((b - a) / 4 * 1:Nat):Int):=wiM (k:=1) (by omega)
 have m2:wi .i64 ((((b - a) / 4:Nat):Int) * 2) = (((b - a) / 4 * 2:Nat):Int):=wiM (k:=2) (by omega)
 have m3:wi .i64 ((((b - a) / 4:Nat):Int) * 3) = (((b - a) / 4 * 3:Nat):Int):=wiM (k:=3) (by omega)
 have h8:((b - a:Nat):Int) ≥ 8:=by omega
 have h5:¬ ((b - a:Nat):Int) ≥ 50:=by omega
 simp only [e0,h8,h5,decide_true,decide_false,cond_true,cond_false,e1,m1,m2,m3,wiP (n:=a) (k:=(b - a) / 4 * 1) (by omega),wiP (n:=a) (k:=(b - a) / 4 * 2) (by omega),wiP (n:=a) (k:=(b - a) / 4 * 3) (by omega),obs,Ac]
 obtain ⟨p,t,e,hp⟩:=Yu (a0:=xs) (i:=a + (b - a) / 4 * 1) (j:=a + (b - a) / 4 * 2) (k:=a + (b - a) / 4 * 3) 0 (by omega) (by omega) (by omega)
 simp only [e,obs]
 by_cases q1:t = 0
 ·exact ⟨p,1,by simp [q1,Ac],by omega,by omega⟩
 ·by_cases q2:t = 12
  ·exact ⟨p,2,by simp [q2,Ac],by omega,by omega⟩
  ·have r1:(t == 0) = false:=by simpa using q1
   have r2:(t == 12) = false:=by simpa using q2
   exact ⟨p,0,by simp [r1,r2,Ac],by omega,by omega⟩
theorem PI0 {a b i:Nat} {xs:List Int} (r:Bool) (q j:Int) (hb:b≤xs.length) (hl:xs.length≤1099511627776) (h0:0 < i) (hi:i≤b) :
  GM (b:Int) (r,q,j,xs) (i:Int) = if i < b∧¬ A xs i < A xs (i - 1) then some (.norm ((i + 1:Nat):Int)) else some (.exit 2 (i:Int)):=by
 unfold GM
 by_cases h1:i < b
 ·have h1':((i:Nat):Int) < (b:Int):=by omega
  have g1:=Bo (xs:=xs) (i:=i) (by omega)
  have g2:=Bo (xs:=xs) (i:=i - 1) (by omega)
  by_cases h2:A xs i < A xs (i - 1)
  ·simp [h1,h1',g1,g2,wiS (n:=i) h0 (by omega),Ew,h2,Ac]
  ·have e:=wiA (n:=i) (by omega)
   simp [h1,h1',g1,g2,wiS (n:=i) h0 (by omega),Ew,h2,Ac,e]
 ·have h1':¬ ((i:Nat):Int) < (b:Int):=by omega
  simp [h1,h1',Ac]
theorem Yo {a b:Nat} {xs:List Int} (hab:a < b) (h50:b < a + 50) (hb:b≤xs.length) (hl:xs.length≤1099511627776):∃ r:Bool,Oq xs a b = some (r,xs)∧(r = true→SO xs a b):=by
 unfold Oq
 rw [wiA (by omega)]
 obtain ⟨z,h1,i,rfl,h2,h3,h4,h5⟩:=B8 (f:=GM (b:Int) (false,((a + 1:Nat):Int),0,xs)) (fun z=>∃ i:Nat,z = i∧a < i∧i≤b∧SO xs a i) (fun z=>b - z.toNat) (fun z=>∃ i:Nat,z = i∧a < i∧i≤b∧SO xs a i∧(i < b→A xs i < A xs (i - 1))) 2
  (fun z hz=>by
   obtain ⟨i,rfl,h2,h3,h4⟩:=hz
   rw [PI0 (a:=a) false _ _ hb hl (by omega) h3]
   by_cases hc:i < b∧¬ A xs i < A xs (i - 1)
   ·rw [if_pos hc]
    refine .inl ⟨_,rfl,⟨i + 1,rfl,by omega,by omega,fun p q g1 g2 g3=>?_⟩,by simp; omega⟩
    by_cases e:q = i
    ·subst e
     have:=hc.2
     by_cases e2:p = q - 1
     ·subst e2; omega
     ·have:=h4 p (q - 1) g1 (by omega) (by omega); omega
    ·exact h4 p q g1 g2 (by omega)
   ·rw [if_neg hc]
    refine .inr ⟨_,rfl,i,rfl,h2,h3,h4,fun hib=>?_⟩
    by_cases h:A xs i < A xs (i - 1)
    ·exact h
    ·exact absurd ⟨hib,h⟩ hc) NN ((a + 1:Nat):Int) ⟨a + 1,rfl,by omega,by omega,fun p q g1 g2 g3=>by omega⟩ (by rw [CN]; omega)
 have key:Il (a:Int) (b:Int) (false,((a + 1:Nat):Int),0,xs) = some (.ret (decide (i = b),(i:Int),0,xs)):=by
  unfold Il
  simp only [h1,obs,Ac,if_true]
  have e0:=wiD (n:=b) (k:=a) (by omega) (by omega)
  have h5':((b - a:Nat):Int) < 50:=by omega
  by_cases e:i = b
  ·subst e; simp [Ac]
  ·have e':((((i:Nat):Int) == (b:Int)):Bool) = false:=by simp; omega
   simp [e,e',e0,h5',Ac]
 obtain ⟨n,hn⟩:∃ n,NN = n + 1:=⟨9223372036854775807,by rw [CN]⟩
 rw [hn]
 refine ⟨decide (i = b),by simp only [Aq,key,obs,Ac],fun hr=>?_⟩
 have:i = b:=by simpa using hr
 subst this; exact h4
open Go Go.Rf
theorem Pq {f:Int→Option (LO Int)} {e a j n:Nat} (Pr:Nat→Prop) [DecidablePred Pr] (hf:∀ i:Nat,a < i→i≤j + 1→f (i:Int) = if i≤j∧Pr i then some (.norm ((i + 1:Nat):Int)) else some (.exit e (i:Int)))
  {i:Nat} (h1:a < i) (h2:i≤j + 1) (hn:j + 2 < n):∃ i':Nat,Aq f n (i:Int) = some (.exit e (i':Int))∧i≤i'∧i'≤j + 1∧(∀ k,i≤k→k < i'→Pr k)∧(i'≤j→¬ Pr i'):=by
 obtain ⟨z,g1,i',rfl,g2⟩:=B8 (f:=f) (fun z=>∃ q:Nat,z = q∧i≤q∧q≤j + 1∧∀ k,i≤k→k < q→Pr k) (fun z=>j + 1 - z.toNat) (fun z=>∃ q:Nat,z = q∧i≤q∧q≤j + 1∧(∀ k,i≤k→k < q→Pr k)∧(q≤j→¬ Pr q)) e
  (fun z hz=>by
   obtain ⟨q,rfl,k1,k2,k3⟩:=hz
   rw [hf q (by omega) k2]
   by_cases hc:q≤j∧Pr q
   ·rw [if_pos hc]
    refine .inl ⟨_,rfl,⟨q + 1,rfl,by omega,by omega,fun k m1 m2=>?_⟩,by simp; omega⟩
    by_cases e:k = q
    ·subst e; exact hc.2
    ·exact k3 k m1 (by omega)
   ·rw [if_neg hc]
    exact .inr ⟨_,rfl,q,rfl,k1,k2,k3,fun m1 m2=>hc ⟨m1,m2⟩⟩) n (i:Int) ⟨i,rfl,Nat.le_refl _,h2,fun k m1 m2=>by omega⟩ (by simp; omega)
 exact ⟨i',g1,g2⟩
theorem Pv {f:Int→Option (LO Int)} {e b i n:Nat} (Pr:Nat→Prop) [DecidablePred Pr] (hi:0 < i) (hf:∀ j:Nat,i≤j + 1→j < b→f (j:Int) = if i≤j∧Pr j then some (.norm ((j - 1:Nat):Int)) else some (.exit e (j:Int)))
  {j:Nat} (h1:j < b) (h2:i≤j + 1) (hn:b + 2 < n):∃ j':Nat,Aq f n (j:Int) = some (.exit e (j':Int))∧j'≤j∧i≤j' + 1∧(∀ k,j' < k→k≤j→Pr k)∧(i≤j'→¬ Pr j'):=by
 obtain ⟨z,g1,i',rfl,g2⟩:=B8 (f:=f) (fun z=>∃ q:Nat,z = q∧q≤j∧i≤q + 1∧∀ k,q < k→k≤j→Pr k) (fun z=>z.toNat) (fun z=>∃ q:Nat,z = q∧q≤j∧i≤q + 1∧(∀ k,q < k→k≤j→Pr k)∧(i≤q→¬ Pr q)) e
  (fun z hz=>by
   obtain ⟨q,rfl,k1,k2,k3⟩:=hz
   rw [hf q k2 (by omega)]
   by_cases hc:i≤q∧Pr q
   ·rw [if_pos hc]
    refine .inl ⟨_,rfl,⟨q - 1,rfl,by omega,by omega,fun k m1 m2=>?_⟩,by simp; omega⟩
    by_cases e:k = q
    ·subst e; exact hc.2
    ·exact k3 k (by omega) m2
   ·rw [if_neg hc]
    exact .inr ⟨_,rfl,q,rfl,k1,k2,k3,fun m1 m2=>hc ⟨m1,m2⟩⟩) n (j:Int) ⟨j,rfl,Nat.le_refl _,h2,fun k m1 m2=>by omega⟩ (by simp; omega)
 exact ⟨i',g1,g2⟩
structure FD (ys:List Int) (a i j b:Nat):Prop where
 ai:a < i
 ij:i≤j + 1
 jb:j < b
 lo:∀ k,a < k→k < i→A ys k < A ys a
 hi:∀ k,j < k→k < b→A ys a≤A ys k
theorem Yl {a b i:Nat} {ys:List Int} (j:Nat) (hj:j < b) (hb:b≤ys.length) (hl:ys.length≤1099511627776) (h1:a < i) (h2:i≤j + 1) (s:Int) :
  GG (a:Int) (s,(j:Int),ys) (i:Int) = if i≤j∧A ys i < A ys a then some (.norm ((i + 1:Nat):Int)) else some (.exit 6 (i:Int)):=by
 unfold GG
 by_cases hc:i≤j
 ·have hc':((i:Nat):Int)≤(j:Int):=by omega
  have g1:=Bo (xs:=ys) (i:=i) (by omega)
  have g2:=Bo (xs:=ys) (i:=a) (by omega)
  have e:=wiA (n:=i) (by omega)
  by_cases h3:A ys i < A ys a <;> simp [hc,hc',g1,g2,Ew,h3,Ac,e]
 ·have hc':¬ ((i:Nat):Int)≤(j:Int):=by omega
  simp [hc,hc',Ac]
theorem Yn {a b i:Nat} {ys:List Int} (j:Nat) (hj:j < b) (hb:b≤ys.length) (hl:ys.length≤1099511627776) (h1:a < i) (h2:i≤j + 1) (s t:Int) :
  GF (a:Int) (s,t,ys) (i:Int) (j:Int) = if i≤j∧¬ A ys j < A ys a then some (.norm ((j - 1:Nat):Int)) else some (.exit 8 (j:Int)):=by
 unfold GF
 by_cases hc:i≤j
 ·have hc':((i:Nat):Int)≤(j:Int):=by omega
  have g1:=Bo (xs:=ys) (i:=j) (by omega)
  have g2:=Bo (xs:=ys) (i:=a) (by omega)
  have e:=wiS (n:=j) (by omega) (by omega)
  by_cases h3:A ys j < A ys a <;> simp [hc,hc',g1,g2,Ew,h3,Ac,e]
 ·have hc':¬ ((i:Nat):Int)≤(j:Int):=by omega
  simp [hc,hc',Ac]
theorem FD.up {ys:List Int} {a i j b i':Nat} (h:FD ys a i j b) (h1:i≤i') (h2:i'≤j + 1) (h3:∀ k,i≤k→k < i'→A ys k < A ys a):FD ys a i' j b:=
 ⟨by have:=h.ai; omega,h2,h.jb,fun k k1 k2=>if hk:k < i then h.lo k k1 hk else h3 k (by omega) k2,h.hi⟩
theorem FD.dn {ys:List Int} {a i j b j':Nat} (h:FD ys a i j b) (h1:j'≤j) (h2:i≤j' + 1) (h3:∀ k,j' < k→k≤j→¬ A ys k < A ys a):FD ys a i j' b:=
 ⟨h.ai,h2,by have:=h.jb; omega,h.lo,fun k k1 k2=>if hk:j < k then h.hi k hk k2 else by have:=h3 k k1 (by omega); omega⟩
theorem FD.swap {ys:List Int} {a i j b:Nat} (h:FD ys a i j b) (hb:b≤ys.length) (hij:i < j) (h1:¬ A ys i < A ys a) (h2:A ys j < A ys a):FD (sw ys i j) a (i + 1) (j - 1) b:=by
 have h3:=h.ai; have h4:=h.jb
 have ea:A (sw ys i j) a = A ys a:=by rw [EF (by omega) (by omega),if_neg (by omega),if_neg (by omega)]
 refine ⟨by omega,by omega,by omega,fun k k1 k2=>?_,fun k k1 k2=>?_⟩
 ·rw [ea,EF (by omega) (by omega),if_neg (by omega)]
  split
  ·exact h2
  ·exact h.lo k k1 (by omega)
 ·rw [ea,EF (by omega) (by omega)]
  split
  ·omega
  ·rw [if_neg (by omega)]; exact h.hi k (by omega) k2
structure SX (ys:List Int) (a mid b:Nat):Prop where
 am:a≤mid
 mb:mid < b
 lo:∀ k,a≤k→k < mid→A ys k≤A ys mid
 hi:∀ k,mid < k→k < b→A ys mid≤A ys k
theorem FD.end {ys:List Int} {a i j b:Nat} (h:FD ys a i j b) (hb:b≤ys.length) (hij:j < i):SX (sw ys j a) a j b:=by
 have h3:=h.ai; have h4:=h.jb; have h5:=h.ij
 have haj:a≤j:=by omega
 refine ⟨haj,h4,fun k k1 k2=>?_,fun k k1 k2=>?_⟩
 ·have e:A (sw ys j a) j = A ys a:=by
   rw [EF (by omega) (by omega)]
   split
   ·rename_i q; rw [q]
   ·rw [if_pos rfl]
  rw [e,EF (by omega) (by omega)]
  split
  ·have:=h.lo j (by omega) (by omega); omega
  ·rw [if_neg (by omega)]
   have:=h.lo k (by omega) (by omega); omega
 ·have e:A (sw ys j a) j = A ys a:=by
   rw [EF (by omega) (by omega)]
   split
   ·rename_i q; rw [q]
   ·rw [if_pos rfl]
  rw [e,EF (by omega) (by omega),if_neg (by omega),if_neg (by omega)]
  exact h.hi k k1 k2
theorem PO4 {a b:Nat} {xs:List Int} (hb:b≤xs.length) (hl:xs.length≤1099511627776) (s:Int×Int×List Int)
  (hs:∃ i j:Nat,s.1 = i∧s.2.1 = j∧RP xs s.2.2 a b∧FD s.2.2 a i j b) :
  (∃ s',FN (a:Int) s = some (.norm s')∧(∃ i j:Nat,s'.1 = i∧s'.2.1 = j∧RP xs s'.2.2 a b∧FD s'.2.2 a i j b)∧s'.2.1.toNat < s.2.1.toNat)∨(∃ s',FN (a:Int) s = some (.exit 4 s')∧∃ i j:Nat,s'.1 = i∧s'.2.1 = j∧RP xs s'.2.2 a b∧FD s'.2.2 a i j b∧j < i):=by
 obtain ⟨z,w,ys⟩:=s
 obtain ⟨i,j,rfl,rfl,h1,h2⟩:=hs
 dsimp only at h1 h2 ⊢
 have hlen:=h1.len
 have hjb:=h2.jb
 obtain ⟨i',g1,g2,g3,g4,g5⟩:=Pq (f:=GG (a:Int) ((i:Int),(j:Int),ys)) (e:=6) (a:=a) (j:=j) (n:=NN) (fun k=>A ys k < A ys a) (fun i0 k1 k2=>Yl j hjb (by omega) (by omega) k1 k2 _) h2.ai h2.ij (by rw [CN]; omega)
 have h3:=h2.up g2 g3 g4
 obtain ⟨j',d1,d2,d3,d4,d5⟩:=Pv (f:=GF (a:Int) ((i:Int),(j:Int),ys) (i':Int)) (e:=8) (b:=b) (i:=i') (n:=NN) (fun k=>¬ A ys k < A ys a) (by have:=h3.ai; omega) (fun j0 k1 k2=>Yn j0 k2 (by omega) (by omega) h3.ai k1 _ _) hjb h3.ij (by rw [CN]; omega)
 have h4:=h3.dn d2 d3 d4
 unfold FN
 simp only [g1,obs,Ac,if_true,d1]
 by_cases hc:j' < i'
 ·have hc':((i':Nat):Int) > (j':Int):=by omega
  simp only [hc',decide_true,cond_true]
  exact .inr ⟨_,rfl,i',j',rfl,rfl,h1,h4,hc⟩
 ·have hc':¬ ((i':Nat):Int) > (j':Int):=by omega
  have hjb':=h4.jb
  have e1:¬ A ys i' < A ys a:=g5 (by omega)
  have e2:A ys j' < A ys a:=by
   have:=d5 (by omega)
   omega
  have hne:i'≠j':=fun e=>by rw [e] at e1; exact e1 e2
  have r1:=Bo (xs:=ys) (i:=j') (by omega)
  have r2:=Bo (xs:=ys) (i:=i') (by omega)
  have r3:=DY (xs:=ys) (i:=i') (j:=j') (v:=A ys j') rfl rfl (by omega)
  simp only [hc',decide_false,cond_false,r1,r2,r3,obs,wiA (n:=i') (by omega),wiS (n:=j') (by omega) (by omega)]
  have hai:=h4.ai
  exact .inl ⟨_,rfl,⟨i' + 1,j' - 1,rfl,rfl,h1.trans (RP.sw (xs:=ys) (i:=i') (j:=j') (by omega) (by omega) (by omega)),h4.swap (by omega) (by omega) e1 e2⟩,by simp; omega⟩
theorem W2 {a b p i:Nat} {xs:List Int} (hap:a < b) (hp:p < b) (hb:b≤xs.length) (hl:xs.length≤1099511627776) (h1:a < i) (h2:i≤(b - 1) + 1) :
  GI xs (a:Int) (b:Int) (p:Int) (A xs p) (A xs a) (i:Int) = if i≤b - 1∧A (sw xs a p) i < A (sw xs a p) a then some (.norm ((i + 1:Nat):Int)) else some (.exit 0 (i:Int)):=by
 unfold GI
 rw [show (xs.set (Int.toNat (a:Int)) (A xs p)).set (Int.toNat (p:Int)) (A xs a) = sw xs a p from rfl,wiS (n:=b) (by omega) (by omega)]
 have hlen:(sw xs a p).length = xs.length:=Hr
 by_cases hc:i≤b - 1
 ·have hc':((i:Nat):Int)≤((b - 1:Nat):Int):=by omega
  have g1:=Bo (xs:=sw xs a p) (i:=i) (by omega)
  have g2:=Bo (xs:=sw xs a p) (i:=a) (by omega)
  have e:=wiA (n:=i) (by omega)
  by_cases h3:A (sw xs a p) i < A (sw xs a p) a <;> simp [hc,hc',g1,g2,Ew,h3,Ac,e]
 ·have hc':¬ ((i:Nat):Int)≤((b - 1:Nat):Int):=by omega
  simp [hc,hc',Ac]
theorem W3 {a b p i j:Nat} {xs:List Int} (hap:a < b) (hp:p < b) (hb:b≤xs.length) (hl:xs.length≤1099511627776) (h1:a < i) (h2:i≤j + 1) (hj:j < b) :
  GH xs (a:Int) (p:Int) (i:Int) (A xs p) (A xs a) (j:Int) = if i≤j∧¬ A (sw xs a p) j < A (sw xs a p) a then some (.norm ((j - 1:Nat):Int)) else some (.exit 2 (j:Int)):=by
 unfold GH
 rw [show (xs.set (Int.toNat (a:Int)) (A xs p)).set (Int.toNat (p:Int)) (A xs a) = sw xs a p from rfl]
 have hlen:(sw xs a p).length = xs.length:=Hr
 by_cases hc:i≤j
 ·have hc':((i:Nat):Int)≤(j:Int):=by omega
  have g1:=Bo (xs:=sw xs a p) (i:=j) (by omega)
  have g2:=Bo (xs:=sw xs a p) (i:=a) (by omega)
  have e:=wiS (n:=j) (by omega) (by omega)
  by_cases h3:A (sw xs a p) j < A (sw xs a p) a <;> simp [hc,hc',g1,g2,Ew,h3,Ac,e]
 ·have hc':¬ ((i:Nat):Int)≤(j:Int):=by omega
  simp [hc,hc',Ac]
theorem Ym {a b p:Nat} {xs:List Int} (hap:a≤p) (hp:p < b) (hb:b≤xs.length) (hl:xs.length≤1099511627776) :
  ∃ (mid:Nat) (r:Bool) (ys:List Int),On xs a b p = some ((mid:Int),r,ys)∧RP xs ys a b∧SX ys a mid b:=by
 have hlen:(sw xs a p).length = xs.length:=Hr
 have q1:=Bo (xs:=xs) (i:=p) (by omega)
 have q2:=Bo (xs:=xs) (i:=a) (by omega)
 have q3:=DY (xs:=xs) (i:=a) (j:=p) (v:=A xs p) rfl rfl (by omega)
 have h0:FD (sw xs a p) a (a + 1) (b - 1) b:=⟨by omega,by omega,by omega,fun k k1 k2=>by omega,fun k k1 k2=>by omega⟩
 have hr:RP xs (sw xs a p) a b:=RP.sw (by omega) (by omega) hb
 obtain ⟨i',g1,g2,g3,g4,g5⟩:=Pq (f:=GI xs (a:Int) (b:Int) (p:Int) (A xs p) (A xs a)) (e:=0) (a:=a) (j:=b - 1) (n:=NN) (fun k=>A (sw xs a p) k < A (sw xs a p) a) (fun i0 k1 k2=>W2 (by omega) hp hb hl k1 k2) h0.ai h0.ij (by rw [CN]; omega)
 have h3:=h0.up g2 g3 g4
 obtain ⟨j',d1,d2,d3,d4,d5⟩:=Pv (f:=GH xs (a:Int) (p:Int) (i':Int) (A xs p) (A xs a)) (e:=2) (b:=b) (i:=i') (n:=NN) (fun k=>¬ A (sw xs a p) k < A (sw xs a p) a) (by have:=h3.ai; omega) (fun j0 k1 k2=>W3 (by omega) hp hb hl h3.ai k1 k2) h0.jb h3.ij (by rw [CN]; omega)
 have h4:=h3.dn d2 d3 d4
 have hjb':=h4.jb
 have hai:=h4.ai
 have hij:=h4.ij
 unfold On
 rw [wiA (n:=a) (by omega),wiS (n:=b) (by omega) (by omega)]
 simp only [q1,q2,q3,obs,g1,Ac,if_true,d1,show (xs.set (Int.toNat (a:Int)) (A xs p)).set (Int.toNat (p:Int)) (A xs a) = sw xs a p from rfl]
 by_cases hc:j' < i'
 ·have hc':((i':Nat):Int) > (j':Int):=by omega
  have r1:=Bo (xs:=sw xs a p) (i:=a) (by omega)
  have r2:=Bo (xs:=sw xs a p) (i:=j') (by omega)
  have r3:=DY (xs:=sw xs a p) (i:=j') (j:=a) (v:=A (sw xs a p) a) rfl rfl (by omega)
  simp only [hc',decide_true,cond_true,r1,r2,r3,obs]
  exact ⟨j',true,_,rfl,hr.trans (RP.sw (xs:=sw xs a p) (i:=j') (j:=a) (by omega) (by omega) (by omega)),h4.end (by omega) hc⟩
 ·have hc':¬ ((i':Nat):Int) > (j':Int):=by omega
  have e1:¬ A (sw xs a p) i' < A (sw xs a p) a:=g5 (by omega)
  have e2:A (sw xs a p) j' < A (sw xs a p) a:=by
   have:=d5 (by omega)
   omega
  have hne:i'≠j':=fun e=>by rw [e] at e1; exact e1 e2
  have r1:=Bo (xs:=sw xs a p) (i:=j') (by omega)
  have r2:=Bo (xs:=sw xs a p) (i:=i') (by omega)
  have r3:=DY (xs:=sw xs a p) (i:=i') (j:=j') (v:=A (sw xs a p) j') rfl rfl (by omega)
  simp only [hc',decide_false,cond_false,r1,r2,r3,obs,wiA (n:=i') (by omega),wiS (n:=j') (by omega) (by omega)]
  obtain ⟨s',k1,i2,j2,k2,k3,k4,k5,k6⟩:=B8 (f:=FN (a:Int)) (fun s:Int×Int×List Int=>∃ i j:Nat,s.1 = i∧s.2.1 = j∧RP xs s.2.2 a b∧FD s.2.2 a i j b) (fun s:Int×Int×List Int=>s.2.1.toNat) (fun s=>∃ i j:Nat,s.1 = i∧s.2.1 = j∧RP xs s.2.2 a b∧FD s.2.2 a i j b∧j < i) 4 (PO4 hb hl) NN
   (((i' + 1:Nat):Int),((j' - 1:Nat):Int),sw (sw xs a p) i' j') ⟨i' + 1,j' - 1,rfl,rfl,hr.trans (RP.sw (xs:=sw xs a p) (i:=i') (j:=j') (by omega) (by omega) (by omega)),h4.swap (by omega) (by omega) e1 e2⟩ (by rw [CN]; simp; omega)
  have hl2:=k4.len
  have hb2:=k5.jb
  have hb3:=k5.ai
  have hb4:=k5.ij
  have t1:=Bo (xs:=s'.2.2) (i:=a) (by omega)
  have t2:=Bo (xs:=s'.2.2) (i:=j2) (by omega)
  have t3:=DY (xs:=s'.2.2) (i:=j2) (j:=a) (v:=A s'.2.2 a) rfl rfl (by omega)
  rw [show (((sw xs a p).set (Int.toNat (i':Int)) (A (sw xs a p) j')).set (Int.toNat (j':Int)) (A (sw xs a p) i')) = sw (sw xs a p) i' j' from rfl,k1]
  simp only [obs,Ac,if_true,k3,t1,t2,t3]
  exact ⟨j2,false,_,rfl,k4.trans (RP.sw (xs:=s'.2.2) (i:=j2) (j:=a) (by omega) (by omega) (by omega)),k5.end (by omega) k6⟩
open Go Go.Rf
structure Eu (ys:List Int) (a i j b:Nat):Prop where
 ai:a < i
 ij:i≤j + 1
 jb:j < b
 lo:∀ k,a < k→k < i→A ys k≤A ys a
 hi:∀ k,j < k→k < b→A ys a < A ys k
theorem Eu.up {ys:List Int} {a i j b i':Nat} (h:Eu ys a i j b) (h1:i≤i') (h2:i'≤j + 1) (h3:∀ k,i≤k→k < i'→¬ A ys a < A ys k):Eu ys a i' j b:=
 ⟨by have:=h.ai; omega,h2,h.jb,fun k k1 k2=>if hk:k < i then h.lo k k1 hk else by have:=h3 k (by omega) k2; omega,h.hi⟩
theorem Eu.dn {ys:List Int} {a i j b j':Nat} (h:Eu ys a i j b) (h1:j'≤j) (h2:i≤j' + 1) (h3:∀ k,j' < k→k≤j→A ys a < A ys k):Eu ys a i j' b:=
 ⟨h.ai,h2,by have:=h.jb; omega,h.lo,fun k k1 k2=>if hk:j < k then h.hi k hk k2 else h3 k k1 (by omega)⟩
theorem Eu.swap {ys:List Int} {a i j b:Nat} (h:Eu ys a i j b) (hb:b≤ys.length) (hij:i < j) (h1:A ys a < A ys i) (h2:¬ A ys a < A ys j):Eu (sw ys i j) a (i + 1) (j - 1) b:=by
 have h3:=h.ai; have h4:=h.jb
 have ea:A (sw ys i j) a = A ys a:=by rw [EF (by omega) (by omega),if_neg (by omega),if_neg (by omega)]
 refine ⟨by omega,by omega,by omega,fun k k1 k2=>?_,fun k k1 k2=>?_⟩
 ·rw [ea,EF (by omega) (by omega),if_neg (by omega)]
  split
  ·omega
  ·exact h.lo k k1 (by omega)
 ·rw [ea,EF (by omega) (by omega)]
  split
  ·exact h1
  ·rw [if_neg (by omega)]; exact h.hi k (by omega) k2
theorem Yp {a b i:Nat} {ys:List Int} (j:Nat) (hj:j < b) (hb:b≤ys.length) (hl:ys.length≤1099511627776) (h1:a < i) (h2:i≤j + 1) (s:Int) :
  GL (a:Int) (s,(j:Int),ys) (i:Int) = if i≤j∧¬ A ys a < A ys i then some (.norm ((i + 1:Nat):Int)) else some (.exit 2 (i:Int)):=by
 unfold GL
 by_cases hc:i≤j
 ·have hc':((i:Nat):Int)≤(j:Int):=by omega
  have g1:=Bo (xs:=ys) (i:=i) (by omega)
  have g2:=Bo (xs:=ys) (i:=a) (by omega)
  have e:=wiA (n:=i) (by omega)
  by_cases h3:A ys a < A ys i <;> simp [hc,hc',g1,g2,Ew,h3,Ac,e]
 ·have hc':¬ ((i:Nat):Int)≤(j:Int):=by omega
  simp [hc,hc',Ac]
theorem Yr {a b i:Nat} {ys:List Int} (j:Nat) (hj:j < b) (hb:b≤ys.length) (hl:ys.length≤1099511627776) (h1:a < i) (h2:i≤j + 1) (s t:Int) :
  GK (a:Int) (s,t,ys) (i:Int) (j:Int) = if i≤j∧A ys a < A ys j then some (.norm ((j - 1:Nat):Int)) else some (.exit 4 (j:Int)):=by
 unfold GK
 by_cases hc:i≤j
 ·have hc':((i:Nat):Int)≤(j:Int):=by omega
  have g1:=Bo (xs:=ys) (i:=j) (by omega)
  have g2:=Bo (xs:=ys) (i:=a) (by omega)
  have e:=wiS (n:=j) (by omega) (by omega)
  by_cases h3:A ys a < A ys j <;> simp [hc,hc',g1,g2,Ew,h3,Ac,e]
 ·have hc':¬ ((i:Nat):Int)≤(j:Int):=by omega
  simp [hc,hc',Ac]
theorem PE2 {a b:Nat} {xs:List Int} (hb:b≤xs.length) (hl:xs.length≤1099511627776) (s:Int×Int×List Int)
  (hs:∃ i j:Nat,s.1 = i∧s.2.1 = j∧RP xs s.2.2 a b∧Eu s.2.2 a i j b) :
  (∃ s',FO (a:Int) s = some (.norm s')∧(∃ i j:Nat,s'.1 = i∧s'.2.1 = j∧RP xs s'.2.2 a b∧Eu s'.2.2 a i j b)∧s'.2.1.toNat < s.2.1.toNat∧A s'.2.2 a = A s.2.2 a)∨(∃ s',FO (a:Int) s = some (.exit 0 s')∧∃ i j:Nat,s'.1 = i∧s'.2.1 = j∧RP xs s'.2.2 a b∧Eu s'.2.2 a i j b∧j < i∧A s'.2.2 a = A s.2.2 a):=by
 obtain ⟨z,w,ys⟩:=s
 obtain ⟨i,j,rfl,rfl,h1,h2⟩:=hs
 dsimp only at h1 h2 ⊢
 have hlen:=h1.len
 have hjb:=h2.jb
 obtain ⟨i',g1,g2,g3,g4,g5⟩:=Pq (f:=GL (a:Int) ((i:Int),(j:Int),ys)) (e:=2) (a:=a) (j:=j) (n:=NN) (fun k=>¬ A ys a < A ys k) (fun i0 k1 k2=>Yp j hjb (by omega) (by omega) k1 k2 _) h2.ai h2.ij (by rw [CN]; omega)
 have h3:=h2.up g2 g3 g4
 obtain ⟨j',d1,d2,d3,d4,d5⟩:=Pv (f:=GK (a:Int) ((i:Int),(j:Int),ys) (i':Int)) (e:=4) (b:=b) (i:=i') (n:=NN) (fun k=>A ys a < A ys k) (by have:=h3.ai; omega) (fun j0 k1 k2=>Yr j0 k2 (by omega) (by omega) h3.ai k1 _ _) hjb h3.ij (by rw [CN]; omega)
 have h4:=h3.dn d2 d3 d4
 unfold FO
 simp only [g1,obs,Ac,if_true,d1]
 by_cases hc:j' < i'
 ·have hc':((i':Nat):Int) > (j':Int):=by omega
  simp only [hc',decide_true,cond_true]
  exact .inr ⟨_,rfl,i',j',rfl,rfl,h1,h4,hc,rfl⟩
 ·have hc':¬ ((i':Nat):Int) > (j':Int):=by omega
  have hjb':=h4.jb
  have e1:A ys a < A ys i':=by
   have:=g5 (by omega)
   omega
  have e2:¬ A ys a < A ys j':=d5 (by omega)
  have hne:i'≠j':=fun e=>by rw [e] at e1; exact e2 e1
  have r1:=Bo (xs:=ys) (i:=j') (by omega)
  have r2:=Bo (xs:=ys) (i:=i') (by omega)
  have r3:=DY (xs:=ys) (i:=i') (j:=j') (v:=A ys j') rfl rfl (by omega)
  simp only [hc',decide_false,cond_false,r1,r2,r3,obs,wiA (n:=i') (by omega),wiS (n:=j') (by omega) (by omega)]
  have hai:=h4.ai
  exact .inl ⟨_,rfl,⟨i' + 1,j' - 1,rfl,rfl,h1.trans (RP.sw (xs:=ys) (i:=i') (j:=j') (by omega) (by omega) (by omega)),h4.swap (by omega) (by omega) e1 e2⟩,by simp; omega,(by show A (sw ys i' j') a = A ys a; rw [EF (by omega) (by omega),if_neg (by omega),if_neg (by omega)])⟩
theorem Yq {a b p:Nat} {xs:List Int} (hap:a≤p) (hp:p < b) (hb:b≤xs.length) (hl:xs.length≤1099511627776) :
  ∃ (mid:Nat) (ys:List Int),Oo xs a b p = some ((mid:Int),ys)∧RP xs ys a b∧a < mid∧mid≤b∧(∀ k,a≤k→k < mid→A ys k≤A xs p)∧(∀ k,mid≤k→k < b→A xs p < A ys k):=by
 have hlen:(sw xs a p).length = xs.length:=Hr
 have q1:=Bo (xs:=xs) (i:=p) (by omega)
 have q2:=Bo (xs:=xs) (i:=a) (by omega)
 have q3:=DY (xs:=xs) (i:=a) (j:=p) (v:=A xs p) rfl rfl (by omega)
 have hr:RP xs (sw xs a p) a b:=RP.sw (by omega) (by omega) hb
 have hpv:A (sw xs a p) a = A xs p:=by
  rw [EF (by omega) (by omega)]
  split
  ·rename_i q; rw [q]
  ·rw [if_pos rfl]
 unfold Oo
 rw [wiA (n:=a) (by omega),wiS (n:=b) (by omega) (by omega)]
 obtain ⟨s',k1,i2,j2,k2,k3,k4,k5,k6,k7⟩:=B8 (f:=FO (a:Int)) (fun s:Int×Int×List Int=>∃ i j:Nat,s.1 = i∧s.2.1 = j∧(RP xs s.2.2 a b∧A s.2.2 a = A xs p)∧Eu s.2.2 a i j b) (fun s:Int×Int×List Int=>s.2.1.toNat) (fun s=>∃ i j:Nat,s.1 = i∧s.2.1 = j∧RP xs s.2.2 a b∧A s.2.2 a = A xs p∧Eu s.2.2 a i j b∧j < i) 0
  (fun s hs=>by
   obtain ⟨i,j,g1,g2,⟨g3,g4⟩,g5⟩:=hs
   have ga:=g5.ai
   have gj:=g5.jb
   have gl:=g3.len
   rcases PE2 hb hl s ⟨i,j,g1,g2,g3,g5⟩ with ⟨s',f1,⟨i',j',f2,f3,f4,f5⟩,f6,f7⟩ | ⟨s',f1,i',j',f2,f3,f4,f5,f6,f7⟩
   ·exact .inl ⟨s',f1,⟨i',j',f2,f3,⟨f4,f7.trans g4⟩,f5⟩,f6⟩
   ·exact .inr ⟨s',f1,i',j',f2,f3,f4,f7.trans g4,f5,f6⟩) NN
  (((a + 1:Nat):Int),((b - 1:Nat):Int),sw xs a p) ⟨a + 1,b - 1,rfl,rfl,⟨hr,hpv⟩,⟨by omega,by omega,by omega,fun k k1 k2=>by omega,fun k k1 k2=>by omega⟩⟩ (by rw [CN]; simp; omega)
 simp only [q1,q2,q3,obs,show (xs.set (Int.toNat (a:Int)) (A xs p)).set (Int.toNat (p:Int)) (A xs a) = sw xs a p from rfl,k1,Ac,if_true,k2]
 have hi1:=k6.ai; have hi2:=k6.ij; have hi3:=k6.jb
 refine ⟨i2,_,rfl,k4,by omega,by omega,fun k g1 g2=>?_,fun k g1 g2=>?_⟩
 ·rw [← k5]
  by_cases e:k = a
  ·subst e; exact Int.le_refl _
  ·exact k6.lo k (by omega) g2
 ·rw [← k5]; exact k6.hi k (by omega) g2
open Go Go.Rf
def Hi (ys:List Int) (f r hi:Nat):Nat:=if 2 * r + 2 < hi∧A ys (f + (2 * r + 1)) < A ys (f + (2 * r + 1) + 1) then 2 * r + 2 else 2 * r + 1
theorem U2 {f hi r:Nat} {ys:List Int} (hf:f + hi≤ys.length) (hl:ys.length≤1099511627776) (hr:r≤1099511627776) :
  GE (hi:Int) (f:Int) ((r:Int),ys) = if hi≤2 * r + 1 then some (.exit 0 ((r:Int),ys)) else if A ys (f + r) < A ys (f + Hi ys f r hi) then some (.norm ((Hi ys f r hi:Nat),sw ys (f + r) (f + Hi ys f r hi))) else some (.ret ((r:Int),ys)):=by
 unfold GE
 have e1:wi .i64 (2 * (r:Int)) = ((2 * r:Nat):Int):=by rw [Bi (by omega) (by omega)]; omega
 have e2:wi .i64 (((2 * r:Nat):Int) + 1) = ((2 * r + 1:Nat):Int):=by rw [Bi (by omega) (by omega)]; omega
 have e3:wi .i64 (((2 * r + 1:Nat):Int) + 1) = ((2 * r + 2:Nat):Int):=by rw [Bi (by omega) (by omega)]; omega
 dsimp only
 rw [e1,e2,e3]
 by_cases h1:hi≤2 * r + 1
 ·have h1':((2 * r + 1:Nat):Int) ≥ (hi:Int):=by omega
  simp only [h1,h1',decide_true,cond_true,if_true]
 ·have h1':¬ ((2 * r + 1:Nat):Int) ≥ (hi:Int):=by omega
  have p1:=wiP (n:=f) (k:=2 * r + 1) (by omega)
  have p2:wi .i64 (((f + (2 * r + 1):Nat):Int) + 1) = ((f + (2 * r + 1) + 1:Nat):Int):=by rw [Bi (by omega) (by omega)]; omega
  have p3:=wiP (n:=f) (k:=r) (by omega)
  have g1:=Bo (xs:=ys) (i:=f + (2 * r + 1)) (by omega)
  have g3:=Bo (xs:=ys) (i:=f + r) (by omega)
  have fin:∀ c:Nat,c < hi→r < c→c = Hi ys f r hi→Ac (fun s3=>(Am ys (wi .i64 ((f:Int) + (r:Int)))).bind fun x3=>(Am ys (wi .i64 ((f:Int) + s3))).bind fun x4=>bif !decide (x3 < x4) then some (LO.ret ((r:Int),ys)) else (Am ys (wi .i64 ((f:Int) + s3))).bind fun x5=>(Am ys (wi .i64 ((f:Int) + (r:Int)))).bind fun x6=>(Am ys (wi .i64 ((f:Int) + (r:Int)))).bind fun x7=>(Am (ys.set (Int.toNat (wi .i64 ((f:Int) + (r:Int)))) x5) (wi .i64 ((f:Int) + s3))).bind fun x8=>some (LO.norm (s3,(ys.set (Int.toNat (wi .i64 ((f:Int) + (r:Int)))) x5).set (Int.toNat (wi .i64 ((f:Int) + s3))) x6))) (fun i1 s3=>if i1 = 1 then some (LO.norm ((r:Int),ys)) else some (LO.exit i1 ((r:Int),ys))) (fun s3=>some (LO.ret ((r:Int),ys))) (LO.norm (c:Int))
    = if A ys (f + r) < A ys (f + Hi ys f r hi) then some (.norm ((Hi ys f r hi:Nat),sw ys (f + r) (f + Hi ys f r hi))) else some (.ret ((r:Int),ys)):=by
   intro c hc hrc e
   rw [← e]
   have p4:=wiP (n:=f) (k:=c) (by omega)
   have g4:=Bo (xs:=ys) (i:=f + c) (by omega)
   have g5:=DY (xs:=ys) (i:=f + r) (j:=f + c) (v:=A ys (f + c)) rfl rfl (by omega)
   simp only [Ac,p3,p4,g3,g4,g5,obs]
   by_cases h3:A ys (f + r) < A ys (f + c)
   ·simp only [h3,decide_true,Bool.not_true,cond_false,if_true]; rfl
   ·simp only [h3,decide_false,Bool.not_false,cond_true,if_false]
  simp only [h1,h1',decide_false,cond_false,if_false]
  by_cases h2:2 * r + 2 < hi
  ·have h2':((2 * r + 2:Nat):Int) < (hi:Int):=by omega
   have g2:=Bo (xs:=ys) (i:=f + (2 * r + 1) + 1) (by omega)
   simp only [h2',decide_true,cond_true,p1,p2,g1,g2,obs,Ew]
   by_cases h3:A ys (f + (2 * r + 1)) < A ys (f + (2 * r + 1) + 1)
   ·simp only [h3,decide_true,cond_true,obs]
    exact fin (2 * r + 2) h2 (by omega) (by unfold Hi; rw [if_pos ⟨h2,h3⟩])
   ·simp only [h3,decide_false,cond_false,obs]
    exact fin (2 * r + 1) (by omega) (by omega) (by unfold Hi; rw [if_neg (fun q=>h3 q.2)])
  ·have h2':¬ ((2 * r + 2:Nat):Int) < (hi:Int):=by omega
   simp only [h2',decide_false,cond_false,obs,Ew]
   exact fin (2 * r + 1) (by omega) (by omega) (by unfold Hi; rw [if_neg (fun q=>h2 q.1)])
def HpX (ys:List Int) (f lo hi r:Nat):Prop:=∀ p c,lo≤p→p≠r→(c = 2 * p + 1∨c = 2 * p + 2)→c < hi→A ys (f + c)≤A ys (f + p)
def Vn (ys:List Int) (f lo hi r:Nat):Prop:=∀ p c,lo≤p→(r = 2 * p + 1∨r = 2 * p + 2)→(c = 2 * r + 1∨c = 2 * r + 2)→c < hi→A ys (f + c)≤A ys (f + p)
def Hp (ys:List Int) (f lo hi:Nat):Prop:=∀ p c,lo≤p→(c = 2 * p + 1∨c = 2 * p + 2)→c < hi→A ys (f + c)≤A ys (f + p)
theorem Vk {f lo hi r:Nat} {ys:List Int} (hlr:lo≤r) (hr:r≤1099511627776) (hf:f + hi≤ys.length) (hl:ys.length≤1099511627776) (hx:HpX ys f lo hi r) (hg:Vn ys f lo hi r) :
  ∃ zs,LD ys r hi f = some zs∧RP ys zs f (f + hi)∧Hp zs f lo hi:=by
 have hloop:=EW (f:=GE (hi:Int) (f:Int)) (fun s:Int×List Int=>∃ r:Nat,s.1 = r∧lo≤r∧r≤1099511627776∧RP ys s.2 f (f + hi)∧HpX s.2 f lo hi r∧Vn s.2 f lo hi r) (fun s=>hi - s.1.toNat) (fun o=>∃ zs:List Int,((∃ r,o = .exit 0 (r,zs))∨(∃ r,o = .ret (r,zs)))∧RP ys zs f (f + hi)∧Hp zs f lo hi)
  (fun s hs=>by
   obtain ⟨z,zs⟩:=s
   obtain ⟨r,rfl,h1,h2,h3,h4,h5⟩:=hs
   dsimp only at h3 h4 h5 ⊢
   have hlen:=h3.len
   rw [U2 (by omega) (by omega) h2]
   by_cases c1:hi≤2 * r + 1
   ·rw [if_pos c1]
    refine .inr (.inl ⟨0,_,rfl,zs,.inl ⟨_,rfl⟩,h3,fun p c g1 g2 g3=>?_⟩)
    by_cases e:p = r
    ·omega
    ·exact h4 p c g1 e g2 g3
   ·rw [if_neg c1]
    have hch:Hi zs f r hi = 2 * r + 1∧¬ (2 * r + 2 < hi∧A zs (f + (2 * r + 1)) < A zs (f + (2 * r + 1) + 1))∨Hi zs f r hi = 2 * r + 2∧2 * r + 2 < hi∧A zs (f + (2 * r + 1)) < A zs (f + (2 * r + 1) + 1):=by
     unfold Hi
     by_cases q:2 * r + 2 < hi∧A zs (f + (2 * r + 1)) < A zs (f + (2 * r + 1) + 1)
     ·rw [if_pos q]; exact .inr ⟨rfl,q⟩
     ·rw [if_neg q]; exact .inl ⟨rfl,q⟩
    have e22:f + (2 * r + 1) + 1 = f + (2 * r + 2):=by omega
    rw [e22] at hch
    generalize Hi zs f r hi = c at hch ⊢
    have hc:c < hi∧r < c∧(c = 2 * r + 1∨c = 2 * r + 2):=by rcases hch with ⟨q,_⟩ | ⟨q,_,_⟩ <;> omega
    have hmax:∀ d,(d = 2 * r + 1∨d = 2 * r + 2)→d < hi→A zs (f + d)≤A zs (f + c):=by
     intro d hd hdh
     rcases hch with ⟨q,q2⟩ | ⟨q,q2,q3⟩ <;> subst q
     ·rcases hd with rfl | rfl
      ·exact Int.le_refl _
      ·have:¬ A zs (f + (2 * r + 1)) < A zs (f + (2 * r + 2)):=fun q=>q2 ⟨hdh,q⟩
       omega
     ·rcases hd with rfl | rfl
      ·omega
      ·exact Int.le_refl _
    by_cases c2:A zs (f + r) < A zs (f + c)
    ·rw [if_pos c2]
     have hs:∀ k,A (sw zs (f + r) (f + c)) (f + k) = if k = c then A zs (f + r) else if k = r then A zs (f + c) else A zs (f + k):=fun k=>by
      rw [EF (by omega) (by omega)]
      by_cases q1:k = c
      ·subst q1; rw [if_pos rfl,if_pos rfl]
      ·rw [if_neg (by omega),if_neg q1]
       by_cases q2:k = r
       ·subst q2; rw [if_pos rfl,if_pos rfl]
       ·rw [if_neg (by omega),if_neg q2]
     refine .inl ⟨_,rfl,⟨c,rfl,by omega,by omega,h3.trans (RP.sw (xs:=zs) (i:=f + r) (j:=f + c) (by omega) (by omega) (by omega)),fun p d g1 g2 g3 g4=>?_,fun p d g1 g2 g3 g4=>?_⟩,by dsimp only; omega⟩
     ·rw [hs d,hs p,if_neg g2]
      by_cases e1:p = r
      ·subst e1
       rw [if_pos rfl]
       by_cases e2:d = c
       ·rw [if_pos e2]; omega
       ·rw [if_neg e2,if_neg (by omega)]; exact hmax d g3 g4
      ·rw [if_neg e1]
       by_cases e2:d = r
       ·subst e2
        rw [if_neg (by omega),if_pos rfl]
        exact h5 p c g1 g3 hc.2.2 hc.1
       ·by_cases e3:d = c
        ·omega
        ·rw [if_neg e3,if_neg e2]; exact h4 p d g1 e1 g3 g4
     ·have:p = r:=by omega
      subst this
      rw [hs d,hs p,if_neg (by omega),if_neg (by omega),if_neg (by omega),if_pos rfl]
      exact h4 c d (by omega) (by omega) g3 g4
    ·rw [if_neg c2]
     refine .inr (.inr ⟨_,rfl,zs,.inr ⟨_,rfl⟩,h3,fun p d g1 g2 g3=>?_⟩)
     by_cases e:p = r
     ·subst e
      have:=hmax d g2 g3
      omega
     ·exact h4 p d g1 e g2 g3) NN ((r:Int),ys) ⟨r,rfl,hlr,hr,RP.refl _ _ _,hx,hg⟩ (by rw [CN]; dsimp only; omega)
 obtain ⟨o,k1,zs,k2,k3,k4⟩:=hloop
 unfold LD
 rcases k2 with ⟨q,rfl⟩ | ⟨q,rfl⟩
 ·exact ⟨zs,by rw [k1]; simp [Ac],k3,k4⟩
 ·exact ⟨zs,by rw [k1]; simp [Ac],k3,k4⟩
theorem Hp.root {ys:List Int} {f hi:Nat} (h:Hp ys f 0 hi):∀ q,q < hi→A ys (f + q)≤A ys (f + 0):=by
 intro q
 induction q using Nat.strongRecOn with
 | _ q ih=>
  intro hq
  by_cases e:q = 0
  ·subst e; exact Int.le_refl _
  ·have h1:=ih ((q - 1) / 2) (by omega) (by omega)
   have h2:=h ((q - 1) / 2) q (by omega) (by omega) hq
   omega
theorem Yw {a b:Nat} {xs:List Int} (hab:a < b) (hb:b≤xs.length) (hl:xs.length≤1099511627776):∃ ys,Ov xs a b = some ys∧RP xs ys a b∧SO ys a b:=by
 have e0:=wiD (n:=b) (k:=a) (by omega) (by omega)
 have e1:=wiS (n:=b - a) (by omega) (by omega)
 have e2:wi .i64 (Int.tdiv ((b - a - 1:Nat):Int) 2) = (((b - a - 1) / 2:Nat):Int):=wiT (n:=b - a - 1) (k:=2) (by omega) (by omega) (by omega)
 unfold Ov
 rw [e0,e1,e2]
 obtain ⟨s1,k1,k2,k3⟩:=B8 (f:=Ip (a:Int) (b:Int)) (fun s:Int×List Int=>∃ n:Nat,s.1 = (n:Int) - 1∧n≤b - a∧RP xs s.2 a b∧Hp s.2 a n (b - a)) (fun s=>(s.1 + 1).toNat) (fun s=>RP xs s.2 a b∧Hp s.2 a 0 (b - a)) 0
  (fun s hs=>by
   obtain ⟨z,ys⟩:=s
   obtain ⟨n,rfl,h1,h2,h3⟩:=hs
   dsimp only at h2 h3 ⊢
   have hlen:=h2.len
   unfold Ip
   by_cases hc:n = 0
   ·subst hc
    exact .inr ⟨_,rfl,h2,h3⟩
   ·have hc':((n:Int) - 1) ≥ 0:=by omega
    have e3:(n:Int) - 1 = ((n - 1:Nat):Int):=by omega
    obtain ⟨zs,q1,q2,q3⟩:=Vk (f:=a) (lo:=n - 1) (hi:=b - a) (r:=n - 1) (ys:=ys) (by omega) (by omega) (by omega) (by omega) (fun p c g1 g2 g3 g4=>h3 p c (by omega) g3 g4) (fun p c g1 g2 g3 g4=>by omega)
    dsimp only
    rw [e0]
    simp only [hc',decide_true,cond_true]
    rw [e3,q1]
    simp only [obs]
    refine .inl ⟨_,rfl,⟨n - 1,by dsimp only; rw [Bi (by omega) (by omega)],by omega,h2.trans ⟨q2.len,fun k hk=>q2.out k (by omega),q2.perm⟩,q3⟩,?_⟩
    dsimp only
    rw [Bi (by omega) (by omega)]; omega) NN ((((b - a - 1) / 2:Nat):Int),xs) ⟨(b - a - 1) / 2 + 1,by dsimp only; omega,by omega,RP.refl _ _ _,fun p c g1 g2 g3=>by omega⟩ (by rw [CN]; dsimp only; omega)
 rw [k1]
 simp only [obs,Ac,if_true]
 have hlen1:=k2.len
 obtain ⟨s2,j1,j2,j3⟩:=B8 (f:=Io (a:Int)) (fun s:Int×List Int=>∃ n:Nat,s.1 = (n:Int) - 1∧n≤b - a∧RP xs s.2 a b∧Hp s.2 a 0 n∧∀ p q,p < q→n≤q→q < b - a→A s.2 (a + p)≤A s.2 (a + q)) (fun s=>(s.1 + 1).toNat) (fun s=>RP xs s.2 a b∧SO s.2 a b) 2
  (fun s hs=>by
   obtain ⟨z,ys⟩:=s
   obtain ⟨n,rfl,h1,h2,h3,h4⟩:=hs
   dsimp only at h2 h3 h4 ⊢
   have hlen:=h2.len
   unfold Io
   by_cases hc:n = 0
   ·subst hc
    refine .inr ⟨_,rfl,h2,fun p q g1 g2 g3=>?_⟩
    have:=h4 (p - a) (q - a) (by omega) (by omega) (by omega)
    rw [show a + (p - a) = p by omega,show a + (q - a) = q by omega] at this
    exact this
   ·have hc':((n:Int) - 1) ≥ 0:=by omega
    have e3:(n:Int) - 1 = ((n - 1:Nat):Int):=by omega
    have p1:=wiP (n:=a) (k:=n - 1) (by omega)
    have g1:=Bo (xs:=ys) (i:=a + (n - 1)) (by omega)
    have g2:=Bo (xs:=ys) (i:=a) (by omega)
    have g3:=DY (xs:=ys) (i:=a) (j:=a + (n - 1)) (v:=A ys (a + (n - 1))) rfl rfl (by omega)
    have hs:∀ k,k < n - 1→k≠0→A (sw ys a (a + (n - 1))) (a + k) = A ys (a + k):=fun k h1 h2=>by
     rw [EF (by omega) (by omega),if_neg (by omega),if_neg (by omega)]
    have hswl:(sw ys a (a + (n - 1))).length = ys.length:=Hr
    obtain ⟨zs,q1,q2,q3⟩:=Vk (f:=a) (lo:=0) (hi:=n - 1) (r:=0) (ys:=sw ys a (a + (n - 1))) (by omega) (by omega) (by omega) (by omega)
     (fun p c g1 g2 g3 g4=>by rw [hs c g4 (by omega),hs p (by omega) g2]; exact h3 p c g1 g3 (by omega)) (fun p c g1 g2 g3 g4=>by omega)
    dsimp only
    simp only [hc',decide_true,cond_true]
    rw [e3]
    simp only [p1,g1,g2,g3,obs]
    rw [show (ys.set (Int.toNat (a:Int)) (A ys (a + (n - 1)))).set (Int.toNat ((a + (n - 1):Nat):Int)) (A ys a) = sw ys a (a + (n - 1)) from rfl]
    rw [show ((0:Int)) = ((0:Nat):Int) from rfl,q1]
    simp only [obs]
    have hroot:=h3.root
    have helem:∀ k,k < n - 1→∃ k',k' < n∧A (sw ys a (a + (n - 1))) (a + k) = A ys (a + k'):=fun k hk=>by
     by_cases e:k = 0
     ·subst e
      refine ⟨n - 1,by omega,?_⟩
      rw [EF (by omega) (by omega),if_neg (by omega),if_pos (by omega:a + 0 = a)]
     ·exact ⟨k,by omega,hs k hk e⟩
    have hlast:A zs (a + (n - 1)) = A ys (a + 0):=by
     rw [q2.out _ (.inr (by omega)),EF (by omega) (by omega),if_pos rfl]; rfl
    have hbnd:∀ v:Int,(∀ k',k' < n→A ys (a + k')≤v)→∀ k,k < n - 1→A zs (a + k)≤v:=fun v hv k hk=>
     q2.all (by omega) (p:=fun x=>x≤v) (fun i h1 h2=>by
      obtain ⟨k',h3,h4⟩:=helem (i - a) (by omega)
      rw [show a + (i - a) = i by omega] at h4
      rw [h4]; exact hv k' h3) (a + k) (by omega) (by omega)
    have hout:∀ k,n≤k→A zs (a + k) = A ys (a + k):=fun k hk=>by
     rw [q2.out _ (.inr (by omega)),EF (by omega) (by omega),if_neg (by omega),if_neg (by omega)]
    refine .inl ⟨_,rfl,⟨n - 1,by dsimp only; rw [Bi (by omega) (by omega)],by omega,(h2.trans (RP.sw (xs:=ys) (i:=a) (j:=a + (n - 1)) (by omega) (by omega) (by omega))).trans ⟨q2.len,fun k hk=>q2.out k (by omega),q2.perm⟩,q3,fun p q m1 m2 m3=>?_⟩,?_⟩
    ·by_cases e:q = n - 1
     ·subst e
      rw [hlast]
      exact hbnd _ (fun k' hk'=>hroot k' hk') p (by omega)
     ·rw [hout q (by omega)]
      by_cases e2:p < n - 1
      ·exact hbnd _ (fun k' hk'=>h4 k' q (by omega) (by omega) m3) p e2
      ·by_cases e3:p = n - 1
       ·subst e3
        rw [hlast]; exact h4 0 q (by omega) (by omega) m3
       ·rw [hout p (by omega)]; exact h4 p q m1 (by omega) m3
    ·dsimp only
     rw [Bi (by omega) (by omega)]; omega) NN (((b - a - 1:Nat):Int),s1.2) ⟨b - a,by dsimp only; omega,Nat.le_refl _,k2,k3,fun p q g1 g2 g3=>by omega⟩ (by rw [CN]; dsimp only; omega)
 rw [j1]
 exact ⟨s2.2,by simp [Ac],j2,j3⟩
open Go Go.Rf
theorem W8 {x:Int} (h1:0≤x) (h2:x≤18446744073709551615):wi .u64 x = x:=by
 show IntKind.wrap .u64 x = x
 simp [IntKind.wrap,IntKind.signed,IntKind.bits]
 (try split) <;> omega
def Ok {α:Type} (P:α→Prop) (o:Option α):Prop:=∃ v,o = some v∧P v
theorem Ok.bind {α β:Type} {P:α→Prop} {Q:β→Prop} {o:Option α} {f:α→Option β} (h:Ok P o) (k:∀ v,P v→Ok Q (f v)):Ok Q (o.bind f):=by
 obtain ⟨v,rfl,hv⟩:=h
 exact k v hv
theorem Ok.some {α:Type} {P:α→Prop} {v:α} (h:P v):Ok P (Option.some v):=⟨v,rfl,h⟩
noncomputable def npT (n:Nat):Bool:=match QW (n:Int) with | some y=>decide (0 < y∧y≤2 * (n:Int)) | none=>false
theorem VU:∀ n:Fin 42,npT (n.val + 8) = true:=by decide +kernel
theorem Yt {n:Nat} (h8:8≤n) (h50:n < 50):∃ y,QW (n:Int) = some y∧0 < y∧y≤2 * (n:Int):=by
 have:=VU ⟨n - 8,by omega⟩
 rw [show (⟨n - 8,by omega⟩:Fin 42).val + 8 = n by simp only []; omega] at this
 unfold npT at this
 split at this
 ·rename_i y e
  exact ⟨y,e,of_decide_eq_true this⟩
 ·exact absurd this (by simp)
theorem Ux {x m:Int} (h0:0≤m) (h1:m < 9223372036854775808):0≤Lh .u64 x m∧Lh .u64 x m≤m:=by
 have e1:(BitVec.ofInt 64 x &&& BitVec.ofInt 64 m).toNat≤(BitVec.ofInt 64 m).toNat:=by
  rw [BitVec.toNat_and]; exact Nat.and_le_right
 have e2:((BitVec.ofInt 64 m).toNat:Int) = m:=by
  rw [BitVec.toNat_ofInt]
  omega
 have e3:Lh .u64 x m = ((BitVec.ofInt 64 x &&& BitVec.ofInt 64 m).toNat:Int):=by
  show IntKind.wrap .u64 _ = _
  exact W8 (by omega) (by show ((BitVec.ofInt 64 x &&& BitVec.ofInt 64 m).toNat:Int)≤_; omega)
 rw [e3]
 omega
theorem Yz {a b:Nat} {xs:List Int} (hab:a + 8≤b) (h50:b < a + 50) (hb:b≤xs.length) (hl:xs.length≤1099511627776):∃ ys,Ou xs a b = some ys∧RP xs ys a b:=by
 have e0:=wiD (n:=b) (k:=a) (by omega) (by omega)
 have e1:wi .i64 (Int.tdiv ((b - a:Nat):Int) 4) = (((b - a) / 4:Nat):Int):=wiT (n:=b - a) (k:=4) (by omega) (by omega) (by omega)
 have e2:wi .i64 ((((b - a) / 4:Nat):Int) * 2) = (((b - a) / 4 * 2:Nat):Int):=wiM (n:=(b - a) / 4) (k:=2) (by omega)
 have e3:=wiP (n:=a) (k:=(b - a) / 4 * 2) (by omega)
 have e4:=wiA (n:=a + (b - a) / 4 * 2) (by omega)
 have e5:=wiS (n:=a + (b - a) / 4 * 2) (by omega) (by omega)
 obtain ⟨y,hy,hy0,hy2⟩:=Yt (n:=b - a) (by omega) (by omega)
 unfold Ou
 have hc:((b - a:Nat):Int) ≥ 8:=by omega
 rw [e0]
 simp only [hc,decide_true,cond_true,hy,obs,e1,e2,e3,e5]
 have hmain:=B8 (f:=Im (a:Int) (b:Int) y) (fun s:Int×Int×List Int=>∃ i:Nat,s.1 = i∧a + (b - a) / 4 * 2 - 1≤i∧i≤a + (b - a) / 4 * 2 + 2∧RP xs s.2.2 a b) (fun s=>1099511627776 - s.1.toNat) (fun s=>RP xs s.2.2 a b) 0
  (fun s hs=>by
   obtain ⟨z,r,ys⟩:=s
   obtain ⟨i,rfl,h1,h2,h3⟩:=hs
   dsimp only at h3 ⊢
   have hlen:=h3.len
   unfold Im
   dsimp only
   rw [e0,e1,e2,e3,e4]
   by_cases hi:i≤a + (b - a) / 4 * 2 + 1
   ·have hi':(i:Int)≤((a + (b - a) / 4 * 2 + 1:Nat):Int):=by omega
    simp only [hi',decide_true,cond_true,obs]
    generalize QV r = q
    have hw:wi .u64 (y - 1) = y - 1:=W8 (by omega) (by omega)
    rw [hw]
    obtain ⟨k1,k2⟩:=Ux (x:=q.1) (m:=y - 1) (by omega) (by omega)
    have hw2:wi .i64 (Lh .u64 q.1 (y - 1)) = Lh .u64 q.1 (y - 1):=Bi (by omega) (by omega)
    rw [hw2]
    generalize Lh .u64 q.1 (y - 1) = o at k1 k2 ⊢
    have hin:∃ v:Nat,(bif decide (o ≥ ((b - a:Nat):Int)) then some (LO.norm (wi .i64 (o - ((b - a:Nat):Int)))) else some (LO.norm o)) = some (LO.norm ((v:Nat):Int))∧v < b - a:=by
     by_cases g:o ≥ ((b - a:Nat):Int)
     ·refine ⟨(o - ((b - a:Nat):Int)).toNat,?_,by omega⟩
      simp only [g,decide_true,cond_true]
      rw [Bi (by omega) (by omega)]
      congr 2; omega
     ·refine ⟨o.toNat,?_,by omega⟩
      simp only [g,decide_false,cond_false]
      congr 2; omega
    obtain ⟨v,v1,v2⟩:=hin
    rw [v1]
    have p1:=wiP (n:=a) (k:=v) (by omega)
    have g1:=Bo (xs:=ys) (i:=a + v) (by omega)
    have g2:=Bo (xs:=ys) (i:=i) (by omega)
    have g3:=DY (xs:=ys) (i:=i) (j:=a + v) (v:=A ys (a + v)) rfl rfl (by omega)
    simp only [Ac,obs,p1,g1,g2,g3]
    rw [show (ys.set (Int.toNat (i:Int)) (A ys (a + v))).set (Int.toNat ((a + v:Nat):Int)) (A ys i) = sw ys i (a + v) from rfl]
    have p2:=wiA (n:=i) (by omega)
    rw [p2]
    exact .inl ⟨_,rfl,⟨i + 1,rfl,by omega,by omega,h3.trans (RP.sw (xs:=ys) (i:=i) (j:=a + v) (by omega) (by omega) (by omega))⟩,by dsimp only; omega⟩
   ·have hi':¬ (i:Int)≤((a + (b - a) / 4 * 2 + 1:Nat):Int):=by omega
    simp only [hi',decide_false,cond_false]
    exact .inr ⟨_,rfl,h3⟩) NN
 obtain ⟨s',k1,k2⟩:=hmain (((a + (b - a) / 4 * 2 - 1:Nat):Int),wi .u64 ((b - a:Nat):Int),xs) ⟨_,rfl,Nat.le_refl _,by omega,RP.refl _ _ _⟩ (by rw [CN]; dsimp only; omega)
 rw [k1]
 exact ⟨s'.2.2,by simp [Ac],k2⟩
def Sep (ys:List Int) (a c d b:Nat):Prop:=∀ i j,a≤i→i < j→j < b→(i < c∨d≤j)→A ys i≤A ys j
theorem Sep.rp {ys zs:List Int} {a c d b:Nat} (h:Sep ys a c d b) (k:RP ys zs c d) (hac:a≤c) (hdb:d≤b) (hb:b≤ys.length):Sep zs a c d b:=by
 intro i j h1 h2 h3 h4
 by_cases hi:i < c∨d≤i
 ·rw [k.out i hi]
  by_cases hj:j < c∨d≤j
  ·rw [k.out j hj]; exact h i j h1 h2 h3 h4
  ·exact k.all (p:=fun x=>A ys i≤x) (by omega) (fun q q1 q2=>h i q h1 (by omega) (by omega) (.inl (by omega))) j (by omega) (by omega)
 ·rw [k.out j (by omega)]
  exact k.all (p:=fun x=>x≤A ys j) (by omega) (fun q q1 q2=>h q j (by omega) (by omega) h3 (.inr (by omega))) i (by omega) (by omega)
theorem Sep.fin {ys:List Int} {a c d b:Nat} (h:Sep ys a c d b) (k:SO ys c d):SO ys a b:=fun i j h1 h2 h3=>by
 by_cases e:i < c∨d≤j
 ·exact h i j h1 h2 h3 e
 ·exact k i j (by omega) h2 (by omega)
open Go Go.Rf
theorem Vl {ys:List Int} {a c d b:Nat} {xs:List Int} (hpre:a > 0→∀ k,a≤k→k < b→A xs (a - 1)≤A xs k) (hr:RP xs ys a b) (hs:Sep ys a c d b) (hac:a≤c) (hdb:d≤b) (hb:b≤xs.length) :
  c > 0→∀ k,c≤k→k < d→A ys (c - 1)≤A ys k:=by
 intro h0 k h1 h2
 by_cases e:c = a
 ·subst e
  rw [hr.out (c - 1) (.inl (by omega))]
  exact hr.all (p:=fun x=>A xs (c - 1)≤x) hb (fun q q1 q2=>hpre h0 q q1 q2) k h1 (by omega)
 ·exact hs (c - 1) k (by omega) (by omega) (by omega) (.inl (by omega))
theorem SY (rec_:List Int→Int→Int→Int→Option (List Int)) (m:Nat)
  (ih:12 < m→∀ (xs:List Int) (a b:Nat) (l:Int),a≤b→2 * (b - a) < m→b≤xs.length→xs.length < 50→(a > 0→∀ k,a≤k→k < b→A xs (a - 1)≤A xs k)→Ok (fun ys=>RP xs ys a b∧SO ys a b) (rec_ xs a b l))
  {xs:List Int} {a b:Nat} {l:Int} (hab:a≤b) (hm:b - a≤m) (hb:b≤xs.length) (hl:xs.length < 50) (hpre:a > 0→∀ k,a≤k→k < b→A xs (a - 1)≤A xs k) :
  Ok (fun ys=>RP xs ys a b∧SO ys a b) (LE rec_ xs a b l):=by
 have hmain:=EW (f:=GU rec_) (fun s:Int×Int×Int×Bool×Bool×List Int=>∃ c d:Nat,s.1 = c∧s.2.1 = d∧a≤c∧c≤d∧d≤b∧RP xs s.2.2.2.2.2 a b∧Sep s.2.2.2.2.2 a c d b) (fun s=>(s.2.1 - s.1).toNat) (fun o=>∃ s,o = .ret s∧RP xs s.2.2.2.2.2 a b∧SO s.2.2.2.2.2 a b)
  (fun s hs=>by
   obtain ⟨z,w,lim,bal,par,ys⟩:=s
   obtain ⟨c,d,rfl,rfl,h1,h2,h3,h4,h5⟩:=hs
   dsimp only at h4 h5 ⊢
   have hlen:=h4.len
   have e0:=wiD (n:=d) (k:=c) (by omega) (by omega)
   suffices hk:Ok (fun o=>(∃ s',o = .norm s'∧(∃ c' d':Nat,s'.1 = (c':Int)∧s'.2.1 = (d':Int)∧a≤c'∧c'≤d'∧d'≤b∧RP xs s'.2.2.2.2.2 a b∧Sep s'.2.2.2.2.2 a c' d' b)∧(s'.2.1 - s'.1).toNat < ((d:Int) - c).toNat)∨(∃ s',o = .ret s'∧RP xs s'.2.2.2.2.2 a b∧SO s'.2.2.2.2.2 a b)) (GU rec_ ((c:Int),(d:Int),lim,bal,par,ys)) by
    obtain ⟨o,k1,k2⟩:=hk
    rcases k2 with ⟨s',rfl,k3,k4⟩ | ⟨s',rfl,k3⟩
    ·exact .inl ⟨s',k1,k3,k4⟩
    ·exact .inr (.inr ⟨s',k1,s',rfl,k3⟩)
   unfold GU
   dsimp only
   rw [e0]
   by_cases hsz:d - c≤12
   ·have hsz':((d - c:Nat):Int)≤12:=by omega
    simp only [hsz',decide_true,cond_true]
    obtain ⟨zs,k1,k2,k3⟩:=Yv (a:=c) (b:=d) (xs:=ys) h2 (by omega) (by omega)
    rw [k1]
    exact Ok.some (.inr ⟨_,rfl,h4.trans (k2.mono h1 h3),(h5.rp k2 h1 h3 (by omega)).fin k3⟩)
   have hsz':¬ ((d - c:Nat):Int)≤12:=by omega
   simp only [hsz',decide_false,cond_false]
   by_cases hlim:lim = 0
   ·subst hlim
    obtain ⟨zs,k1,k2,k3⟩:=Yw (a:=c) (b:=d) (xs:=ys) (by omega) (by omega) (by omega)
    rw [k1]
    exact Ok.some (.inr ⟨_,rfl,h4.trans (k2.mono h1 h3),(h5.rp k2 h1 h3 (by omega)).fin k3⟩)
   have hlim':(lim == 0) = false:=by simpa using hlim
   simp only [hlim',cond_false]
   refine Ok.bind (P:=fun o=>∃ l zs,o = LO.norm (l,zs)∧RP ys zs c d) ?_ (fun o ho=>?_)
   ·cases bal
    ·obtain ⟨zs,k1,k2⟩:=Yz (a:=c) (b:=d) (xs:=ys) (by omega) (by omega) (by omega) (by omega)
     simp only [Bool.not_false,cond_true,k1,obs]
     exact Ok.some ⟨_,_,rfl,k2⟩
    ·exact Ok.some ⟨_,_,rfl,RP.refl _ _ _⟩
   obtain ⟨lim2,ys1,rfl,r1⟩:=ho
   have hlen1:=r1.len
   simp only [Ac]
   obtain ⟨p,hint,k1,k2,k3⟩:=Yx (a:=c) (b:=d) (xs:=ys1) (by omega) (by omega) (by omega) (by omega)
   simp only [k1,obs]
   refine Ok.bind (P:=fun o=>∃ (q:Nat) (hh:Int) (zs:List Int),o = LO.norm ((q:Int),hh,zs)∧c≤q∧q < d∧RP ys zs c d) ?_ (fun o ho=>?_)
   ·cases hb:(hint == 2)
    ·exact Ok.some ⟨p,hint,ys1,rfl,k2,k3,r1⟩
    ·obtain ⟨zs,j1,j2⟩:=Yk (a:=c) (b:=d) (xs:=ys1) (by omega) (by omega) (by omega)
     simp only [cond_true,j1,obs]
     have e1:=wiS (n:=d) (by omega) (by omega)
     have e2:=wiD (n:=p) (k:=c) (by omega) (by omega)
     have e3:=wiD (n:=d - 1) (k:=p - c) (by omega) (by omega)
     rw [e1,e2,e3]
     exact Ok.some ⟨d - 1 - (p - c),1,zs,rfl,by omega,by omega,r1.trans j2⟩
   obtain ⟨q,hh,ys2,rfl,q1,q2,r2⟩:=ho
   have hlen2:=r2.len
   have s2:=h5.rp r2 h1 h3 (by omega)
   have t2:=h4.trans (r2.mono h1 h3)
   simp only [Ac]
   refine Ok.bind (P:=fun o=>o = LO.norm ys2∨(o = LO.ret ys2∧SO ys2 c d)) ?_ (fun o ho=>?_)
   ·refine Ok.bind (P:=fun o=>∃ g,o = LO.norm g) ?_ (fun o ho=>?_)
    ·cases bal <;> cases par <;> exact Ok.some ⟨_,rfl⟩
    ·obtain ⟨g,rfl⟩:=ho
     simp only [Ac]
     cases g
     ·exact Ok.some (.inl rfl)
     ·obtain ⟨r,j1,j2⟩:=Yo (a:=c) (b:=d) (xs:=ys2) (by omega) (by omega) (by omega) (by omega)
      simp only [cond_true,j1,obs]
      cases r
      ·exact Ok.some (.inl rfl)
      ·exact Ok.some (.inr ⟨rfl,j2 rfl⟩)
   rcases ho with rfl | ⟨rfl,hso⟩
   rotate_left
   ·exact Ok.some (.inr ⟨_,rfl,t2,s2.fin hso⟩)
   simp only [Ac]
   refine Ok.bind (P:=fun o=>o = LO.norm ((c:Int),ys2)∨(∃ (mid:Nat) (zs:List Int),o = LO.exit 1 ((mid:Int),zs)∧RP ys2 zs c d∧c < mid∧mid≤d∧Sep zs a mid d b)) ?_ (fun o ho=>?_)
   ·by_cases hc:c = 0
    ·subst hc
     exact Ok.some (.inl rfl)
    ·have hc':(c:Int) > 0:=by omega
     have e1:=wiS (n:=c) (by omega) (by omega)
     have g1:=Bo (xs:=ys2) (i:=c - 1) (by omega)
     have g2:=Bo (xs:=ys2) (i:=q) (by omega)
     simp only [hc',decide_true,cond_true,e1,g1,g2,obs,Ew]
     have hle:=Vl hpre t2 s2 h1 h3 hb (by omega)
     by_cases hlt:A ys2 (c - 1) < A ys2 q
     ·simp only [hlt,decide_true,Bool.not_true,cond_false]
      exact Ok.some (.inl rfl)
     ·obtain ⟨mid,zs,j1,j2,j3,j4,j5,j6⟩:=Yq (a:=c) (b:=d) (p:=q) (xs:=ys2) q1 q2 (by omega) (by omega)
      simp only [hlt,decide_false,Bool.not_false,cond_true,j1,obs]
      refine Ok.some (.inr ⟨mid,zs,rfl,j2,j3,j4,?_⟩)
      have s3:=s2.rp j2 h1 h3 (by omega)
      have hq:=hle q q1 q2
      have hall:=j2.all (p:=fun x=>A ys2 (c - 1)≤x) (by omega) (fun k k1 k2=>hle k k1 k2)
      intro i j g1 g2 g3 g4
      by_cases e:i < c∨d≤j
      ·exact s3 i j g1 g2 g3 e
      ·have b1:=j5 i (by omega) (by omega)
       have b2:=hall j (by omega) (by omega)
       omega
   rcases ho with rfl | ⟨mid,zs,rfl,j2,j3,j4,j5⟩
   rotate_left
   ·simp only [Ac,if_true]
    exact Ok.some (.inl ⟨_,rfl,⟨mid,d,rfl,rfl,by omega,j4,h3,t2.trans (j2.mono h1 h3),j5⟩,by dsimp only; omega⟩)
   simp only [Ac]
   obtain ⟨mid,al,ys3,j1,j2,j3⟩:=Ym (a:=c) (b:=d) (p:=q) (xs:=ys2) q1 q2 (by omega) (by omega)
   have m1:=j3.am
   have m2:=j3.mb
   have hlen3:=j2.len
   simp only [j1,obs]
   have s3:=s2.rp j2 h1 h3 (by omega)
   have t3:=t2.trans (j2.mono h1 h3)
   have e1:=wiD (n:=mid) (k:=c) (by omega) (by omega)
   have e2:=wiD (n:=d) (k:=mid) (by omega) (by omega)
   have e3:=wiA (n:=mid) (by omega)
   rw [e1,e2,e3]
   by_cases hlr:mid - c < d - mid
   ·have hlr':((mid - c:Nat):Int) < ((d - mid:Nat):Int):=by omega
    simp only [hlr',decide_true,cond_true]
    refine Ok.bind (ih (by omega) ys3 c mid lim2 m1 (by omega) (by omega) (by omega) (fun g0 k g1 g2=>Vl hpre t3 s3 h1 h3 hb g0 k g1 (by omega))) (fun zs hz=>?_)
    obtain ⟨r4,so4⟩:=hz
    have s4:=s3.rp (r4.mono (Nat.le_refl _) (by omega:mid≤d)) h1 h3 (by omega)
    refine Ok.some (.inl ⟨_,rfl,⟨mid + 1,d,rfl,rfl,by omega,by omega,h3,t3.trans (r4.mono h1 (by omega)),?_⟩,by dsimp only; omega⟩)
    intro i j g1 g2 g3 g4
    dsimp only at g4 ⊢
    by_cases e:i < c∨d≤j
    ·exact s4 i j g1 g2 g3 e
    ·have hmidz:A zs mid = A ys3 mid:=r4.out mid (.inr (Nat.le_refl _))
     have hlow:∀ k,c≤k→k < mid→A zs k≤A ys3 mid:=r4.all (p:=fun x=>x≤A ys3 mid) (by omega) (fun k k1 k2=>j3.lo k k1 k2)
     by_cases ej:j < mid
     ·exact so4 i j (by omega) g2 ej
     ·have hj:A ys3 mid≤A zs j:=by
       by_cases ej2:j = mid
       ·subst ej2; rw [hmidz]; exact Int.le_refl _
       ·rw [r4.out j (.inr (by omega))]; exact j3.hi j (by omega) (by omega)
      by_cases ei:i = mid
      ·subst ei; rw [hmidz]; exact hj
      ·have:=hlow i (by omega) (by omega)
       omega
   ·have hlr':¬ ((mid - c:Nat):Int) < ((d - mid:Nat):Int):=by omega
    simp only [hlr',decide_false,cond_false]
    have sm:∀ k,c≤k→k≤mid→∀ j,mid < j→j < d→A ys3 k≤A ys3 j:=fun k k1 k2 j g1 g2=>by
     have:=j3.hi j g1 g2
     by_cases ek:k = mid
     ·subst ek; exact this
     ·have:=j3.lo k k1 (by omega); omega
    refine Ok.bind (ih (by omega) ys3 (mid + 1) d lim2 (by omega) (by omega) (by omega) (by omega) (fun g0 k g1 g2=>sm mid m1 (Nat.le_refl _) k (by omega) g2)) (fun zs hz=>?_)
    obtain ⟨r4,so4⟩:=hz
    have s4:=s3.rp (r4.mono (by omega:c≤mid + 1) (Nat.le_refl _)) h1 h3 (by omega)
    refine Ok.some (.inl ⟨_,rfl,⟨c,mid,rfl,rfl,h1,m1,by omega,t3.trans (r4.mono (by omega) h3),?_⟩,by dsimp only; omega⟩)
    intro i j g1 g2 g3 g4
    dsimp only at g4 ⊢
    by_cases e:i < c∨d≤j
    ·exact s4 i j g1 g2 g3 e
    ·by_cases ei:mid < i
     ·exact so4 i j ei g2 (by omega)
     ·rw [r4.out i (.inl (by omega))]
      by_cases ej:j = mid
      ·subst ej
       rw [r4.out j (.inl (by omega))]
       exact j3.lo i (by omega) (by omega)
      ·exact r4.all (p:=fun x=>A ys3 i≤x) (by omega) (fun k k1 k2=>sm i (by omega) (by omega) k (by omega) k2) j (by omega) (by omega)) NN ((a:Int),(b:Int),l,true,true,xs) ⟨a,b,rfl,rfl,Nat.le_refl _,hab,Nat.le_refl _,RP.refl _ _ _,fun i j g1 g2 g3 g4=>by omega⟩ (by rw [CN]; dsimp only; omega)
 obtain ⟨o,k1,s,rfl,k2,k3⟩:=hmain
 unfold LE
 rw [k1]
 exact ⟨_,rfl,k2,k3⟩
theorem Ys (n:Nat):∀ (xs:List Int) (a b:Nat) (l:Int),a≤b→b - a < 2 ^ (n + 3)→b≤xs.length→xs.length < 50→(a > 0→∀ k,a≤k→k < b→A xs (a - 1)≤A xs k)→Ok (fun ys=>RP xs ys a b∧SO ys a b) (LF (n + 1) xs a b l):=by
 induction n with
 | zero=>intro xs a b l h1 h2 h3 h4 h5; exact SY _ (b - a) (fun h=>by simp at h2; omega) h1 (Nat.le_refl _) h3 h4 h5
 | succ n ih=>
  intro xs a b l h1 h2 h3 h4 h5
  refine SY _ (b - a) (fun h xs' a' b' l' g1 g2 g3 g4 g5=>ih xs' a' b' l' g1 ?_ g3 g4 g5) h1 (Nat.le_refl _) h3 h4 h5
  have:2 ^ (n + 1 + 3) = 2 * 2 ^ (n + 3):=by rw [show n + 1 + 3 = (n + 3) + 1 by omega,Nat.pow_succ]; omega
  omega
noncomputable def blT (n:Nat):Bool:=(Rh (wi .u64 (n:Int))).isSome
theorem Wt:∀ n:Fin 50,blT n.val = true:=by decide +kernel
theorem Vj {xs:List Int} (h:xs.length < 50):∃ ys,m93 xs = some ys∧ys.Perm xs∧ys.Pairwise (·≤·):=by
 unfold m93
 have hb:=Wt ⟨xs.length,h⟩
 unfold blT at hb
 obtain ⟨y,hy⟩:=Option.isSome_iff_exists.1 hb
 rw [hy]
 obtain ⟨ys,k1,k2,k3⟩:=Ys 63 xs 0 xs.length y (Nat.zero_le _) (by rw [show (2:Nat) ^ (63 + 3) = 73786976294838206464 by decide +kernel]; omega) (Nat.le_refl _) h (fun h=>by omega)
 refine ⟨ys,?_,k2.perm,?_⟩
 ·simp only [obs]
  rw [show (0:Int) = ((0:Nat):Int) from rfl,k1]
  rfl
 ·rw [List.pairwise_iff_getElem]
  intro i j hi hj hij
  have:=k3 i j (Nat.zero_le _) hij (by rw [← k2.len]; exact hj)
  rwa [DD (by omega),DD (by omega)] at this
open Go Go.Rf
theorem W5 {xs:List Int} {k:Nat} (hk:1≤k) (hkn:k < xs.length) (hl:xs.length≤1099511627776) (hal:Dl (xs.take (k + 1)) = xs.take k) :
  ∃ (i:Nat) (ys:List Int),Aq (GT (k:Int) (xs.length:Int)) NN ((k:Int),1,xs) = some (.exit 2 ((i:Int),((xs.length - k:Nat):Int),ys))∧i≤xs.length∧ys.length = xs.length∧ys.take i = Dl xs:=by
 have h:=BL (f:=GT (k:Int) (xs.length:Int)) (fun q s=>∃ (i:Nat) (ys:List Int),s = ((i:Int),((q + 1:Nat):Int),ys)∧i≤k + q∧ys.length = xs.length∧(∀ j,i≤j→A ys j = A xs j)∧ys.take i = Dl (xs.take (k + q + 1))) (xs.length - k - 1)
  (fun o=>∃ (i:Nat) (ys:List Int),o = .exit 2 ((i:Int),((xs.length - k:Nat):Int),ys)∧i≤xs.length∧ys.length = xs.length∧ys.take i = Dl xs)
  (fun q s hq hs=>by
   obtain ⟨i,ys,rfl,h1,h2,h3,h4⟩:=hs
   unfold GT
   dsimp only
   by_cases hc:q + 1 < xs.length - k
   ·left
    have hc':((q + 1:Nat):Int) < (xs.length:Int) - (k:Int):=by omega
    have e1:wi .i64 (((q + 1:Nat):Int) - 1) = (q:Int):=by rw [Bi (by omega) (by omega)]; omega
    have v1:KO ys (k:Int) (xs.length:Int) ((q + 1:Nat):Int) = some (A xs (k + q + 1)):=by
     unfold KO
     rw [if_pos ⟨by omega,by omega⟩,show (k:Int) + ((q + 1:Nat):Int) = ((k + q + 1:Nat):Int) by omega,Bo (by omega),h3 _ (by omega)]
    have v2:KO ys (k:Int) (xs.length:Int) (q:Int) = some (A xs (k + q)):=by
     unfold KO
     rw [if_pos ⟨by omega,by omega⟩,show (k:Int) + (q:Int) = ((k + q:Nat):Int) by omega,Bo (by omega),h3 _ (by omega)]
    have g1:=Bo (xs:=ys) (i:=i) (by omega)
    have e2:=wi1 (n:=i) (by omega)
    have e3:=wi1 (n:=q + 1) (by omega)
    have hst:=JZ (xs:=xs) (i:=k + q + 1) (by omega) (by omega)
    rw [show k + q + 1 - 1 = k + q by omega] at hst
    simp only [hc',decide_true,cond_true,e1,v1,v2,g1,obs]
    refine ⟨by omega,?_⟩
    by_cases he:A xs (k + q + 1) = A xs (k + q)
    ·have he':(A xs (k + q + 1) != A xs (k + q)) = false:=by simp [he]
     rw [if_pos he.symm] at hst
     simp only [he',cond_false,obs,Ac,e3]
     exact ⟨_,rfl,i,ys,rfl,by omega,h2,h3,by rw [show k + (q + 1) + 1 = k + q + 1 + 1 by omega,hst]; exact h4⟩
    ·have he':(A xs (k + q + 1) != A xs (k + q)) = true:=by simp [he]
     rw [if_neg (fun q=>he q.symm)] at hst
     simp only [he',cond_true,obs,Ac,e2,e3]
     refine ⟨_,rfl,i + 1,ys.set i (A xs (k + q + 1)),rfl,by omega,by simp [h2],fun j hj=>?_,?_⟩
     ·rw [Kv (by omega),if_neg (by omega)]; exact h3 j (by omega)
     ·rw [show k + (q + 1) + 1 = k + q + 1 + 1 by omega,hst,Hq (by simp; omega),Kv (by omega),if_pos rfl,List.take_set_of_le (Nat.le_refl _),h4]
   ·right; left
    have hc':¬ ((q + 1:Nat):Int) < (xs.length:Int) - (k:Int):=by omega
    simp only [hc',decide_false,cond_false]
    have hq2:q + 1 = xs.length - k:=by omega
    refine ⟨2,_,rfl,i,ys,by rw [hq2],by omega,h2,?_⟩
    rw [h4,List.take_of_length_le (by omega)]) NN 0 ((k:Int),1,xs) (by omega) (by rw [CN]; omega) ⟨k,xs,rfl,by omega,rfl,fun _ _=>rfl,by rw [hal]⟩
 obtain ⟨o,h1,i,ys,rfl,h2⟩:=h
 exact ⟨i,ys,h1,h2⟩
theorem Yy {xs:List Int} (hl:xs.length≤1099511627776):Oz xs = some (Dl xs):=by
 unfold Oz
 by_cases h2:xs.length < 2
 ·have h2':(xs.length:Int) < 2:=by omega
  simp only [h2',decide_true,cond_true]
  match xs,h2 with
  | [],_=>rfl
  | [x],_=>rfl
  | _::_::_,h=>exact absurd h (by simp)
 have h2':¬ (xs.length:Int) < 2:=by omega
 simp only [h2',decide_false,cond_false]
 have h:=BL (f:=Is xs) (fun q s=>s = (none,((q + 1:Nat):Int))∧(∀ i,1≤i→i < q + 1→A xs i≠A xs (i - 1))) (xs.length - 1)
  (fun o=>(∃ k,o = .exit 0 (none,k)∧Dl xs = xs)∨(∃ k,o = .ret (some (Dl xs),k)))
  (fun q s hq hs=>by
   obtain ⟨rfl,ha⟩:=hs
   unfold Is
   dsimp only
   by_cases hc:q + 1 < xs.length
   ·have hc':((q + 1:Nat):Int) < (xs.length:Int):=by omega
    have e1:wi .i64 (((q + 1:Nat):Int) - 1) = (q:Int):=by rw [Bi (by omega) (by omega)]; omega
    have g1:=Bo (xs:=xs) (i:=q + 1) (by omega)
    have g2:=Bo (xs:=xs) (i:=q) (by omega)
    have e3:=wi1 (n:=q + 1) (by omega)
    simp only [hc',decide_true,cond_true,e1,g1,g2,obs]
    by_cases he:A xs (q + 1) = A xs q
    ·right; right
     have he':(A xs (q + 1) == A xs q) = true:=by simp [he]
     have hal:Dl (xs.take (q + 1 + 1)) = xs.take (q + 1):=by
      rw [JZ (by omega) (by omega),Nat.add_sub_cancel,if_pos he.symm]
      refine Gy _ (fun i h1 h2=>?_)
      simp only [List.length_take] at h2
      have:=ha i h1 (by omega)
      rw [show ∀ j,j < q + 1→A (xs.take (q + 1)) j = A xs j from fun j hj=>by simp [A,hj],show A (xs.take (q + 1)) (i - 1) = A xs (i - 1) from by simp [A,show i - 1 < q + 1 by omega]]
      ·exact this
      ·omega
     obtain ⟨i,ys,k1,k2,k3,k4⟩:=W5 (xs:=xs) (k:=q + 1) (by omega) hc hl hal
     have v1:viO xs.length ((q + 1:Nat):Int) (xs.length:Int) = some ():=by unfold viO; rw [if_pos ⟨by omega,by omega,by omega⟩]
     have v2:viO ys.length (i:Int) (ys.length:Int) = some ():=by unfold viO; rw [if_pos ⟨by omega,by omega,by omega⟩]
     have hcl:(clr ys (i:Int)).length = ys.length:=by simp [clr]; omega
     have v3:viO (clr ys (i:Int)).length 0 (i:Int) = some ():=by unfold viO; rw [if_pos ⟨by omega,by omega,by omega⟩]
     simp only [he',cond_true,v1,k1,obs,Ac,if_true,v2,v3]
     refine ⟨_,rfl,.inr ⟨(i:Int),?_⟩⟩
     have:(clr ys (i:Int)).take (i:Int).toNat = Dl xs:=by
      rw [← k4]
      simp only [clr,Int.toNat_natCast]
      rw [List.take_append_of_le_length (by simp; omega),List.take_take,Nat.min_self]
     rw [this]
    ·left
     have he':(A xs (q + 1) == A xs q) = false:=by simp [he]
     simp only [he',cond_false,e3]
     refine ⟨by omega,_,rfl,rfl,fun i h1 h2=>?_⟩
     by_cases e:i = q + 1
     ·subst e; exact he
     ·exact ha i h1 (by omega)
   ·right; left
    have hc':¬ ((q + 1:Nat):Int) < (xs.length:Int):=by omega
    simp only [hc',decide_false,cond_false]
    exact ⟨0,_,rfl,.inl ⟨_,rfl,Gy xs (fun i h1 h2=>ha i h1 (by omega))⟩⟩) NN 0 (none,1) (by omega) (by rw [CN]; omega) ⟨rfl,fun i h1 h2=>by omega⟩
 obtain ⟨o,h1,h2⟩:=h
 rcases h2 with ⟨k,rfl,h3⟩ | ⟨k,rfl⟩
 ·rw [h1]
  simp only [obs,Ac,if_true,h3]
 ·rw [h1]; rfl
end Go.Proofs.YtgjljhchmokhfaaGreat
