/- What is needed of the other laws. -/
import Derived.Test.YthbiabieiopobaaGreatDoorW3
import Derived.Test.YthbiabieiopobaaGreatDoorRh3
import Derived.Test.YthbiabieiopobaaGreatDoorRh5
import Derived.Test.YthbiabieiopobaaGreatDoorRh6
import Derived.Test.YthbiabieiopobaaGreatDoorRh10
namespace Go.Proofs.YthbiabieiopobaaGreatDoor
theorem obs {α β:Type} {x:α} {f:α→Option β}:(some x).bind f = f x:=rfl
open Go Go.Rf
set_option linter.unusedVariables false
set_option linter.unusedSimpArgs false
theorem aL (x y:Int):Wg x y = some (decide (x < y)):=by
 unfold Wg VZ
 simp [Ak]
theorem wiS {n:Nat} (h0:0 < n) (h:n≤1099511627776):wi .i64 ((n:Int) - 1) = ((n - 1:Nat):Int):=by
 rw [DV (by omega) (by omega)]; omega
theorem wiA {n:Nat} (h:n≤1099511627776):wi .i64 ((n:Int) + 1) = ((n + 1:Nat):Int):=by
 rw [DV (by omega) (by omega)]; omega
theorem IS0 {a j:Nat} {ys:List Int} (haj:a≤j) (hj:j < ys.length) (hl:ys.length≤1099511627776) :
  HU (a:Int) ((j:Int),ys) = if a < j∧A ys j < A ys (j - 1) then some (.norm (((j - 1:Nat):Int),sw ys j (j - 1))) else some (.exit 2 ((j:Int),ys)):=by
 unfold HU
 by_cases h1:a < j
 ·have e1:=wiS (n:=j) (by omega) (by omega)
  have g1:=O4 hj
  have g2:=O4 (xs:=ys) (i:=j - 1) (by omega)
  by_cases h2:A ys j < A ys (j - 1)
  ·have g3:Av (ys.set (Int.toNat (j:Int)) (A ys (j - 1))) ((j - 1:Nat):Int) = some (A ys (j - 1)):=by
    rw [O4 (by simp; omega),MN (by simpa using hj),if_neg (by omega)]
   simp only [gt_iff_lt,Int.ofNat_lt,h1,decide_true,cond_true,g1,e1,g2,g3,obs,aL,h2,Ak,and_self,if_true]
   rfl
  ·simp [h1,h2,g1,g2,e1,aL,Ak]
 ·have:¬ ((j:Int) > (a:Int)):=by omega
  simp [h1,this,Ak]
def Hole (ys:List Int) (a j i:Nat):Prop:=∀ p q,a≤p→p < q→q≤i→q≠j→A ys p≤A ys q
theorem XB {a i:Nat} {ys:List Int} (hai:a≤i) (hi:i < ys.length) (hl:ys.length≤1099511627776) (hs:SO ys a i) (n:Nat) (hn:i < n) :
  ∃ s':Int×List Int,AB (HU (a:Int)) n ((i:Int),ys) = some (.exit 2 s')∧RP ys s'.2 a (i + 1)∧SO s'.2 a (i + 1):=by
 refine KJ (fun s:Int×List Int=>∃ j:Nat,s.1 = j∧a≤j∧j≤i∧RP ys s.2 a (i + 1)∧Hole s.2 a j i) (fun s:Int×List Int=>s.1.toNat) (fun s:Int×List Int=>RP ys s.2 a (i + 1)∧SO s.2 a (i + 1)) 2 (fun s hs=>?_) n _ ⟨i,rfl,hai,Nat.le_refl _,RP.refl _ _ _,fun p q h1 h2 h3 h4=>hs p q h1 h2 (by omega)⟩ (by simpa using hn)
 obtain ⟨z,zs⟩:=s
 obtain ⟨j,rfl,h1,h2,h3,h4⟩:=hs
 dsimp only at h3 h4 ⊢
 have hlen:=h3.len
 rw [IS0 h1 (by omega) (by omega)]
 by_cases hc:a < j∧A zs j < A zs (j - 1)
 ·rw [if_pos hc]
  refine .inl ⟨_,rfl,⟨j - 1,rfl,by omega,by omega,h3.trans (RP.sw (by omega) (by omega) (by omega)),fun p q g1 g2 g3 g4=>?_⟩,by simp; omega⟩
  rw [f8 (by omega) (by omega),f8 (by omega) (by omega)]
  have k1:=h4 p (j - 1)
  have k2:=h4 (j - 1) q
  have k3:=h4 j q
  have k4:=h4 p q
  repeat' split
  all_goals first | omega | (exfalso; omega) | (have:=k1 (by omega) (by omega) (by omega) (by omega); omega) | (have:=k2 (by omega) (by omega) (by omega) (by omega); omega) | (have:=k3 (by omega) (by omega) (by omega) (by omega); omega) | exact k4 (by omega) (by omega) (by omega) (by omega)
 ·rw [if_neg hc]
  refine .inr ⟨_,rfl,h3,fun p q g1 g2 g3=>?_⟩
  show A zs p≤A zs q
  by_cases e:q = j
  ·subst e
   have h5:A zs (q - 1)≤A zs q:=by
    by_cases hq:A zs q < A zs (q - 1)
    ·exact absurd ⟨by omega,hq⟩ hc
    ·omega
   by_cases e2:p = q - 1
   ·subst e2; exact h5
   ·have:=h4 p (q - 1) g1 (by omega) (by omega) (by omega)
    omega
  ·exact h4 p q g1 g2 (by omega) e
theorem MM:NN = 9223372036854775808:=by unfold NN maxLen; rfl
theorem IS1 {a b:Nat} {xs:List Int} (hab:a≤b) (hb:b≤xs.length) (hl:xs.length≤1099511627776) (s:Int×List Int)
  (hs:∃ i:Nat,s.1 = i∧a < i∧(i≤b∨i = a + 1)∧RP xs s.2 a b∧SO s.2 a i) :
  (∃ s',HT (a:Int) (b:Int) s = some (.norm s')∧(∃ i:Nat,s'.1 = i∧a < i∧(i≤b∨i = a + 1)∧RP xs s'.2 a b∧SO s'.2 a i)∧b + 2 - s'.1.toNat < b + 2 - s.1.toNat)∨(∃ s',HT (a:Int) (b:Int) s = some (.exit 0 s')∧RP xs s'.2 a b∧SO s'.2 a b):=by
 obtain ⟨z,zs⟩:=s
 obtain ⟨i,rfl,h1,h2,h3,h4⟩:=hs
 dsimp only at h3 h4 ⊢
 have hlen:=h3.len
 unfold HT
 by_cases hc:i < b
 ·have hc':((i:Nat):Int) < (b:Int):=by omega
  obtain ⟨s',k1,k2,k3⟩:=XB (a:=a) (i:=i) (ys:=zs) (by omega) (by omega) (by omega) h4 NN (by rw [MM]; omega)
  simp only [hc',decide_true,cond_true,k1,obs,Ak,if_true]
  rw [wiA (by omega)]
  exact .inl ⟨_,rfl,⟨i + 1,rfl,by omega,by omega,h3.trans (k2.mono (by omega) (by omega)),k3⟩,by simp; omega⟩
 ·have hc':¬ ((i:Nat):Int) < (b:Int):=by omega
  simp only [hc',decide_false,cond_false]
  exact .inr ⟨_,rfl,h3,fun p q g1 g2 g3=>h4 p q g1 g2 (by omega)⟩
theorem oG {a b:Nat} {xs:List Int} (hab:a≤b) (hb:b≤xs.length) (hl:xs.length≤1099511627776):∃ ys,PV xs a b = some ys∧RP xs ys a b∧SO ys a b:=by
 unfold PV
 rw [wiA (by omega)]
 obtain ⟨s',h1,h2,h3⟩:=KJ (fun s:Int×List Int=>∃ i:Nat,s.1 = i∧a < i∧(i≤b∨i = a + 1)∧RP xs s.2 a b∧SO s.2 a i) (fun s:Int×List Int=>b + 2 - s.1.toNat) (fun s=>RP xs s.2 a b∧SO s.2 a b) 0 (IS1 hab hb hl) NN (((a + 1:Nat):Int),xs)
  ⟨a + 1,rfl,by omega,.inr rfl,RP.refl _ _ _,fun p q h1 h2 h3=>by omega⟩ (by rw [MM]; omega)
 rw [h1]
 exact ⟨s'.2,by simp [Ak],h2,h3⟩
noncomputable def blT (n:Nat):Bool:=(Y2 (wi .u64 (n:Int))).isSome
theorem fB:∀ n:Fin 13,blT n.val = true:=by decide +kernel
theorem PD12 {xs:List Int} (h:xs.length≤12) (n:Nat) (l:Int):∃ ys,PW (n + 1) xs 0 (xs.length:Int) l = some ys∧RP xs ys 0 xs.length∧SO ys 0 xs.length:=by
 obtain ⟨ys,k1,k2,k3⟩:=oG (a:=0) (b:=xs.length) (xs:=xs) (Nat.zero_le _) (Nat.le_refl _) (by omega)
 refine ⟨ys,?_,k2,k3⟩
 show Ou (PW n) xs 0 (xs.length:Int) l = _
 unfold Ou
 have e1:wi .i64 ((xs.length:Int) - 0) = (xs.length:Int):=by rw [DV (by omega) (by omega)]; omega
 have e2:(xs.length:Int)≤12:=by omega
 have k1:PV xs 0 (xs.length:Int) = some ys:=k1
 have step:Jw (0,(xs.length:Int),l,true,true,xs) = some (.ret (0,(xs.length:Int),l,true,true,ys)):=by
  unfold Jw
  simp only [e1,e2,decide_true,cond_true,k1,obs]
 rw [GO (by rw [MM]; omega) step rfl]
 rfl
theorem aK {xs:List Int} (h:xs.length≤12):∃ ys,Ox xs = some ys∧ys.Perm xs∧ys.Pairwise (·≤·):=by
 unfold Ox
 have hb:=fB ⟨xs.length,by omega⟩
 unfold blT at hb
 obtain ⟨y,hy⟩:=Option.isSome_iff_exists.1 hb
 rw [hy]
 obtain ⟨ys,k1,k2,k3⟩:=PD12 h 63 y
 refine ⟨ys,?_,k2.perm,?_⟩
 ·simp only [obs,k1]
 ·rw [List.pairwise_iff_getElem]
  intro i j hi hj hij
  have:=k3 i j (Nat.zero_le _) hij (by rw [← k2.len]; exact hj)
  rwa [EK (by omega),EK (by omega)] at this
theorem fZ {xs:List Int} {k:Nat} (hk:1≤k) (hkn:k < xs.length) (hl:xs.length≤1099511627776) (hal:Es (xs.take (k + 1)) = xs.take k) :
  ∃ (i:Nat) (ys:List Int),AB (HV (k:Int) (xs.length:Int)) NN ((k:Int),1,xs) = some (.exit 2 ((i:Int),((xs.length - k:Nat):Int),ys))∧i≤xs.length∧ys.length = xs.length∧ys.take i = Es xs:=by
 have h:=Ep (f:=HV (k:Int) (xs.length:Int)) (fun q s=>∃ (i:Nat) (ys:List Int),s = ((i:Int),((q + 1:Nat):Int),ys)∧i≤k + q∧ys.length = xs.length∧(∀ j,i≤j→A ys j = A xs j)∧ys.take i = Es (xs.take (k + q + 1))) (xs.length - k - 1)
  (fun o=>∃ (i:Nat) (ys:List Int),o = .exit 2 ((i:Int),((xs.length - k:Nat):Int),ys)∧i≤xs.length∧ys.length = xs.length∧ys.take i = Es xs)
  (fun q s hq hs=>by
   obtain ⟨i,ys,rfl,h1,h2,h3,h4⟩:=hs
   unfold HV
   dsimp only
   by_cases hc:q + 1 < xs.length - k
   ·left
    have hc':((q + 1:Nat):Int) < (xs.length:Int) - (k:Int):=by omega
    have e1:wi .i64 (((q + 1:Nat):Int) - 1) = (q:Int):=by rw [DV (by omega) (by omega)]; omega
    have v1:Ny ys (k:Int) (xs.length:Int) ((q + 1:Nat):Int) = some (A xs (k + q + 1)):=by
     unfold Ny
     rw [if_pos ⟨by omega,by omega⟩,show (k:Int) + ((q + 1:Nat):Int) = ((k + q + 1:Nat):Int) by omega,O4 (by omega),h3 _ (by omega)]
    have v2:Ny ys (k:Int) (xs.length:Int) (q:Int) = some (A xs (k + q)):=by
     unfold Ny
     rw [if_pos ⟨by omega,by omega⟩,show (k:Int) + (q:Int) = ((k + q:Nat):Int) by omega,O4 (by omega),h3 _ (by omega)]
    have g1:=O4 (xs:=ys) (i:=i) (by omega)
    have e2:=wi1 (n:=i) (by omega)
    have e3:=wi1 (n:=q + 1) (by omega)
    have hst:=MC (xs:=xs) (i:=k + q + 1) (by omega) (by omega)
    rw [show k + q + 1 - 1 = k + q by omega] at hst
    simp only [hc',decide_true,cond_true,e1,v1,v2,g1,obs]
    refine ⟨by omega,?_⟩
    by_cases he:A xs (k + q + 1) = A xs (k + q)
    ·have he':(A xs (k + q + 1) != A xs (k + q)) = false:=by simp [he]
     rw [if_pos he.symm] at hst
     simp only [he',cond_false,obs,Ak,e3]
     exact ⟨_,rfl,i,ys,rfl,by omega,h2,h3,by rw [show k + (q + 1) + 1 = k + q + 1 + 1 by omega,hst]; exact h4⟩
    ·have he':(A xs (k + q + 1) != A xs (k + q)) = true:=by simp [he]
     rw [if_neg (fun q=>he q.symm)] at hst
     simp only [he',cond_true,obs,Ak,e2,e3]
     refine ⟨_,rfl,i + 1,ys.set i (A xs (k + q + 1)),rfl,by omega,by simp [h2],fun j hj=>?_,?_⟩
     ·rw [MN (by omega),if_neg (by omega)]; exact h3 j (by omega)
     ·rw [show k + (q + 1) + 1 = k + q + 1 + 1 by omega,hst,Iy (by simp; omega),MN (by omega),if_pos rfl,List.take_set_of_le (Nat.le_refl _),h4]
   ·right; left
    have hc':¬ ((q + 1:Nat):Int) < (xs.length:Int) - (k:Int):=by omega
    simp only [hc',decide_false,cond_false]
    have hq2:q + 1 = xs.length - k:=by omega
    refine ⟨2,_,rfl,i,ys,by rw [hq2],by omega,h2,?_⟩
    rw [h4,List.take_of_length_le (by omega)]) NN 0 ((k:Int),1,xs) (by omega) (by rw [MM]; omega) ⟨k,xs,rfl,by omega,rfl,fun _ _=>rfl,by rw [hal]⟩
 obtain ⟨o,h1,i,ys,rfl,h2⟩:=h
 exact ⟨i,ys,h1,h2⟩
theorem oH {xs:List Int} (hl:xs.length≤1099511627776):To xs = some (Es xs):=by
 unfold To
 by_cases h2:xs.length < 2
 ·have h2':(xs.length:Int) < 2:=by omega
  simp only [h2',decide_true,cond_true]
  match xs,h2 with
  | [],_=>rfl
  | [x],_=>rfl
  | _::_::_,h=>exact absurd h (by simp)
 have h2':¬ (xs.length:Int) < 2:=by omega
 simp only [h2',decide_false,cond_false]
 have h:=Ep (f:=Jv xs) (fun q s=>s = (none,((q + 1:Nat):Int))∧(∀ i,1≤i→i < q + 1→A xs i≠A xs (i - 1))) (xs.length - 1)
  (fun o=>(∃ k,o = .exit 0 (none,k)∧Es xs = xs)∨(∃ k,o = .ret (some (Es xs),k)))
  (fun q s hq hs=>by
   obtain ⟨rfl,ha⟩:=hs
   unfold Jv
   dsimp only
   by_cases hc:q + 1 < xs.length
   ·have hc':((q + 1:Nat):Int) < (xs.length:Int):=by omega
    have e1:wi .i64 (((q + 1:Nat):Int) - 1) = (q:Int):=by rw [DV (by omega) (by omega)]; omega
    have g1:=O4 (xs:=xs) (i:=q + 1) (by omega)
    have g2:=O4 (xs:=xs) (i:=q) (by omega)
    have e3:=wi1 (n:=q + 1) (by omega)
    simp only [hc',decide_true,cond_true,e1,g1,g2,obs]
    by_cases he:A xs (q + 1) = A xs q
    ·right; right
     have he':(A xs (q + 1) == A xs q) = true:=by simp [he]
     have hal:Es (xs.take (q + 1 + 1)) = xs.take (q + 1):=by
      rw [MC (by omega) (by omega),Nat.add_sub_cancel,if_pos he.symm]
      refine H8 _ (fun i h1 h2=>?_)
      simp only [List.length_take] at h2
      have:=ha i h1 (by omega)
      rw [show ∀ j,j < q + 1→A (xs.take (q + 1)) j = A xs j from fun j hj=>by simp [A,hj],show A (xs.take (q + 1)) (i - 1) = A xs (i - 1) from by simp [A,show i - 1 < q + 1 by omega]]
      ·exact this
      ·omega
     obtain ⟨i,ys,k1,k2,k3,k4⟩:=fZ (xs:=xs) (k:=q + 1) (by omega) hc hl hal
     have v1:viO xs.length ((q + 1:Nat):Int) (xs.length:Int) = some ():=by unfold viO; rw [if_pos ⟨by omega,by omega,by omega⟩]
     have v2:viO ys.length (i:Int) (ys.length:Int) = some ():=by unfold viO; rw [if_pos ⟨by omega,by omega,by omega⟩]
     have hcl:(clr ys (i:Int)).length = ys.length:=by simp [clr]; omega
     have v3:viO (clr ys (i:Int)).length 0 (i:Int) = some ():=by unfold viO; rw [if_pos ⟨by omega,by omega,by omega⟩]
     simp only [he',cond_true,v1,k1,obs,Ak,if_true,v2,v3]
     refine ⟨_,rfl,.inr ⟨(i:Int),?_⟩⟩
     have:(clr ys (i:Int)).take (i:Int).toNat = Es xs:=by
      rw [← k4]
      simp only [clr,Int.toNat_natCast]
      rw [List.take_append_of_le_length (by simp; omega),List.take_take,Nat.min_self]
     rw [this]
    ·left
     have he':(A xs (q + 1) == A xs q) = false:=by simp [he]
     simp only [he',cond_false,e3]
     refine ⟨by omega,_,rfl,rfl,fun i h1 h2=>?_⟩
     by_cases e:i = q + 1
     ·subst e; exact he
     ·exact ha i h1 (by omega)
   ·right; left
    have hc':¬ ((q + 1:Nat):Int) < (xs.length:Int):=by omega
    simp only [hc',decide_false,cond_false]
    exact ⟨0,_,rfl,.inl ⟨_,rfl,H8 xs (fun i h1 h2=>ha i h1 (by omega))⟩⟩) NN 0 (none,1) (by omega) (by rw [MM]; omega) ⟨rfl,fun i h1 h2=>by omega⟩
 obtain ⟨o,h1,h2⟩:=h
 rcases h2 with ⟨k,rfl,h3⟩ | ⟨k,rfl⟩
 ·rw [h1]
  simp only [obs,Ak,if_true,h3]
 ·rw [h1]; rfl
theorem CH {n:Nat} (h:n≤1048576):n < NN:=by rw [MM]; omega
def Bz (m:Ai):Prop:=m.Certs.length≤1048576∧m.Refs.length≤1048576
noncomputable def Ds (r:Ag):Int:=(m49 r).getD 0
def If (r:Ag):Prop:=r.Ops.length≤1048576∧m49 r = some (Ds r)
structure F5 (c:Ab):Prop where
 bad:c.Bad.length≤1048576
 rep:c.Replicas.length≤1048576
 led:c.Ledger.length≤1048576
 msg:∀ m∈c.Ledger,Bz m
 req:c.Requests.length≤1048576
 ops:∀ r∈c.Requests,If r
theorem Dv {n:Nat} (h:n≤1048576):n≤big:=by unfold big; omega
def inR (n lo hi:Int):Bool:=decide (lo≤n∧n≤hi)
theorem in1 (n lo hi:Int):m56 n lo hi = inR n lo hi:=by
 unfold m56 inR
 by_cases h:n ≥ lo
 ·simp [h]
 ·simp [h]
theorem in2 (n lo hi:Int):m56 n lo hi = inR n lo hi:=in1 n lo hi
theorem JB (k:Int):T9 k = inR k 1 3:=in1 _ _ _
theorem Jr (k:Int):m80 k = inR k 0 20:=in1 _ _ _
theorem HG (k:Int):m94 k = inR k 1 30:=in1 _ _ _
theorem Gw (k:Int):m95 k = inR k 0 12:=in1 _ _ _
def CG (f:Int):Int:=wi .i64 ((wi .i64 (3 * f)) + 1)
theorem Ys (f:Int):m57 f = CG f:=rfl
theorem Jt (f k:Int):m78 f k = inR k 1 (CG f):=in1 _ _ _
theorem Ux (a b c d e f g h:Bool):(bif !a then
    some (LO.norm true)
   else
    bif !b then
     bif c then
      some (LO.norm true)
     else
      bif d then
       some (LO.norm true)
      else
       bif e then
        bif f then
         some (LO.norm true)
        else
         bif g then
          some (LO.norm h)
         else
          some (LO.norm false)
       else
        bif g then
         some (LO.norm h)
        else
         some (LO.norm false)
    else
     bif e then
      bif f then
       some (LO.norm true)
      else
       bif g then
        some (LO.norm h)
       else
        some (LO.norm false)
     else
      bif g then
       some (LO.norm h)
      else
       some (LO.norm false)) = some (LO.norm (!((a && (b || (!c && !d))) && ((!e || !f) && (!g || !h))))):=by
 cases a <;> cases b <;> cases c <;> cases d <;> cases e <;> cases f <;> cases g <;> cases h <;> rfl
theorem bY (a b c d e:Bool):(bif !a then
      some (LO.norm true)
     else
      bif !b then
       some (LO.norm true)
      else
       bif c then
        bif !d then
         some (LO.norm true)
        else
         some (LO.norm (!e))
       else
        some (LO.norm false)) = some (LO.norm (!a || (!b || (c && (!d || !e))))):=by
 cases a <;> cases b <;> cases c <;> cases d <;> cases e <;> rfl
theorem QG (a b c:Bool):(bif !a then
     some (LO.norm true)
    else
     bif !b then
      some (LO.norm true)
     else
      some (LO.norm (!c))) = some (LO.norm (!a || (!b || !c))):=by
 cases a <;> cases b <;> cases c <;> rfl
def Is (m:Ai):Bool:=(inR m.Kind 1 5 && (inR m.Kind 1 3 || ((m.Slot == 0) && (m.Value == 0)))) && (((m.Kind == 4) || ((m.Certs.length:Int) == 0)) && ((m.Kind == 5) || ((m.Refs.length:Int) == 0)))
def ET (f:Int) (m:Ai):Bool:=!inR m.View 0 20 || (!inR m.From 1 (CG f) || (inR m.Kind 1 3 && (!inR m.Slot 1 30 || !inR m.Value 0 12)))
def F3 (v:Int) (c:AP):Bool:=!inR c.Slot 1 30 || (!inR c.View 0 (wi .i64 (v - 1)) || !inR c.Value 0 12)
def Gq (xs:List Int) (i:Nat):Bool:=decide (0 < i) && decide (A xs i≤A xs (i - 1))
def FG (xs:List Int):Bool:=(DY (Gq xs) xs.length).isNone
def Ho (r:Int):Bool:=!inR r 0 239
noncomputable def CX (f:Int) (m:Ai):Int:=bif Is m then bif ET f m then 3 else bif decide ((m.Certs.length:Int) > 30) then 2 else bif decide ((m.Refs.length:Int) > CG f) then 2 else bif FG (m.Certs.map (·.Slot)) then bif FG m.Refs then bif m.Certs.any (F3 m.View) then 3 else bif m.Refs.any Ho then 3 else 0 else 1 else 1 else 1
theorem SA {α:Type} {g:α→Int} {cs:List α} {i:Nat} (h:i < cs.length):A (cs.map g) i = g cs[i]:=by simp [A,h]
theorem GF {i:Nat} (h0:0 < i) (h:i≤big):wi .i64 ((i:Int) - 1) = ((i - 1:Nat):Int):=by
 unfold big at h
 rw [DV (by omega) (by omega)]; omega
theorem Oi {β:Type} {x:Option Nat} {out:Nat→β} {fin:β} (h:x.isNone = true):orF x out fin = fin:=by
 cases x
 ·rfl
 ·cases h
theorem Oh {β:Type} {x:Option Nat} {out:Nat→β} {fin:β} (h:x.isNone = false):∃ i,orF x out fin = out i:=by
 cases x
 ·cases h
 ·exact ⟨_,rfl⟩
theorem cI (m:Ai) (hg:Bz m) (s:Int):∃ j,AB (Hu m) NN (s,0) = some (bif FG (m.Certs.map (·.Slot)) then .exit 1 (s,j) else .ret (1,j)):=by
 rw [CM (f:=Hu m) (s0:=(s,0)) (fun i=>(s,(i:Int))) m.Certs.length (Gq (m.Certs.map (·.Slot))) (fun i=>.ret (1,(i:Int))) (.exit 1 (s,(m.Certs.length:Int))) (fun i hi _ hp=>?_) (fun i hi _ hp=>?_) (fun _=>?_) (CH hg.1) rfl]
 ·unfold FG
  rw [List.length_map]
  cases h:(DY (Gq (m.Certs.map (·.Slot))) m.Certs.length).isNone
  ·obtain ⟨i,hi⟩:=Oh (out:=fun i=>LO.ret ((1:Int),(i:Int))) (fin:=.exit 1 (s,(m.Certs.length:Int))) h
   exact ⟨_,by rw [hi]; rfl⟩
  ·exact ⟨_,by rw [Oi h]; rfl⟩
 ·have hc':(i:Int) < (m.Certs.length:Int):=by omega
  have hb:i≤big:=Nat.le_trans (Nat.le_of_lt hi) (Dv hg.1)
  unfold Hu
  simp only [hc',decide_true,cond_true,BI hi,obs]
  by_cases h0:0 < i
  ·have h0':(i:Int) > 0:=by omega
   unfold Gq at hp
   rw [SA hi,SA (show i - 1 < m.Certs.length by omega),decide_eq_true h0,Bool.true_and] at hp
   simp only [h0',decide_true,cond_true,GF h0 hb,BI (show i - 1 < m.Certs.length by omega),obs,hp,cond_false,Ak,wi1 hb]
  ·have h0':¬ (i:Int) > 0:=by omega
   simp only [h0',decide_false,cond_false,obs,Ak,wi1 hb]
 ·have hc':(i:Int) < (m.Certs.length:Int):=by omega
  have hb:i≤big:=Nat.le_trans (Nat.le_of_lt hi) (Dv hg.1)
  unfold Hu
  unfold Gq at hp
  rw [Bool.and_eq_true,SA hi,SA (show i - 1 < m.Certs.length by omega)] at hp
  have h0:0 < i:=of_decide_eq_true hp.1
  have h0':(i:Int) > 0:=by omega
  simp only [hc',decide_true,cond_true,BI hi,obs,h0',GF h0 hb,BI (show i - 1 < m.Certs.length by omega),hp.2,Ak]
  exact ⟨trivial,rfl⟩
 ·unfold Hu
  simp only [Int.lt_irrefl,decide_false,cond_false]
  exact ⟨trivial,rfl⟩
theorem cH (m:Ai) (hg:Bz m) (s:Int):∃ j,AB (Ht m) NN (s,0) = some (bif FG m.Refs then .exit 3 (s,j) else .ret (1,j)):=by
 rw [CM (f:=Ht m) (s0:=(s,0)) (fun i=>(s,(i:Int))) m.Refs.length (Gq m.Refs) (fun i=>.ret (1,(i:Int))) (.exit 3 (s,(m.Refs.length:Int))) (fun i hi _ hp=>?_) (fun i hi _ hp=>?_) (fun _=>?_) (CH hg.2) rfl]
 ·unfold FG
  cases h:(DY (Gq m.Refs) m.Refs.length).isNone
  ·obtain ⟨i,hi⟩:=Oh (out:=fun i=>LO.ret ((1:Int),(i:Int))) (fin:=.exit 3 (s,(m.Refs.length:Int))) h
   exact ⟨_,by rw [hi]; rfl⟩
  ·exact ⟨_,by rw [Oi h]; rfl⟩
 ·have hc':(i:Int) < (m.Refs.length:Int):=by omega
  have hb:i≤big:=Nat.le_trans (Nat.le_of_lt hi) (Dv hg.2)
  unfold Ht
  simp only [hc',decide_true,cond_true,BI hi,obs]
  by_cases h0:0 < i
  ·have h0':(i:Int) > 0:=by omega
   unfold Gq at hp
   rw [EK hi,EK (show i - 1 < m.Refs.length by omega),decide_eq_true h0,Bool.true_and] at hp
   simp only [h0',decide_true,cond_true,GF h0 hb,BI (show i - 1 < m.Refs.length by omega),obs,hp,cond_false,Ak,wi1 hb]
  ·have h0':¬ (i:Int) > 0:=by omega
   simp only [h0',decide_false,cond_false,obs,Ak,wi1 hb]
 ·have hc':(i:Int) < (m.Refs.length:Int):=by omega
  have hb:i≤big:=Nat.le_trans (Nat.le_of_lt hi) (Dv hg.2)
  unfold Ht
  unfold Gq at hp
  rw [Bool.and_eq_true,EK hi,EK (show i - 1 < m.Refs.length by omega)] at hp
  have h0:0 < i:=of_decide_eq_true hp.1
  have h0':(i:Int) > 0:=by omega
  simp only [hc',decide_true,cond_true,BI hi,obs,h0',GF h0 hb,BI (show i - 1 < m.Refs.length by omega),hp.2,Ak]
  exact ⟨trivial,rfl⟩
 ·unfold Ht
  simp only [Int.lt_irrefl,decide_false,cond_false]
  exact ⟨trivial,rfl⟩
theorem kJ (m:Ai) (c:AP):Oy c m = some (F3 m.View c):=by
 unfold Oy
 rw [QG]
 simp only [HG,Gw,in2,obs,Ak]
 rfl
theorem JU (f:Int) (m:Ai) (hg:Bz m):m76 f m = some (CX f m):=by
 unfold m76 CX
 rw [Ux,bY]
 have hbare:(!((m56 m.Kind 1 5 && (T9 m.Kind || (!(m.Slot != 0) && !(m.Value != 0)))) && ((!(m.Kind != 4) || !decide ((m.Certs.length:Int) > 0)) && (!(m.Kind != 5) || !decide ((m.Refs.length:Int) > 0))))) = !Is m:=by
  have e1:∀ n:Nat,(!decide ((n:Int) > 0)) = ((n:Int) == 0):=fun n=>by
   cases n with
   | zero=>rfl
   | succ n=>
    have:((n + 1:Nat):Int) > 0:=by omega
    simp only [this,decide_true,Bool.not_true]
    symm
    simp; omega
  simp only [in2,JB,bne,Bool.not_not,e1]
  rfl
 rw [hbare]
 simp only [obs,Ak]
 cases hb:Is m
 ·rfl
 simp only [Bool.not_true,cond_false,cond_true,obs,Ak,Jr,Jt,JB,HG,Gw]
 rw [show (!inR m.View 0 20 || (!inR m.From 1 (CG f) || (inR m.Kind 1 3 && (!inR m.Slot 1 30 || !inR m.Value 0 12)))) = ET f m from rfl]
 cases hr:ET f m
 rotate_left
 ·rfl
 simp only [cond_false,obs,Ak]
 cases h1:decide ((m.Certs.length:Int) > 30)
 rotate_left
 ·rfl
 simp only [cond_false]
 cases h2:decide ((m.Refs.length:Int) > CG f)
 rotate_left
 ·have h2':decide ((m.Refs.length:Int) > m57 f) = true:=h2
  rw [h2']; rfl
 have h2':decide ((m.Refs.length:Int) > m57 f) = false:=h2
 simp only [h2',cond_false,obs,Ak]
 obtain ⟨j1,e1⟩:=cI m hg 0
 rw [e1]
 cases FG (m.Certs.map (·.Slot))
 ·rfl
 simp only [cond_true,obs,Ak,if_true]
 obtain ⟨j2,e2⟩:=cH m hg 0
 rw [e2]
 cases FG m.Refs
 ·rfl
 simp only [cond_true,obs,Ak,if_true]
 rw [show T8 m.Certs (fun x0_=>Oy x0_ m) = some (m.Certs.any (F3 m.View)) from IM (CH hg.1) (Dv hg.1) (fun x _=>kJ m x)]
 cases m.Certs.any (F3 m.View)
 rotate_left
 ·rfl
 simp only [cond_false,obs]
 rw [show T0 m.Refs (fun x0_=>some (Qb x0_)) = some (m.Refs.any Ho) from IM (CH hg.2) (Dv hg.2) (fun x _=>by unfold Qb; rw [in2]; rfl)]
 cases m.Refs.any Ho <;> rfl
def neC (x1 x2:AP):Bool:=!(((x1.Slot == x2.Slot) && ((x1.View == x2.View) && ((x1.Value == x2.Value) && true))))
theorem dB (a b:AP):neC a b = !decide (a = b):=by
 obtain ⟨a1,a2,a3⟩:=a
 obtain ⟨b1,b2,b3⟩:=b
 unfold neC
 congr 1
 rw [Bool.eq_iff_iff]
 simp
theorem c9 (a b:Int):(a != b) = !decide (a = b):=by
 rw [Bool.eq_iff_iff]; simp
theorem YM (xs ys:List AP) (h:xs.length≤1048576):Y3 xs ys = some (decide (xs = ys)):=aE (ne:=neC) dB (CH h) (Dv h)
theorem RO (xs ys:List Int) (h:xs.length≤1048576):m46 xs ys = some (decide (xs = ys)):=aE (ne:=fun a b=>a != b) c9 (CH h) (Dv h)
theorem Uw (a b c d e p q:Bool):(bif a then
   bif b then
    bif c then
     bif d then
      bif e then
       (some p).bind fun y1=>
       bif y1 then
        (some q).bind fun y2=>
        some (LO.norm y2)
       else
        some (LO.norm false)
      else
       some (LO.norm false)
     else
      some (LO.norm false)
    else
     some (LO.norm false)
   else
    some (LO.norm false)
  else
   some (LO.norm false)) = some (LO.norm (a && (b && (c && (d && (e && (p && q))))))):=by
 cases a <;> cases b <;> cases c <;> cases d <;> cases e <;> cases p <;> cases q <;> rfl
theorem dC (a b:Ai):decide (a = b) = ((a.Kind == b.Kind) && ((a.View == b.View) && ((a.From == b.From) && ((a.Slot == b.Slot) && ((a.Value == b.Value) && (decide (a.Certs = b.Certs) && decide (a.Refs = b.Refs))))))):=by
 obtain ⟨a1,a2,a3,a4,a5,a6,a7⟩:=a
 obtain ⟨b1,b2,b3,b4,b5,b6,b7⟩:=b
 rw [Bool.eq_iff_iff]
 simp
theorem SK (a b:Ai) (hg:Bz a):Wp a b = some (decide (a = b)):=by
 unfold Wp
 rw [YM _ _ hg.1,RO _ _ hg.2,Uw,dC]
 rfl
def atM (xs:List Ai) (m:Ai):Int:=ixI (DY (pAt (fun x=>decide (x = m)) xs) xs.length)
theorem J4 (xs:List Ai) (m:Ai) (h:xs.length≤1048576) (g:∀ x∈xs,Bz x):m73 xs m = some (atM xs m):=by
 unfold m73
 rw [show Wq xs (fun x0_=>Qc x0_ m) = some (atM xs m) from IK (CH h) (Dv h) (fun x hx=>by unfold Qc; rw [SK x m (g x hx)]; rfl)]
 rfl
def BM (k:Int) (m:Ai):Bool:=m.Refs.any fun r=>decide (r ≥ k)
theorem I4 (m:Ai) (k:Int) (hg:Bz m):m77 m k = some (!BM k m):=by
 unfold m77
 rw [show T0 m.Refs (fun x0_=>some (Tz x0_ k)) = some (BM k m) from IM (CH hg.2) (Dv hg.2) (fun x _=>rfl)]
 rfl
noncomputable def Gh (f:Int) (xs:List Ai) (i:Nat):Bool:=(xs[i]?).any fun x=>(CX f x != 0) || (BM i x || decide (x∈xs.take i))
noncomputable def Nr (f:Int) (xs:List Ai) (i:Nat):Int:=match xs[i]? with
 | some x=>bif CX f x != 0 then CX f x else bif BM i x then 4 else 6
 | none=>0
noncomputable def Io (f:Int) (xs:List Ai):Int:=bif !inR f 1 2 then 3 else bif decide ((xs.length:Int) > 240) then 2 else orF (DY (Gh f xs) xs.length) (Nr f xs) 0
theorem EY {f:Int} {xs:List Ai} {i:Nat} (h:i < xs.length):Gh f xs i = ((CX f xs[i] != 0) || (BM i xs[i] || decide (xs[i]∈xs.take i))):=by
 unfold Gh; rw [List.getElem?_eq_getElem h]; rfl
theorem Hz {f:Int} {xs:List Ai} {i:Nat} (h:i < xs.length):Nr f xs i = (bif CX f xs[i] != 0 then CX f xs[i] else bif BM i xs[i] then 4 else 6):=by
 unfold Nr; rw [List.getElem?_eq_getElem h]
theorem Gx {α:Type} {xs:List α} {i:Nat} (h:i≤xs.length):EL xs 0 (i:Int) = some (xs.take i):=by
 unfold EL
 rw [if_pos ⟨by omega,by omega,by omega⟩]
 simp
theorem OU {xs:List Ai} {i:Nat} (h:i < xs.length):decide (atM (xs.take i) xs[i] ≥ 0) = decide (xs[i]∈xs.take i):=by
 unfold atM
 rw [H2,Gi,Bool.eq_iff_iff]
 simp
theorem W2 (f:Int) (xs:List Ai) (h:xs.length≤1048576) (g:∀ x∈xs,Bz x):m44 f xs = some (Io f xs):=by
 unfold m44 Io
 rw [show m27 f = inR f 1 2 from in1 _ _ _]
 cases inR f 1 2
 ·rfl
 simp only [Bool.not_true,cond_false]
 cases decide ((xs.length:Int) > 240)
 rotate_left
 ·rfl
 simp only [cond_false]
 rw [CM (f:=IF f xs) (s0:=(0,0)) (fun i=>(0,(i:Int))) xs.length (Gh f xs) (fun i=>.ret (Nr f xs i,(i:Int))) (.exit 1 (0,(xs.length:Int))) (fun i hi _ hp=>?_) (fun i hi _ hp=>?_) (fun _=>?_) (CH h) rfl]
 ·cases DY (Gh f xs) xs.length <;> rfl
 ·have hc':(i:Int) < (xs.length:Int):=by omega
  have gi:=g _ (List.getElem_mem hi)
  rw [EY hi,Bool.or_eq_false_iff,Bool.or_eq_false_iff] at hp
  obtain ⟨p1,p2,p3⟩:=hp
  unfold IF
  simp only [hc',decide_true,cond_true,BI hi,obs,JU f _ gi,p1,cond_false,I4 _ _ gi,p2,Bool.not_false,Bool.not_true,Gx (Nat.le_of_lt hi),J4 (xs.take i) xs[i] (by rw [List.length_take]; omega) (fun x hx=>g x (List.mem_of_mem_take hx)),OU hi,p3,wi1 (show i≤1099511627776 by omega)]
 ·have hc':(i:Int) < (xs.length:Int):=by omega
  have gi:=g _ (List.getElem_mem hi)
  rw [EY hi] at hp
  rw [Hz hi]
  unfold IF
  simp only [hc',decide_true,cond_true,BI hi,obs,JU f _ gi,I4 _ _ gi,Gx (Nat.le_of_lt hi),J4 (xs.take i) xs[i] (by rw [List.length_take]; omega) (fun x hx=>g x (List.mem_of_mem_take hx)),OU hi]
  cases e1:CX f xs[i] != 0
  ·cases e2:BM i xs[i]
   ·rw [e1,e2,Bool.false_or,Bool.false_or] at hp
    rw [hp]
    exact ⟨rfl,rfl⟩
   ·exact ⟨rfl,rfl⟩
  ·exact ⟨rfl,rfl⟩
 ·unfold IF
  simp only [Int.lt_irrefl,decide_false,cond_false]
  exact ⟨trivial,rfl⟩
structure XA (f:Int) (m:Ai):Prop where
 kind:1≤m.Kind∧m.Kind≤5
 bare:4≤m.Kind→m.Slot = 0∧m.Value = 0
 certs0:m.Kind≠4→m.Certs = []
 refs0:m.Kind≠5→m.Refs = []
 view:0≤m.View∧m.View≤20
 frm:1≤m.From∧m.From≤CG f
 slot:m.Kind≤3→1≤m.Slot∧m.Slot≤30
 value:m.Kind≤3→0≤m.Value∧m.Value≤12
 certsl:m.Certs.length≤30
 refsl:(m.Refs.length:Int)≤CG f
 cert:∀ c∈m.Certs,(1≤c.Slot∧c.Slot≤30)∧(0≤c.View∧c.View≤m.View - 1)∧(0≤c.Value∧c.Value≤12)
 ref:∀ r∈m.Refs,0≤r∧r≤239
theorem BP {n lo hi:Int}:inR n lo hi = true ↔ lo≤n∧n≤hi:=by unfold inR; simp
theorem Xa {f:Int} {m:Ai} (h:CX f m = 0):XA f m:=by
 unfold CX at h
 cases hb:Is m
 ·rw [hb] at h; cases h
 cases hr:ET f m
 rotate_left
 ·rw [hb,hr] at h; cases h
 cases h1:decide ((m.Certs.length:Int) > 30)
 rotate_left
 ·rw [hb,hr,h1] at h; cases h
 cases h2:decide ((m.Refs.length:Int) > CG f)
 rotate_left
 ·rw [hb,hr,h1,h2] at h; cases h
 rw [hb,hr,h1,h2] at h
 simp only [cond_true,cond_false] at h
 cases h3:FG (m.Certs.map (·.Slot))
 ·rw [h3] at h; cases h
 cases h4:FG m.Refs
 ·rw [h3,h4] at h; cases h
 cases h5:m.Certs.any (F3 m.View)
 rotate_left
 ·rw [h3,h4,h5] at h; cases h
 cases h6:m.Refs.any Ho
 rotate_left
 ·rw [h3,h4,h5,h6] at h; cases h
 unfold Is at hb
 unfold ET at hr
 simp only [Bool.and_eq_true,Bool.or_eq_true,BP,beq_iff_eq] at hb
 simp only [Bool.or_eq_false_iff,Bool.not_eq_false',Bool.and_eq_false_imp,BP] at hr
 obtain ⟨⟨b1,b2⟩,b3,b4⟩:=hb
 obtain ⟨r1,r2,r3⟩:=hr
 rw [decide_eq_false_iff_not] at h1 h2
 rw [List.any_eq_false] at h5 h6
 refine ⟨b1,fun hk=>?_,fun hk=>?_,fun hk=>?_,r1,r2,fun hk=>(r3 ⟨b1.1,hk⟩).1,fun hk=>(r3 ⟨b1.1,hk⟩).2,by omega,by omega,fun c hc=>?_,fun r hr=>?_⟩
 ·rcases b2 with b2 | b2
  ·omega
  ·exact b2
 ·rcases b3 with b3 | b3
  ·exact absurd b3 hk
  ·exact List.eq_nil_of_length_eq_zero (by omega)
 ·rcases b4 with b4 | b4
  ·exact absurd b4 hk
  ·exact List.eq_nil_of_length_eq_zero (by omega)
 ·have:=h5 c hc
  unfold F3 at this
  simp only [Bool.not_eq_true,Bool.or_eq_false_iff,Bool.not_eq_false',BP] at this
  obtain ⟨c1,c2,c3⟩:=this
  rw [DV (by omega) (by omega)] at c2
  exact ⟨c1,c2,c3⟩
 ·have:=h6 r hr
  unfold Ho at this
  simp only [Bool.not_eq_true,Bool.not_eq_false',BP] at this
  exact this
structure Dy (f:Int) (xs:List Ai):Prop where
 f12:1≤f∧f≤2
 len:xs.length≤240
 msg:∀ x∈xs,XA f x
 refs:∀ (i:Nat) (h:i < xs.length),∀ r∈xs[i].Refs,r < i
 nd:xs.Nodup
theorem OM {f:Int} {xs:List Ai} (h:Io f xs = 0):Dy f xs:=by
 unfold Io at h
 cases h1:inR f 1 2
 ·rw [h1] at h; cases h
 cases h2:decide ((xs.length:Int) > 240)
 rotate_left
 ·rw [h1,h2] at h; cases h
 rw [h1,h2] at h
 simp only [Bool.not_true,cond_false] at h
 have hall:∀ j,j < xs.length→Gh f xs j = false:=by
  rcases Cd (Gh f xs) xs.length with h' | ⟨i,k1,k2,k3⟩
  ·exact h'
  ·rw [Ce k1 k2 k3] at h
   simp only [orF] at h
   rw [Hz k1] at h
   cases e1:CX f xs[i] != 0
   ·rw [e1] at h
    cases e2:BM i xs[i] <;> rw [e2] at h <;> cases h
   ·rw [e1] at h
    simp only [cond_true] at h
    rw [h] at e1
    cases e1
 rw [BP] at h1
 rw [decide_eq_false_iff_not] at h2
 have hi:∀ (i:Nat) (h:i < xs.length),CX f xs[i] = 0∧BM i xs[i] = false∧xs[i] ∉ xs.take i:=fun i hl=>by
  have:=hall i hl
  rw [EY hl] at this
  simpa using this
 refine ⟨h1,by omega,fun x hx=>?_,fun i hl r hr=>?_,?_⟩
 ·obtain ⟨i,hl,rfl⟩:=List.mem_iff_getElem.1 hx
  exact Xa (hi i hl).1
 ·have:=(hi i hl).2.1
  unfold BM at this
  rw [List.any_eq_false] at this
  have:=this r hr
  simp at this; omega
 ·rw [List.nodup_iff_pairwise_ne,List.pairwise_iff_getElem]
  intro i j hi1 hj1 hij e
  exact (hi j hj1).2.2 (List.mem_iff_getElem.2 ⟨i,by rw [List.length_take]; omega,by rw [List.getElem_take]; exact e⟩)
def EQ (n:Nat):List Int:=(List.range n).map fun (j:Nat)=>((j:Int) + 1)
theorem LD (n:Nat):EQ (n + 1) = EQ n++[(n:Int) + 1]:=by simp [EQ,List.range_succ]
theorem HD (n:Nat) (k:Int):k∈EQ n ↔ 1≤k∧k≤n:=by
 simp only [EQ,List.mem_map,List.mem_range]
 constructor
 ·rintro ⟨j,h,rfl⟩; omega
 ·intro h; exact ⟨(k - 1).toNat,by omega,by omega⟩
theorem QF (n:Nat):(EQ n).Pairwise (· < ·):=by
 unfold EQ
 rw [List.pairwise_map]
 exact List.pairwise_lt_range.imp fun h=>by omega
theorem Iz:∀ (xs ys:List Int),xs.Pairwise (· < ·)→ys.Pairwise (· < ·)→(∀ k,k∈xs ↔ k∈ys)→xs = ys
 | [],[],_,_,_=>rfl
 | [],y::ys,_,_,h=>by have:=(h y).2 (by simp); cases this
 | x::xs,[],_,_,h=>by have:=(h x).1 (by simp); cases this
 | x::xs,y::ys,hx,hy,h=>by
  rw [List.pairwise_cons] at hx hy
  have e:x = y:=by
   rcases List.mem_cons.1 ((h x).1 (by simp)) with e | e
   ·exact e
   ·rcases List.mem_cons.1 ((h y).2 (by simp)) with e' | e'
    ·exact e'.symm
    ·have:=hy.1 x e; have:=hx.1 y e'; omega
  subst e
  rw [Iz xs ys hx.2 hy.2 fun k=>?_]
  have:=h k
  simp only [List.mem_cons] at this
  constructor
  ·intro hk
   rcases this.1 (.inr hk) with e | e
   ·subst e; have:=hx.1 k hk; omega
   ·exact e
  ·intro hk
   rcases this.2 (.inr hk) with e | e
   ·subst e; have:=hy.1 k hk; omega
   ·exact e
theorem Q8 {L:List Int} {k:Int} (h:L.length≤1000):Bw 8 L [k] = some (L++[k]):=by
 unfold Bw
 rw [if_pos (by simp; omega)]
theorem D7 {f:Int} (h:1≤f∧f≤2):CG f = 3 * f + 1:=by
 unfold CG
 rw [DV (x:=3 * f) (by omega) (by omega),DV (by omega) (by omega)]
theorem Dy.good {f:Int} {xs:List Ai} (h:Dy f xs):∀ x∈xs,Bz x:=fun x hx=>by
 have m:=h.msg x hx
 have:=m.refsl
 have:=D7 h.f12
 have:=h.f12
 exact ⟨Nat.le_trans m.certsl (by omega),by omega⟩
theorem Dy.len' {f:Int} {xs:List Ai} (h:Dy f xs):xs.length≤1048576:=Nat.le_trans h.len (by omega)
def Gy (k v s a:Int) (x:Ai):Bool:=(x.Kind == k) && ((x.View == v) && ((x.Slot == s) && (x.Value == a)))
def IW (xs:List Ai) (k v s a id:Int):Bool:=xs.any fun x=>Gy k v s a x && (x.From == id)
def J7 (f:Int) (xs:List Ai) (k v s a:Int):List Int:=(EQ (3 * f + 1).toNat).filter (IW xs k v s a)
theorem HF {f:Int} {x:Ai} (h:XA f x) (hk:x.Kind≤3):x.Certs = []∧x.Refs = []:=⟨h.certs0 (by omega),h.refs0 (by omega)⟩
theorem EE {f:Int} (hf:1≤f∧f≤2) {p:Int→Bool} {i:Nat} (hi:i≤7):((EQ i).filter p).length≤1000:=Nat.le_trans (List.length_filter_le _ _) (by simp [EQ]; omega)
theorem XT (a b c d:Bool):(bif a then
     bif b then
      bif c then
       some (LO.norm d)
      else
       some (LO.norm false)
     else
      some (LO.norm false)
    else
     some (LO.norm false)) = some (LO.norm (a && (b && (c && d)))):=by
 cases a <;> cases b <;> cases c <;> rfl
theorem Pz {f:Int} {xs:List Ai} (H:Dy f xs) {k:Int} (hk:k≤3) (v s a:Int) (n:Nat):(((xs.take n).filter (Gy k v s a)).map (·.From)).length≤8:=by
 have hf:=H.f12
 have hm:=D7 hf
 refine PT ?_ ?_
 ·rw [List.Nodup,List.pairwise_map]
  have h1:((xs.take n).filter (Gy k v s a)).Nodup:=(H.nd.sublist (List.take_sublist _ _)).filter _
  refine List.Pairwise.imp_of_mem (fun {x y} hx hy hxy e=>hxy ?_) h1
  rw [List.mem_filter] at hx hy
  have mx:=H.msg x (List.mem_of_mem_take hx.1)
  have my:=H.msg y (List.mem_of_mem_take hy.1)
  have h2:=hx.2
  have h3:=hy.2
  unfold Gy at h2 h3
  simp only [Bool.and_eq_true,beq_iff_eq] at h2 h3
  obtain ⟨a1,a2⟩:=HF mx (by omega)
  obtain ⟨b1,b2⟩:=HF my (by omega)
  obtain ⟨x1,x2,x3,x4,x5,x6,x7⟩:=x
  obtain ⟨y1,y2,y3,y4,y5,y6,y7⟩:=y
  simp only at h2 h3 a1 a2 b1 b2 e
  obtain ⟨p1,p2,p3,p4⟩:=h2
  obtain ⟨q1,q2,q3,q4⟩:=h3
  subst p1; subst p2; subst p3; subst p4; subst q1; subst q2; subst q3; subst q4; subst a1; subst a2; subst b1; subst b2; subst e
  rfl
 ·intro z hz
  obtain ⟨x,hx,rfl⟩:=List.mem_map.1 hz
  have:=(H.msg x (List.mem_of_mem_take (List.mem_filter.1 hx).1)).frm
  omega
theorem Pj {f:Int} {xs:List Ai} (H:Dy f xs) {k:Int} (hk:k≤3) (v s a:Int):Wj xs k v s a = some (J7 f xs k v s a):=by
 have hf:=H.f12
 have hm:=D7 hf
 have hlen:=Pz H hk v s a
 unfold Wj
 rw [Dk (f:=HW xs k v s a) (s0:=(0,[])) (fun i=>((i:Int),((xs.take i).filter (Gy k v s a)).map (·.From))) xs.length (.exit 0 ((xs.length:Int),((xs.take xs.length).filter (Gy k v s a)).map (·.From))) (fun i hi=>?_) ?_ rfl (CH H.len') rfl]
 ·have hl:=hlen xs.length
  obtain ⟨ys,k1,k2,k3⟩:=aK (xs:=((xs.take xs.length).filter (Gy k v s a)).map (·.From)) (by omega)
  simp only [obs,Ak,if_true,k1]
  rw [oH (by rw [k2.length_eq]; omega),obs]
  congr 1
  refine Iz _ _ (Lc ys k3) ((QF _).filter _) fun id=>?_
  rw [Ld,k2.mem_iff,List.take_length]
  unfold J7 IW
  simp only [List.mem_map,List.mem_filter,HD,List.any_eq_true,Bool.and_eq_true,beq_iff_eq]
  constructor
  ·rintro ⟨x,⟨hx,hs⟩,rfl⟩
   have:=(H.msg x hx).frm
   exact ⟨by omega,x,hx,hs,rfl⟩
  ·rintro ⟨_,x,hx,hs,rfl⟩
   exact ⟨x,⟨hx,hs⟩,rfl⟩
 ·unfold HW
  simp only [Int.lt_irrefl,decide_false,cond_false]
 ·have hc':(i:Int) < (xs.length:Int):=by omega
  have hil:i≤1099511627776:=by have:=H.len; omega
  unfold HW
  simp only [hc',decide_true,cond_true,BI hi,obs,XT,Ak]
  rw [ER hi,List.filter_append,List.map_append]
  have hl:=hlen i
  have e:(xs[i].Kind == k && (xs[i].View == v && (xs[i].Slot == s && (xs[i].Value == a)))) = Gy k v s a xs[i]:=rfl
  rw [e]
  cases hs:Gy k v s a xs[i]
  ·simp only [cond_false,obs,Ak,wi1 hil]
   simp [hs]
  ·simp only [cond_true,Q8 (L:=((xs.take i).filter (Gy k v s a)).map (·.From)) (by omega),obs,Ak,wi1 hil]
   simp [hs]
def Eo (f:Int):Int:=wi .i64 ((wi .i64 (2 * f)) + 1)
def BS (f:Int) (xs:List Ai) (k v s a:Int):Bool:=decide (((J7 f xs k v s a).length:Int) ≥ Eo f)
theorem Jj {f:Int} {xs:List Ai} (H:Dy f xs) {k:Int} (hk:k≤3) (v s a:Int):Tv f xs k v s a = some (BS f xs k v s a):=by
 unfold Tv
 rw [Pj H hk]; rfl
def Jk (f:Int) (xs:List Ai) (c:AP):Bool:=BS f xs 2 c.View c.Slot c.Value
theorem MD {f:Int} {xs:List Ai} (H:Dy f xs) (c:AP) (h1:1≤c.Slot∧c.Slot≤30) (h2:0≤c.View∧c.View≤20) (h3:0≤c.Value∧c.Value≤12):TD f xs c = some (Jk f xs c):=by
 unfold TD
 rw [HG,Jr,Gw,BP.2 h1,BP.2 h2,BP.2 h3,Jj H (by omega)]
 rfl
theorem FK {α:Type} {xs:List α} {i:Int} {x:α} (h:Av xs i = some x):x∈xs:=by
 unfold Av at h
 split at h
 ·exact List.mem_of_getElem? h
 ·cases h
theorem RJ {α:Type} {xs:List α} (hl:xs.length≤1048576) (i:Int):inR i 0 (wi .i64 ((xs.length:Int) - 1)) = (Av xs i).isSome:=by
 rw [DV (by omega) (by omega)]
 unfold Av
 by_cases h:0≤i
 ·rw [if_pos h]
  by_cases h2:i.toNat < xs.length
  ·rw [List.getElem?_eq_getElem h2]
   exact BP.2 ⟨h,by omega⟩
  ·rw [List.getElem?_eq_none (by omega)]
   refine Bool.eq_false_iff.2 fun h3=>?_
   have:=BP.1 h3; omega
 ·rw [if_neg h]
  refine Bool.eq_false_iff.2 fun h3=>?_
  have:=BP.1 h3; omega
theorem ZV {xs:List Ai} (hl:xs.length≤1048576) (i k:Int):Oz xs i k = some (match Av xs i with | some m=>(m,(m.Kind == k) && decide (m.View > 0)) | none=>((⟨0,0,0,0,0,[],[]⟩:Ai),false)):=by
 unfold Oz
 rw [in2,RJ hl]
 cases hg:Av xs i with
 | none=>rfl
 | some m=>
  simp only [Option.isSome_some,Bool.not_true,cond_false,obs]
  cases m.Kind == k <;> rfl
def Fv (f:Int) (xs:List Ai) (m:Ai):Bool:=(m.Kind == 4) && (decide (m.View > 0) && !m.Certs.any fun c=>!Jk f xs c)
def Du (f:Int) (xs:List Ai) (i:Int):Bool:=match Av xs i with
 | some m=>Fv f xs m
 | none=>false
theorem G6 {f:Int} {xs:List Ai} (H:Dy f xs) (i:Int):TA f xs i = some (Du f xs i):=by
 unfold TA Du
 rw [ZV H.len',obs]
 cases hg:Av xs i with
 | none=>rfl
 | some m=>
  have mo:=H.msg m (FK hg)
  have mv:=mo.view
  dsimp only
  unfold Fv
  rw [show T8 m.Certs (fun x0_=>PX x0_ f xs) = some (m.Certs.any fun c=>!Jk f xs c) from IM (CH (Nat.le_trans mo.certsl (by omega))) (Dv (Nat.le_trans mo.certsl (by omega))) (fun c hc=>by
   unfold PX
   obtain ⟨c1,c2,c3⟩:=mo.cert c hc
   rw [MD H c c1 ⟨c2.1,by omega⟩ c3]; rfl)]
  cases m.Kind == 4
  ·rfl
  ·cases decide (m.View > 0) <;> rfl
def Ew (f v:Int):Int:=wi .i64 (1 + v.tmod (CG f))
theorem GK {f:Int} (hf:1≤f∧f≤2) (v:Int):m97 f v = some (Ew f v):=by
 have hm:=D7 hf
 unfold m97
 rw [Ys]
 unfold I3
 rw [if_neg (by omega)]; rfl
def Ci (xs:List Ai) (r:Int):Int:=((Av xs r).map (·.View)).getD 0
def Bj (xs:List Ai) (r:Int):Int:=((Av xs r).map (·.From)).getD 0
def Hr (f:Int) (xs:List Ai) (m:Ai) (i:Nat):Bool:=(m.Refs[i]?).any fun r=>!Du f xs r || (Ci xs r != m.View || decide (Bj xs r∈(m.Refs.take i).map (Bj xs)))
theorem EW {f:Int} {xs:List Ai} {m:Ai} {i:Nat} (h:i < m.Refs.length):Hr f xs m i = (!Du f xs m.Refs[i] || (Ci xs m.Refs[i] != m.View || decide (Bj xs m.Refs[i]∈(m.Refs.take i).map (Bj xs)))):=by
 unfold Hr; rw [List.getElem?_eq_getElem h]; rfl
def Jq (f:Int) (xs:List Ai) (m:Ai):Bool:=((m.Kind == 5) && decide (m.View > 0)) && ((m.From == Ew f m.View) && (!decide ((m.Refs.length:Int) < Eo f) && (DY (Hr f xs m) m.Refs.length).isNone))
def GV (f:Int) (xs:List Ai) (i:Int):Bool:=match Av xs i with
 | some m=>Jq f xs m
 | none=>false
theorem Fz {f:Int} {xs:List Ai} {r:Int} (h:Du f xs r = true):∃ x,Av xs r = some x∧Ci xs r = x.View∧Bj xs r = x.From:=by
 unfold Du at h
 cases hg:Av xs r with
 | none=>rw [hg] at h; cases h
 | some x=>exact ⟨x,rfl,by simp [Ci,hg],by simp [Bj,hg]⟩
theorem bZ (a b c:Bool):(bif a then some (LO.norm true) else bif b then some (LO.norm true) else some (LO.norm c)) = some (LO.norm (a || (b || c))):=by
 cases a <;> cases b <;> rfl
theorem JS {f:Int} {xs:List Ai} (H:Dy f xs) (i:Int):m75 f xs i = some (GV f xs i):=by
 unfold m75 GV
 have hf:=H.f12
 have hm:=D7 hf
 rw [ZV H.len',obs]
 cases hg:Av xs i with
 | none=>rfl
 | some m=>
  have mo:=H.msg m (FK hg)
  have hrl:m.Refs.length≤7:=by have:=mo.refsl; omega
  dsimp only
  unfold Jq
  cases e1:(m.Kind == 5 && decide (m.View > 0))
  ·rfl
  simp only [Bool.not_true,cond_false,GK hf,obs,Bool.true_and]
  cases e2:m.From == Ew f m.View
  ·have:(m.From != Ew f m.View) = true:=by unfold bne; rw [e2]; rfl
   rw [this]; rfl
  have:(m.From != Ew f m.View) = false:=by unfold bne; rw [e2]; rfl
  rw [this]
  simp only [cond_false,obs,Ak,Bool.true_and]
  rw [show decide ((m.Refs.length:Int) < wi .i64 ((wi .i64 (2 * f)) + 1)) = decide ((m.Refs.length:Int) < Eo f) from rfl]
  cases decide ((m.Refs.length:Int) < Eo f)
  rotate_left
  ·rfl
  simp only [cond_false,obs,Ak,Bool.not_false,Bool.true_and]
  rw [CM (f:=IC f xs (m,true)) (s0:=(false,0,[])) (fun j=>(false,(j:Int),(m.Refs.take j).map (Bj xs))) m.Refs.length (Hr f xs m) (fun j=>.ret (false,(j:Int),(m.Refs.take j).map (Bj xs))) (.exit 0 (false,(m.Refs.length:Int),(m.Refs.take m.Refs.length).map (Bj xs))) (fun j hj _ hp=>?_) (fun j hj _ hp=>?_) (fun _=>?_) (CH (by omega)) rfl]
  ·cases DY (Hr f xs m) m.Refs.length <;> rfl
  ·have hc':(j:Int) < (m.Refs.length:Int):=by omega
   rw [EW hj,Bool.or_eq_false_iff,Bool.or_eq_false_iff] at hp
   obtain ⟨p1,p2,p3⟩:=hp
   rw [Bool.not_eq_false'] at p1
   obtain ⟨x,g1,g2,g3⟩:=Fz p1
   rw [g2] at p2
   rw [g3] at p3
   have hfl:((m.Refs.take j).map (Bj xs)).length≤1000:=by simp; omega
   unfold IC
   simp only [hc',decide_true,cond_true,BI hj,obs,G6 H,p1,Bool.not_true,cond_false,g1,p2]
   rw [show m58 ((m.Refs.take j).map (Bj xs)) x.From = some (decide (x.From∈(m.Refs.take j).map (Bj xs))) from IL (CH (by omega)) (Dv (by omega)),p3]
   simp only [obs,Ak,cond_false,g1,Q8 hfl,wi1 (show j≤1099511627776 by omega)]
   rw [ER hj,List.map_append]
   simp [g3]
  ·have hc':(j:Int) < (m.Refs.length:Int):=by omega
   rw [EW hj] at hp
   have hfl:((m.Refs.take j).map (Bj xs)).length≤1000:=by simp; omega
   unfold IC
   simp only [hc',decide_true,cond_true,BI hj,obs,G6 H]
   cases p1:Du f xs m.Refs[j]
   ·exact ⟨rfl,rfl⟩
   obtain ⟨x,g1,g2,g3⟩:=Fz p1
   rw [p1,g2,g3] at hp
   simp only [Bool.not_true,cond_false,g1,obs]
   cases p2:x.View != m.View
   rotate_left
   ·exact ⟨rfl,rfl⟩
   rw [p2] at hp
   rw [show m58 ((m.Refs.take j).map (Bj xs)) x.From = some (decide (x.From∈(m.Refs.take j).map (Bj xs))) from IL (CH (by omega)) (Dv (by omega))]
   simp only [Bool.not_true,Bool.false_or] at hp
   rw [hp]
   exact ⟨rfl,rfl⟩
  ·unfold IC
   simp only [Int.lt_irrefl,decide_false,cond_false]
   exact ⟨trivial,rfl⟩
def Jg (n:Nat):List Int:=(List.range n).map fun (j:Nat)=>(j:Int)
theorem TK (n:Nat) (k:Int):k∈Jg n ↔ 0≤k∧k < n:=by
 simp only [Jg,List.mem_map,List.mem_range]
 constructor
 ·rintro ⟨j,h,rfl⟩; omega
 ·intro h; exact ⟨k.toNat,by omega,by omega⟩
theorem WI (n:Nat):(Jg n).Pairwise (· < ·):=by
 unfold Jg
 rw [List.pairwise_map]
 exact List.pairwise_lt_range.imp fun h=>by omega
def OK (f:Int) (xs:List Ai) (s v:Int) (x:Ai):Bool:=((x.Kind == 3) && ((x.Slot == s) && (x.Value == v))) && BS f xs 3 x.View s v
def Lx (f:Int) (xs:List Ai) (s v:Int):Bool:=xs.any (OK f xs s v)
def E9 (f:Int) (xs:List Ai) (s:Int):List Int:=(Jg 13).filter (Lx f xs s)
def EI (p:Ai→Bool) (L:List Int) (x:Ai):List Int:=if (p x && !decide (x.Value∈L)) = true then L++[x.Value] else L
theorem U1 (p:Ai→Bool) (L:List Int) (x:Ai):EI p L x = bif (p x && !decide (x.Value∈L)) then L++[x.Value] else L:=by
 unfold EI; rw [Ze]
theorem KR (p:Ai→Bool):∀ (l:List Ai) (L:List Int) (v:Int),v∈l.foldl (EI p) L ↔ v∈L∨∃ x∈l,p x = true∧x.Value = v
 | [],L,v=>by simp
 | x::l,L,v=>by
  rw [List.foldl_cons,KR p l]
  unfold EI
  by_cases h:(p x && !decide (x.Value∈L)) = true
  ·rw [if_pos h,List.mem_append,List.mem_singleton]
   rw [Bool.and_eq_true] at h
   constructor
   ·rintro ((h1 | rfl) | ⟨y,hy,h2⟩)
    ·exact .inl h1
    ·exact .inr ⟨x,by simp,h.1,rfl⟩
    ·exact .inr ⟨y,by simp [hy],h2⟩
   ·rintro (h1 | ⟨y,hy,h2,h3⟩)
    ·exact .inl (.inl h1)
    ·rcases List.mem_cons.1 hy with rfl | hy
     ·exact .inl (.inr h3.symm)
     ·exact .inr ⟨y,hy,h2,h3⟩
  ·rw [if_neg h]
   constructor
   ·rintro (h1 | ⟨y,hy,h2⟩)
    ·exact .inl h1
    ·exact .inr ⟨y,by simp [hy],h2⟩
   ·rintro (h1 | ⟨y,hy,h2,h3⟩)
    ·exact .inl h1
    ·rcases List.mem_cons.1 hy with rfl | hy
     ·left
      rw [h2] at h
      simp at h
      rw [← h3]; exact h
     ·exact .inr ⟨y,hy,h2,h3⟩
theorem N3 (p:Ai→Bool):∀ (l:List Ai) (L:List Int),L.Nodup→(l.foldl (EI p) L).Nodup
 | [],L,h=>h
 | x::l,L,h=>by
  rw [List.foldl_cons]
  refine N3 p l _ ?_
  unfold EI
  by_cases hc:(p x && !decide (x.Value∈L)) = true
  ·rw [if_pos hc]
   rw [Bool.and_eq_true] at hc
   have h2:=hc.2
   simp at h2
   rw [List.nodup_append]
   refine ⟨h,by simp,fun a ha b hb e=>?_⟩
   rw [List.mem_singleton] at hb
   subst hb; subst e
   exact h2 ha
  ·rw [if_neg hc]; exact h
def Fb (f:Int) (xs:List Ai) (s:Int) (x:Ai):Bool:=(x.Kind == 3) && ((x.Slot == s) && BS f xs 3 x.View s x.Value)
theorem b0 (a b c d:Bool):(bif a then
     bif b then
      (some c).bind fun y1=>
      bif !y1 then
       (some d).bind fun y2=>
       some (LO.norm y2)
      else
       some (LO.norm false)
     else
      some (LO.norm false)
    else
     some (LO.norm false)) = some (LO.norm ((a && (b && d)) && !c)):=by
 cases a <;> cases b <;> cases c <;> cases d <;> rfl
def Zq (f:Int) (xs:List Ai):Prop:=∀ (s:Int) (n:Nat),((xs.take n).foldl (EI (Fb f xs s)) []).length≤12
theorem OD {f:Int} {xs:List Ai} (H:Dy f xs) (W:Zq f xs) (s:Int):m79 f xs s = some (E9 f xs s):=by
 have hlen:=W s
 unfold m79
 rw [Dk (f:=JV f xs s) (s0:=(0,[])) (fun i=>((i:Int),(xs.take i).foldl (EI (Fb f xs s)) [])) xs.length (.exit 0 ((xs.length:Int),(xs.take xs.length).foldl (EI (Fb f xs s)) [])) (fun i hi=>?_) ?_ rfl (CH H.len') rfl]
 ·have hl:=hlen xs.length
  obtain ⟨ys,k1,k2,k3⟩:=aK (xs:=(xs.take xs.length).foldl (EI (Fb f xs s)) []) (by omega)
  simp only [obs,Ak,if_true,k1]
  congr 1
  have hnd:ys.Nodup:=k2.nodup_iff.2 (N3 _ _ _ List.nodup_nil)
  refine Iz _ _ ?_ ((WI _).filter _) fun v=>?_
  ·rw [List.Nodup] at hnd
   exact (List.pairwise_and_iff.2 ⟨k3,hnd⟩).imp fun h=>by omega
  ·rw [k2.mem_iff,List.take_length,KR]
   unfold E9
   rw [List.mem_filter,TK]
   unfold Lx
   rw [List.any_eq_true]
   constructor
   ·rintro (h | ⟨x,hx,hp,rfl⟩)
    ·cases h
    ·unfold Fb at hp
     simp only [Bool.and_eq_true,beq_iff_eq] at hp
     have:=(H.msg x hx).value (by omega)
     refine ⟨by omega,x,hx,?_⟩
     unfold OK
     simp only [Bool.and_eq_true,beq_iff_eq]
     exact ⟨⟨hp.1,hp.2.1,trivial⟩,hp.2.2⟩
   ·rintro ⟨_,x,hx,hp⟩
    unfold OK at hp
    simp only [Bool.and_eq_true,beq_iff_eq] at hp
    obtain ⟨⟨h1,h2,h3⟩,h4⟩:=hp
    refine .inr ⟨x,hx,?_,h3⟩
    unfold Fb
    simp only [Bool.and_eq_true,beq_iff_eq]
    subst h3
    exact ⟨h1,h2,h4⟩
 ·unfold JV
  simp only [Int.lt_irrefl,decide_false,cond_false]
 ·have hc':(i:Int) < (xs.length:Int):=by omega
  have hil:i≤1099511627776:=by have:=H.len; omega
  have hl:=hlen i
  unfold JV
  simp only [hc',decide_true,cond_true,BI hi,obs]
  rw [show m58 ((xs.take i).foldl (EI (Fb f xs s)) []) xs[i].Value = some (decide (xs[i].Value∈(xs.take i).foldl (EI (Fb f xs s)) [])) from IL (CH (by omega)) (Dv (by omega)),Jj H (show (3:Int)≤3 by omega),b0]
  rw [ER hi,List.foldl_append,List.foldl_cons,List.foldl_nil]
  have e:((xs[i].Kind == 3 && (xs[i].Slot == s && BS f xs 3 xs[i].View s xs[i].Value)) && !decide (xs[i].Value∈(xs.take i).foldl (EI (Fb f xs s)) [])) = (Fb f xs s xs[i] && !decide (xs[i].Value∈(xs.take i).foldl (EI (Fb f xs s)) [])):=rfl
  rw [e]
  rw [U1]
  cases hs:(Fb f xs s xs[i] && !decide (xs[i].Value∈(xs.take i).foldl (EI (Fb f xs s)) []))
  ·simp only [obs,Ak,cond_false,wi1 hil]
  ·simp only [obs,Ak,cond_true,Q8 (show ((xs.take i).foldl (EI (Fb f xs s)) []).length≤1000 by omega),wi1 hil]
def Ie (f:Int) (xs:List Ai) (i:Nat):List Int:=(EQ i).map fun s=>(E9 f xs s).headD 0
def EG (f:Int) (xs:List Ai) (i:Nat):Bool:=(E9 f xs ((i:Int) + 1)).isEmpty
def E0 (f:Int) (xs:List Ai):List Int:=orF (DY (EG f xs) 30) (Ie f xs) (Ie f xs 30)
theorem Ic (f:Int) (xs:List Ai) (i:Nat):(Ie f xs i).length = i:=by simp [Ie,EQ]
theorem WA (f:Int) (xs:List Ai) (i:Nat):Ie f xs (i + 1) = Ie f xs i++[(E9 f xs ((i:Int) + 1)).headD 0]:=by
 unfold Ie; rw [LD,List.map_append]; rfl
theorem Ol {l:List Int}:((l.length:Int) == 0) = l.isEmpty:=by
 cases l with
 | nil=>rfl
 | cons x r=>
  rw [Bool.eq_iff_iff]
  simp; omega
theorem W9 {l:List Int} (h:l.isEmpty = false):Av l 0 = some (l.headD 0):=by
 cases l with
 | nil=>cases h
 | cons x r=>rfl
theorem MP {i:Nat} (h:i≤1048576):wi .i64 ((i:Int) + 1 + 1) = ((i + 1:Nat):Int) + 1:=by rw [DV (by omega) (by omega)]; omega
theorem KL {f:Int} {xs:List Ai} (H:Dy f xs) (W:Zq f xs):m47 f xs = some (E0 f xs):=by
 unfold m47 E0
 rw [CM (f:=JX f xs) (s0:=(1,[])) (fun i=>((i:Int) + 1,Ie f xs i)) 30 (EG f xs) (fun i=>.exit 0 ((i:Int) + 1,Ie f xs i)) (.exit 0 (31,Ie f xs 30)) (fun i hi _ hp=>?_) (fun i hi _ hp=>?_) (fun _=>?_) (CH (by omega)) rfl]
 ·cases DY (EG f xs) 30 <;> rfl
 ·have hc:(i:Int) + 1≤30:=by omega
  unfold JX
  unfold EG at hp
  have hl:=Ic f xs i
  simp only [hc,decide_true,cond_true,OD H W,obs,Ol,hp,cond_false,W9 hp,Q8 (show (Ie f xs i).length≤1000 by omega),MP (show i≤1048576 by omega),WA]
 ·have hc:(i:Int) + 1≤30:=by omega
  unfold JX
  unfold EG at hp
  simp only [hc,decide_true,cond_true,OD H W,obs,Ol,hp]
  exact ⟨trivial,rfl⟩
 ·exact ⟨rfl,rfl⟩
theorem Jz (f:Int) (xs:List Ai):(E0 f xs).length≤30:=by
 unfold E0
 rcases Cd (EG f xs) 30 with h | ⟨i,h1,h2,h3⟩
 ·rw [Cf h]; simp [orF,Ic]
 ·rw [Ce h1 h2 h3]; simp [orF,Ic]; omega
def Dj (f:Int) (xs:List Ai) (r:Af):Bool:=(r.Start != (-1)) && ((r.View == 0) || (!GV f xs r.Start || (Ci xs r.Start != r.View)))
def Ei (f:Int) (r:Af):Bool:=!inR r.Id 1 (CG f) || (!inR r.View 0 20 || !inR r.Done 0 30)
def CE (f:Int) (xs:List Ai) (r:Af):Int:=bif Ei f r then 3 else bif Dj f xs r then 1 else bif decide (r.Done > ((E0 f xs).length:Int)) then 8 else 0
theorem EX {f:Int} {xs:List Ai} {r:Int} (h:GV f xs r = true):∃ x,Av xs r = some x∧Ci xs r = x.View:=by
 unfold GV at h
 cases hg:Av xs r with
 | none=>rw [hg] at h; cases h
 | some x=>exact ⟨x,rfl,by simp [Ci,hg]⟩
theorem NV {f:Int} {xs:List Ai} (H:Dy f xs) (r:Af):m48 f xs r ((E0 f xs).length:Int) = some (CE f xs r):=by
 unfold m48 CE
 rw [Jt,Jr,in2,QG]
 simp only [obs,Ak]
 rw [show (!inR r.Id 1 (CG f) || (!inR r.View 0 20 || !inR r.Done 0 30)) = Ei f r from rfl]
 cases Ei f r
 rotate_left
 ·rfl
 simp only [cond_false,JS H,obs]
 unfold Dj
 cases r.Start != (-1)
 ·simp only [cond_false,obs,Ak,Bool.false_and]
  cases decide (r.Done > ((E0 f xs).length:Int)) <;> rfl
 simp only [cond_true,Bool.true_and]
 cases r.View == 0
 rotate_left
 ·rfl
 simp only [cond_false,Bool.false_or]
 cases hn:GV f xs r.Start
 ·rfl
 obtain ⟨x,g1,g2⟩:=EX hn
 simp only [Bool.not_true,cond_false,Bool.false_or,g1,obs,g2,Ak]
 cases x.View != r.View
 rotate_left
 ·rfl
 cases decide (r.Done > ((E0 f xs).length:Int)) <;> rfl
def OT (f:Int) (bs:List Int) (i:Nat):Bool:=!inR (A bs i) 1 (CG f) || Gq bs i
def GR (f:Int) (bs:List Int):Int:=orF (DY (OT f bs) bs.length) (fun i=>bif !inR (A bs i) 1 (CG f) then 3 else 1) 0
theorem MG {f:Int} {bs:List Int} {i:Nat} (h:i < bs.length):OT f bs i = (!inR bs[i] 1 (CG f) || (decide (0 < i) && decide (bs[i]≤bs[i - 1]))):=by
 unfold OT Gq
 rw [EK h,EK (show i - 1 < bs.length by omega)]
theorem OS (f:Int) (bs:List Int) (h:bs.length≤1048576):m45 f bs = some (GR f bs):=by
 unfold m45 GR
 rw [CM (f:=ID f bs) (s0:=(0,0)) (fun i=>(0,(i:Int))) bs.length (OT f bs) (fun i=>.ret (bif !inR (A bs i) 1 (CG f) then 3 else 1,(i:Int))) (.exit 0 (0,(bs.length:Int))) (fun i hi _ hp=>?_) (fun i hi _ hp=>?_) (fun _=>?_) (CH h) rfl]
 ·cases DY (OT f bs) bs.length <;> rfl
 ·have hc':(i:Int) < (bs.length:Int):=by omega
  have hb:i≤big:=Nat.le_trans (Nat.le_of_lt hi) (Dv h)
  rw [MG hi,Bool.or_eq_false_iff] at hp
  unfold ID
  simp only [hc',decide_true,cond_true,BI hi,obs,Jt,hp.1,cond_false]
  by_cases h0:0 < i
  ·have h0':(i:Int) > 0:=by omega
   have hp2:=hp.2
   rw [decide_eq_true h0,Bool.true_and] at hp2
   simp only [h0',decide_true,cond_true,GF h0 hb,BI (show i - 1 < bs.length by omega),obs,hp2,cond_false,Ak,wi1 hb]
  ·have h0':¬ (i:Int) > 0:=by omega
   simp only [h0',decide_false,cond_false,obs,Ak,wi1 hb]
 ·have hc':(i:Int) < (bs.length:Int):=by omega
  have hb:i≤big:=Nat.le_trans (Nat.le_of_lt hi) (Dv h)
  rw [MG hi] at hp
  unfold ID
  simp only [hc',decide_true,cond_true,BI hi,obs,Jt,EK hi]
  cases hr:!inR bs[i] 1 (CG f)
  ·rw [hr,Bool.false_or,Bool.and_eq_true] at hp
   have h0:0 < i:=of_decide_eq_true hp.1
   have h0':(i:Int) > 0:=by omega
   simp only [cond_false,h0',decide_true,cond_true,GF h0 hb,BI (show i - 1 < bs.length by omega),obs,hp.2,Ak]
   exact ⟨trivial,rfl⟩
  ·exact ⟨rfl,rfl⟩
 ·unfold ID
  simp only [Int.lt_irrefl,decide_false,cond_false]
  exact ⟨trivial,rfl⟩
def PO (bs:List Int) (id:Int):Bool:=!decide (id∈bs)
def D9 (f:Int) (bs:List Int):List Int:=(EQ (3 * f + 1).toNat).filter (PO bs)
theorem Je {f:Int} (hf:1≤f∧f≤2) (bs:List Int) (h:bs.length≤1048576):m30 f bs = some (D9 f bs):=by
 have hm:=D7 hf
 unfold m30
 rw [Dk (f:=JY f bs) (s0:=(1,[])) (fun i=>((i:Int) + 1,(EQ i).filter (PO bs))) (3 * f + 1).toNat (.exit 0 (((3 * f + 1).toNat:Int) + 1,D9 f bs)) (fun i hi=>?_) ?_ rfl (CH (by omega)) rfl]
 ·rfl
 ·unfold JY
  have hc:¬ (((3 * f + 1).toNat:Int) + 1≤CG f):=by omega
  have hc':decide ((((3 * f + 1).toNat:Int) + 1)≤m57 f) = false:=decide_eq_false hc
  dsimp only
  rw [hc',cond_false]
  rfl
 ·unfold JY
  have hc:(i:Int) + 1≤CG f:=by omega
  have hc':decide ((i:Int) + 1≤m57 f) = true:=decide_eq_true hc
  dsimp only
  rw [hc',cond_true,show m58 bs ((i:Int) + 1) = some (decide ((i:Int) + 1∈bs)) from IL (CH h) (Dv h),obs,LD,List.filter_append]
  have e:wi .i64 ((i:Int) + 1 + 1) = ((i + 1:Nat):Int) + 1:=MP (by omega)
  cases hs:PO bs ((i:Int) + 1)
  ·have hs':(!decide ((i:Int) + 1∈bs)) = false:=hs
   simp only [hs',cond_false,obs,Ak,e]
   simp [hs]
  ·have hs':(!decide ((i:Int) + 1∈bs)) = true:=hs
   simp only [hs',cond_true,Q8 (EE hf (p:=PO bs) (i:=i) (by omega)),obs,Ak,e]
   simp [hs]
def GZ (y x:Ag):Bool:=(x.Client == y.Client) && (x.Number == y.Number)
theorem JH (xs:List Ag) (y:Ag) (h:xs.length≤1048576):m50 xs y = some (ixI (DY (pAt (GZ y) xs) xs.length)):=by
 unfold m50
 rw [show m86 xs (fun x0_=>some (m87 x0_ y)) = some (ixI (DY (pAt (GZ y) xs) xs.length)) from IK (CH h) (Dv h) (fun x _=>by
  congr 1
  unfold m87 GZ
  cases x.Client == y.Client <;> rfl)]
 rfl
noncomputable def ES (xs:List Ag) (i:Nat):Bool:=(xs[i]?).any fun x=>(Ds x != 0) || (xs.take i).any (GZ x)
noncomputable def JG (xs:List Ag) (i:Nat):Int:=match xs[i]? with
 | some x=>bif Ds x != 0 then Ds x else 6
 | none=>0
theorem EM {xs:List Ag} {i:Nat} (h:i < xs.length):ES xs i = ((Ds xs[i] != 0) || (xs.take i).any (GZ xs[i])):=by
 unfold ES; rw [List.getElem?_eq_getElem h]; rfl
theorem JF {xs:List Ag} {i:Nat} (h:i < xs.length):JG xs i = (bif Ds xs[i] != 0 then Ds xs[i] else 6):=by
 unfold JG; rw [List.getElem?_eq_getElem h]
noncomputable def EB (xs:List Ag):Int:=orF (DY (ES xs) xs.length) (JG xs) 0
theorem SN (c:Ab) (h:c.Requests.length≤12) (ho:∀ r∈c.Requests,If r):(AB (Hv c) NN (0,0)).bind (Ak (fun _=>none) (fun i4 s8=>
          if i4 = 4 then
           some 0
          else
           none) (fun s8=>
          some s8.1)) = some (EB c.Requests):=by
 rw [CM (f:=Hv c) (s0:=(0,0)) (fun i=>(0,(i:Int))) c.Requests.length (ES c.Requests) (fun i=>.ret (JG c.Requests i,(i:Int))) (.exit 4 (0,(c.Requests.length:Int))) (fun i hi _ hp=>?_) (fun i hi _ hp=>?_) (fun _=>?_) (CH (by omega)) rfl]
 ·unfold EB
  cases DY (ES c.Requests) c.Requests.length <;> rfl
 ·rw [EM hi,Bool.or_eq_false_iff] at hp
  have hc':(i:Int) < (c.Requests.length:Int):=by omega
  unfold Hv
  simp only [hc',decide_true,cond_true,BI hi,obs,(ho _ (List.getElem_mem hi)).2,hp.1,cond_false,Gx (Nat.le_of_lt hi),JH (c.Requests.take i) c.Requests[i] (by rw [List.length_take]; omega),H2,Gi,hp.2,wi1 (show i≤1099511627776 by omega)]
 ·rw [EM hi] at hp
  rw [JF hi]
  have hc':(i:Int) < (c.Requests.length:Int):=by omega
  unfold Hv
  simp only [hc',decide_true,cond_true,BI hi,obs,(ho _ (List.getElem_mem hi)).2,Gx (Nat.le_of_lt hi),JH (c.Requests.take i) c.Requests[i] (by rw [List.length_take]; omega),H2,Gi]
  cases h1:Ds c.Requests[i] != 0
  ·rw [h1,Bool.false_or] at hp
   rw [hp]; exact ⟨rfl,rfl⟩
  ·exact ⟨rfl,rfl⟩
 ·unfold Hv
  simp only [Int.lt_irrefl,decide_false,cond_false]
  exact ⟨trivial,rfl⟩
noncomputable def HK (c:Ab) (r:Af):Bool:=CE c.F c.Ledger r != 0
noncomputable def MX (c:Ab) (i:Nat):Int:=((c.Replicas[i]?).map (CE c.F c.Ledger)).getD 0
noncomputable def MY (c:Ab):Option Nat:=DY (pAt (HK c) c.Replicas) c.Replicas.length
theorem SR (c:Ab) (H:Dy c.F c.Ledger) (hr:c.Replicas.length≤1048576):AB (Hw c (E0 c.F c.Ledger)) NN (0,0) = some (orF (MY c) (fun i=>.ret (MX c i,(i:Int))) (.exit 2 (0,(c.Replicas.length:Int)))):=by
 exact CM (f:=Hw c (E0 c.F c.Ledger)) (s0:=(0,0)) (fun i=>(0,(i:Int))) c.Replicas.length (pAt (HK c) c.Replicas) (fun i=>.ret (MX c i,(i:Int))) (.exit 2 (0,(c.Replicas.length:Int))) (fun i hi _ hp=>by
  rw [Em hi] at hp
  unfold HK at hp
  have hc':(i:Int) < (c.Replicas.length:Int):=by omega
  unfold Hw
  simp only [hc',decide_true,cond_true,BI hi,obs,NV H,hp,cond_false,wi1 (show i≤1099511627776 by omega)]) (fun i hi _ hp=>by
  rw [Em hi] at hp
  unfold HK at hp
  have hc':(i:Int) < (c.Replicas.length:Int):=by omega
  unfold Hw MX
  rw [List.getElem?_eq_getElem hi]
  simp only [hc',decide_true,cond_true,BI hi,obs,NV H,hp,Option.map_some,Option.getD_some]
  exact ⟨trivial,rfl⟩) (fun _=>by
  unfold Hw
  simp only [Int.lt_irrefl,decide_false,cond_false]
  exact ⟨trivial,rfl⟩) (CH hr) rfl
theorem n0 {L:List Int} {k:Int} (h:L.length≤1048576):Bw 8 L [k] = some (L++[k]):=by
 unfold Bw
 rw [if_pos (by simp; omega)]
theorem eL (c:Ab) (hr:c.Replicas.length≤1048576):AB (IG c) NN (0,[]) = some (.exit 0 ((c.Replicas.length:Int),c.Replicas.map (·.Id))):=by
 rw [Dk (f:=IG c) (s0:=(0,[])) (fun i=>((i:Int),(c.Replicas.take i).map (·.Id))) c.Replicas.length (.exit 0 ((c.Replicas.length:Int),(c.Replicas.take c.Replicas.length).map (·.Id))) (fun i hi=>?_) ?_ rfl (CH hr) rfl]
 ·rw [List.take_length]
 ·unfold IG
  simp only [Int.lt_irrefl,decide_false,cond_false]
 ·have hc':(i:Int) < (c.Replicas.length:Int):=by omega
  unfold IG
  simp only [hc',decide_true,cond_true,BI hi,obs,n0 (show ((c.Replicas.take i).map (·.Id)).length≤1048576 by simp; omega),wi1 (show i≤1099511627776 by omega)]
  rw [ER hi,List.map_append]
  rfl
structure Lp (c:Ab):Prop where
 led:Dy c.F c.Ledger
 badl:(c.Bad.length:Int)≤c.F
 reql:c.Requests.length≤12
 bad:GR c.F c.Bad = 0
 ids:c.Replicas.map (·.Id) = D9 c.F c.Bad
 reps:∀ r∈c.Replicas,CE c.F c.Ledger r = 0
structure Iw (c:Ab):Prop extends Lp c where
 cl:Io c.F c.Ledger = 0
 reqs:EB c.Requests = 0
theorem SQ {c:Ab} (F:Iw c):MY c = none:=by
 unfold MY
 refine Cf fun i hi=>?_
 rw [Em hi]
 unfold HK
 rw [F.reps _ (List.getElem_mem hi)]; rfl
theorem TY {c:Ab} (g:F5 c) (F:Iw c) (W:Zq c.F c.Ledger):m20 c = some 0:=by
 have H:=F.led
 have e1:¬ (c.Requests.length:Int) > 12:=by have:=F.reql; omega
 have e2:¬ (c.Bad.length:Int) > c.F:=by have:=F.badl; omega
 have e0:((0:Int) != 0) = false:=rfl
 unfold m20
 rw [W2 _ _ g.led g.msg,F.cl]
 simp only [obs,e0,cond_false,e1,e2,decide_false,Ak,OS _ _ g.bad,F.bad,eL c g.rep,if_true]
 rw [Je H.f12 _ g.bad,obs,RO _ _ (by rw [List.length_map]; exact g.rep),obs,decide_eq_true F.ids]
 simp only [Bool.not_true,cond_false]
 rw [KL H W,obs,SR c H g.rep,SQ F]
 simp only [orF,obs,Ak,if_true]
 rw [SN c F.reql g.ops,F.reqs]
def SS (c:Ab) (id:Int):Option Nat:=DY (pAt (fun r=>r.Id == id) c.Replicas) c.Replicas.length
theorem Vi {f:Int} {xs:List Ai} {r:Af} (h:CE f xs r = 0):0≤r.View∧r.View≤20:=by
 unfold CE at h
 cases h1:Ei f r
 rotate_left
 ·rw [h1] at h; cases h
 unfold Ei at h1
 simp only [Bool.or_eq_false_iff,Bool.not_eq_false',BP] at h1
 exact h1.2.1
theorem Xy {α:Type} {b:Nat} {L ys:List α} (h:L.length + ys.length≤2097152) (hb:b≤1000):Bw b L ys = some (L++ys):=by
 unfold Bw
 rw [if_pos (Nat.le_trans (Nat.mul_le_mul h (show b + 1≤1001 by omega)) (by decide))]
theorem OX {α:Type} {b:Nat} {ys:List α} (h:ys.length≤1048576) (hb:b≤1000):Bw b [] ys = some ys:=by
 rw [Xy (by simp only [List.length_nil]; omega) hb]; rfl
theorem WX {α:Type} {f:Int×List α→Option (LO (Int×List α))} {xs:List α} {b:Nat} {e:Nat} (hl:xs.length≤1048576) (hb:b≤1000)
  (h1:∀ (i:Nat) (hi:i < xs.length) (s:List α),f ((i:Int),s) = (Bw b s [xs[i]]).bind fun z=>some (.norm (wi .i64 ((i:Int) + 1),z))) (h0:∀ s,f ((xs.length:Int),s) = some (.exit e ((xs.length:Int),s))) :
  AB f NN (0,[]) = some (.exit e ((xs.length:Int),xs)):=by
 rw [Dk (f:=f) (s0:=(0,[])) (fun i=>((i:Int),xs.take i)) xs.length (.exit e ((xs.length:Int),xs.take xs.length)) (fun i hi=>?_) ?_ rfl (CH hl) rfl]
 ·rw [List.take_length]
 ·rw [h0]
 ·rw [h1 i hi,Xy (by simp; omega) hb,obs,wi1 (show i≤1099511627776 by omega),List.take_succ_eq_append_getElem hi]
theorem Td (r:Ag) (h:If r):m93 r = some r:=by
 unfold m93
 rw [show Wm r.Ops = some r.Ops from OX h.1 (by decide)]; rfl
theorem Mc (m:Ai) (h:Bz m):Ov m = some m:=by
 unfold Ov
 rw [show Wh m.Certs = some m.Certs from OX h.1 (by decide),obs,show m29 m.Refs = some m.Refs from OX h.2 (by decide)]; rfl
theorem Tf (xs:List Ai) (h:xs.length≤1048576) (g:∀ m∈xs,Bz m):m92 xs = some xs:=by
 unfold m92
 rw [WX (b:=88) h (by decide) (fun i hi s=>by
  have hc':(i:Int) < (xs.length:Int):=by omega
  unfold Nj
  simp only [hc',decide_true,cond_true,BI hi,obs,Mc _ (g _ (List.getElem_mem hi))]) (fun s=>by
  unfold Nj
  simp only [Int.lt_irrefl,decide_false,cond_false]
  rfl)]
 rfl
theorem BQ (c:Ab) (g:F5 c):m59 c = some c:=by
 unfold m59
 rw [show m29 c.Bad = some c.Bad from OX g.bad (by decide),obs,show m91 c.Replicas = some c.Replicas from OX g.rep (by decide),obs,Tf _ g.led g.msg,obs]
 rw [WX (b:=48) g.req (by decide) (fun i hi s=>by
  have hc':(i:Int) < (c.Requests.length:Int):=by omega
  unfold Nl
  simp only [hc',decide_true,cond_true,BI hi,obs,Td _ (g.ops _ (List.getElem_mem hi))]) (fun s=>by
  unfold Nl
  simp only [Int.lt_irrefl,decide_false,cond_false]
  rfl)]
 rfl
noncomputable def Ej (xs:List Ai) (m:Ai):List Ai×Int:=bif decide (atM xs m ≥ 0) then (xs,0) else bif (xs.length:Int) == 240 then ([],2) else (xs++[m],0)
theorem NZ (xs:List Ai) (m:Ai) (h:xs.length≤240) (g:∀ x∈xs,Bz x) (gm:Bz m):TC xs m = some (bif BM xs.length m then ([],4) else Ej xs m):=by
 unfold TC Ej
 rw [I4 m xs.length gm,J4 xs m (by omega) g,Mc m gm,show eA xs = some xs from OX (by omega) (by decide)]
 simp only [obs]
 rw [Xy (show xs.length + [m].length≤2097152 by simp; omega) (by decide)]
 cases BM xs.length m <;> cases decide (atM xs m ≥ 0) <;> cases ((xs.length:Int) == 240) <;> rfl
theorem Vx {xs:List Ai} {m:Ai} (h:xs.length≤240) (g:∀ x∈xs,Bz x) (gm:Bz m):(Ej xs m).1.length≤241∧∀ x∈(Ej xs m).1,Bz x:=by
 unfold Ej
 cases decide (atM xs m ≥ 0)
 ·cases ((xs.length:Int) == 240)
  ·exact ⟨by show (xs++[m]).length≤241; simp; omega,fun x hx=>by
    rcases List.mem_append.1 (show x∈xs++[m] from hx) with h | h
    ·exact g x h
    ·rw [List.mem_singleton.1 h]; exact gm⟩
  ·exact ⟨Nat.zero_le _,fun x hx=>by cases hx⟩
 ·exact ⟨by show xs.length≤241; omega,g⟩
noncomputable def DR (c:Ab) (m:Ai):Ab:=⟨c.F,c.Bad,c.Replicas,(Ej c.Ledger m).1,c.Requests⟩
theorem LP {c:Ab} {m:Ai} (g:F5 c) (h:c.Ledger.length≤240) (gm:Bz m):F5 (DR c m):=
 have p:=Vx h g.msg gm
 ⟨g.bad,g.rep,Nat.le_trans p.1 (by omega),p.2,g.req,g.ops⟩
noncomputable def HH (c:Ab) (m:Ai):Ac:=bif (Ej c.Ledger m).2 != 0 then ⟨(Ej c.Ledger m).2,⟨0,[],[],[],[]⟩⟩ else ⟨0,DR c m⟩
theorem GI (c:Ab) (m:Ai) (g:F5 c) (h:c.Ledger.length≤240) (gm:Bz m) (hr:BM c.Ledger.length m = false):m71 c m = some ((Ej c.Ledger m).2,bif (Ej c.Ledger m).2 != 0 then c else DR c m):=by
 unfold m71 DR
 rw [NZ c.Ledger m h g.msg gm,hr]
 simp only [obs,cond_false,bne]
 cases ((Ej c.Ledger m).2 == 0) <;> rfl
theorem Ij {c:Ab} {m:Ai} (g:F5 c) (h:c.Ledger.length≤240) (gm:Bz m):(bif (Ej c.Ledger m).2 != 0 then some (⟨(Ej c.Ledger m).2,(⟨0,[],[],[],[]⟩:Ab)⟩:Ac) else (m59 (bif (Ej c.Ledger m).2 != 0 then c else DR c m)).bind fun y4=>some (⟨0,y4⟩:Ac)) = some (HH c m):=by
 unfold HH
 cases (Ej c.Ledger m).2 != 0
 ·simp only [cond_false,BQ _ (LP g h gm),obs]
 ·rfl
def YV (m:Ai):List (Int×Int×Int):=m.Certs.map fun c=>(c.Slot,c.View,c.Value)
def j9 (c:Int×Int×Int):Prop:=(1≤c.1∧c.1≤30)∧0≤c.2.1
def Im (xs:List Ai) (rs:List Int):List (List (Int×Int×Int)):=rs.map fun r=>((Av xs r).map YV).getD []
structure QB (xs:List Ai) (rs:List Int):Prop where
 get:∀ r∈rs,∃ x,Av xs r = some x
 len:rs.length≤1000
theorem OJ {f:Int} {xs:List Ai} (H:Dy f xs) {rs:List Int} (R:QB xs rs):(∀ cs∈Im xs rs,cs.length≤1000∧∀ c∈cs,j9 c):=by
 intro cs hcs
 unfold Im at hcs
 obtain ⟨r,hr,rfl⟩:=List.mem_map.1 hcs
 obtain ⟨x,gx⟩:=R.get r hr
 rw [gx]
 have M:=H.msg x (FK gx)
 have hcl:=M.certsl
 refine ⟨by simp [YV]; omega,fun c hc=>?_⟩
 simp only [Option.map_some,Option.getD_some,YV] at hc
 obtain ⟨d,hd,rfl⟩:=List.mem_map.1 hc
 obtain ⟨k1,k2,k3⟩:=M.cert d hd
 exact ⟨k1,k2.1⟩
theorem OE {α β:Type} {f:α→Option β} {g:α→β}:∀ {xs:List α},(∀ x∈xs,f x = some (g x))→Gj f xs = some (xs.map g)
 | [],_=>rfl
 | x::xs,h=>by simp only [Gj,h x (by simp),OE (xs:=xs) (fun y hy=>h y (List.mem_cons_of_mem _ hy)),List.map_cons]
theorem LW {f:Int} {xs:List Ai} (H:Dy f xs) {rs:List Int} (R:QB xs rs):m99 xs rs = some (Gp (Im xs rs)):=by
 unfold m99
 rw [OE (g:=fun r=>((Av xs r).map YV).getD []) (fun r hr=>by
  obtain ⟨x,gx⟩:=R.get r hr
  rw [gx]; rfl)]
 show LX rs (some (Im xs rs)) = _
 unfold LX
 dsimp only
 have hg:VC (Im xs rs):=fun cs hcs=>⟨fun c hc=>by
  have:=((OJ H R cs hcs).2 c hc).1
  omega,(OJ H R cs hcs).1⟩
 rw [if_pos ⟨R.len,hg⟩]
theorem QO {f:Int} {xs:List Ai} (H:Dy f xs) {i:Int} {x:Ai} (hx:Av xs i = some x):QB xs x.Refs:=by
 have M:=H.msg x (FK hx)
 have hm:=D7 H.f12
 have hf:=H.f12
 have hl:=H.len
 have hrl:=M.refsl
 obtain ⟨h0,h1,h2⟩:=DU hx
 have hxe:xs[i.toNat] = x:=by
  rw [List.getElem?_eq_getElem h1] at h2
  injection h2
 refine ⟨fun r hr=>?_,by omega⟩
 have hr2:=H.refs i.toNat h1 r (by rw [hxe]; exact hr)
 have hr1:=M.ref r hr
 obtain ⟨q,rfl⟩:∃ q:Nat,r = q:=⟨r.toNat,by omega⟩
 exact ⟨_,BI (show q < xs.length by omega)⟩
def Hn (xs:List Ai) (st:Int):List Int:=((Av xs st).map (·.Refs)).getD []
def Zs (xs:List Ai) (st s v:Int):Bool:=bif decide (s≤((Gp (Im xs (Hn xs st))).length:Int)) then v == ((Av (Gp (Im xs (Hn xs st))) (s - 1)).getD 0) else decide (v > 0)
def QU (f:Int) (xs:List Ai) (m:Ai) (st:Int):Bool:=(m.Kind == 1) && ((m.From == Ew f m.View) && bif m.View == 0 then (st == -1) && decide (m.Value > 0) else GV f xs st && ((Ci xs st == m.View) && Zs xs st m.Slot m.Value))
def JM (f:Int) (xs:List Ai) (i st:Int):Bool:=match Av xs i with
 | some m=>QU f xs m st
 | none=>false
theorem RI {ys:List Int} {s:Int} (h1:1≤s∧s≤30) (h2:s≤(ys.length:Int)):Av ys (wi .i64 (s - 1)) = some ((Av ys (s - 1)).getD 0):=by
 rw [DV (by omega) (by omega)]
 obtain ⟨q,hq⟩:∃ q:Nat,s - 1 = q:=⟨(s - 1).toNat,by omega⟩
 rw [hq,BI (show q < ys.length by omega)]; rfl
theorem SU {f:Int} {xs:List Ai} (H:Dy f xs) (i st:Int):Wu f xs i st = some (JM f xs i st):=by
 unfold Wu JM
 rw [in2,RJ H.len']
 cases hg:Av xs i with
 | none=>rfl
 | some m=>
  have M:=H.msg m (FK hg)
  simp only [Option.isSome_some,Bool.not_true,cond_false,obs,GK H.f12]
  unfold QU
  cases e1:m.Kind == 1
  ·have:(m.Kind != 1) = true:=by unfold bne; rw [e1]; rfl
   rw [this]; rfl
  have:(m.Kind != 1) = false:=by unfold bne; rw [e1]; rfl
  rw [this]
  have hk:m.Kind = 1:=by simpa using e1
  have hs:=M.slot (by omega)
  cases e2:m.From == Ew f m.View
  ·have:(m.From != Ew f m.View) = true:=by unfold bne; rw [e2]; rfl
   rw [this]; rfl
  have:(m.From != Ew f m.View) = false:=by unfold bne; rw [e2]; rfl
  rw [this]
  simp only [cond_false,obs,Ak,Bool.true_and]
  cases e3:m.View == 0
  rotate_left
  ·cases st == -1 <;> rfl
  simp only [cond_false,JS H,obs]
  cases e4:GV f xs st
  ·rfl
  obtain ⟨x,gx,_⟩:=EX e4
  have ev:Ci xs st = x.View:=by simp [Ci,gx]
  have er:Hn xs st = x.Refs:=by simp [Hn,gx]
  rw [ev]
  cases e5:x.View == m.View
  ·have:(x.View != m.View) = true:=by unfold bne; rw [e5]; rfl
   simp only [gx,this,Bool.not_true,cond_false,cond_true,obs,Ak,Bool.false_and,Bool.and_false]
  have:(x.View != m.View) = false:=by unfold bne; rw [e5]; rfl
  unfold Zs
  rw [er]
  simp only [gx,this,Bool.not_true,cond_false,obs,Ak,LW H (QO H gx),Bool.true_and]
  by_cases hl:m.Slot≤((Gp (Im xs x.Refs)).length:Int)
  ·simp only [hl,decide_true,cond_true,RI hs hl,obs]
  ·simp only [hl,decide_false,cond_false]
def DK (r:Af) (k s:Int) (m:Ai):Bool:=(m.From == r.Id) && ((m.Kind == k) && ((m.View == r.View) && (m.Slot == s)))
theorem GG (xs:List Ai) (r:Af) (k s:Int) (h:xs.length≤1048576):m98 r xs k s = some (xs.any (DK r k s)):=by
 unfold m98 Y4
 rw [show Tq xs (fun x0_=>PY x0_ r k s) = some (xs.any (DK r k s)) from IM (CH h) (Dv h) (fun x _=>by
  unfold PY Wl DK
  cases x.From == r.Id <;> cases x.Kind == k <;> cases x.View == r.View <;> rfl)]
 rfl
noncomputable def Gk (f:Int) (xs:List Ai) (r:Af) (s v:Int):Int:=bif !(inR s 1 30 && inR v 0 12) then 3 else bif !m96 r then 8 else bif !BS f xs 2 r.View s v then 10 else bif xs.any (DK r 3 s) then 6 else 0
theorem WZ {f:Int} {xs:List Ai} (H:Dy f xs) (r:Af) (s v:Int) (hv:0≤r.View∧r.View≤20):m68 r f xs s v = some (Gk f xs r s v):=by
 have hl:=H.len
 unfold m68 Gk
 rw [HG,Gw,GG xs r 3 s (by omega)]
 cases e1:inR s 1 30
 ·rfl
 cases e2:inR v 0 12
 ·rfl
 rw [MD H ⟨s,r.View,v⟩ (BP.1 e1) hv (BP.1 e2)]
 unfold Jk
 cases m96 r <;> cases BS f xs 2 r.View s v <;> cases xs.any (DK r 3 s) <;> rfl
noncomputable def FW (f:Int) (xs:List Ai) (r:Af) (i:Int):Int:=bif !JM f xs i r.Start then 1 else match Av xs i with
 | some m=>bif m.View != r.View then 1 else bif xs.any (DK r 2 m.Slot) then 6 else 0
 | none=>1
theorem LQ {f:Int} {xs:List Ai} {i st:Int} (h:JM f xs i st = true):∃ m,Av xs i = some m∧m.Kind = 1:=by
 unfold JM at h
 cases hg:Av xs i with
 | none=>rw [hg] at h; cases h
 | some m=>
  rw [hg] at h
  refine ⟨m,rfl,?_⟩
  have h:QU f xs m st = true:=h
  unfold QU at h
  simp only [Bool.and_eq_true,beq_iff_eq] at h
  exact h.1
theorem V1 {f:Int} {xs:List Ai} (H:Dy f xs) (r:Af) (i:Int):m66 r f xs i = some (FW f xs r i):=by
 have hl:=H.len
 unfold m66 FW
 rw [SU H]
 simp only [obs]
 cases hp:JM f xs i r.Start
 ·rfl
 obtain ⟨m,gm,hk⟩:=LQ hp
 simp only [Bool.not_true,cond_false,gm,obs]
 cases m.View != r.View
 ·simp only [cond_false,obs,Ak,GG xs r 2 m.Slot (by omega)]
  cases xs.any (DK r 2 m.Slot) <;> rfl
 ·rfl
def Uo (r:Af) (v:Int) (m:Ai):Bool:=(m.From == r.Id) && ((m.Kind == 1) && ((m.View == r.View) && (m.Value == v)))
theorem Px (xs:List Ai) (r:Af) (v:Int) (h:xs.length≤1048576):KH r xs 1 v = some (xs.any (Uo r v)):=by
 unfold KH
 rw [show Tq xs (fun x0_=>Hy x0_ r 1 v) = some (xs.any (Uo r v)) from IM (CH h) (Dv h) (fun x _=>by
  unfold Hy Wv Uo
  cases x.From == r.Id <;> cases x.Kind == 1 <;> cases x.View == r.View <;> rfl)]
 rfl
noncomputable def LG (xs:List Ai) (r:Af):List Int:=bif r.Start != -1 then Gp (Im xs (Hn xs r.Start)) else []
noncomputable def FX (f:Int) (xs:List Ai) (r:Af) (s v:Int):Int:=bif !(inR s 1 30 && inR v 0 12) then 3 else bif !m96 r || r.Id != Ew f r.View then 8 else bif xs.any (DK r 1 s) then 6 else bif decide (s > 1) && !xs.any (DK r 1 (s - 1)) then 4 else bif decide (s≤((LG xs r).length:Int)) then (bif v != ((Av (LG xs r) (s - 1)).getD 0) then 1 else 0) else bif (v == 0) || xs.any (Uo r v) then 1 else 0
theorem SH {f:Int} {xs:List Ai} {r:Af} (h:CE f xs r = 0):r.Start = -1∨∃ x,Av xs r.Start = some x:=by
 unfold CE at h
 cases h1:Ei f r
 rotate_left
 ·rw [h1] at h; cases h
 cases h2:Dj f xs r
 rotate_left
 ·rw [h1,h2] at h; cases h
 unfold Dj at h2
 cases e:r.Start != -1
 ·left; simpa using e
 ·rw [e] at h2
  simp only [Bool.true_and,Bool.or_eq_false_iff,Bool.not_eq_false'] at h2
  obtain ⟨x,gx,_⟩:=EX h2.2.1
  exact .inr ⟨x,gx⟩
theorem V3 {f:Int} {xs:List Ai} (H:Dy f xs) {r:Af} (hr:r.Start = -1∨∃ x,Av xs r.Start = some x) (s v:Int):m63 r f xs s v = some (FX f xs r s v):=by
 have hl:=H.len
 unfold m63 FX
 rw [HG,Gw,GG xs r 1 s (by omega),GK H.f12]
 cases e1:inR s 1 30
 ·rfl
 have hs:=BP.1 e1
 rw [show wi .i64 (s - 1) = s - 1 from DV (by omega) (by omega),GG xs r 1 (s - 1) (by omega),Px xs r v (by omega)]
 cases inR v 0 12
 ·rfl
 cases m96 r
 ·rfl
 simp only [Bool.not_true,cond_false,obs,Bool.false_or,Bool.and_self]
 cases r.Id != Ew f r.View
 rotate_left
 ·rfl
 cases xs.any (DK r 1 s)
 rotate_left
 ·rfl
 have hb:∀ L:List Int,s≤(L.length:Int)→Av L (s - 1) = some ((Av L (s - 1)).getD 0):=fun L h=>by
  have:=RI hs h
  rwa [show wi .i64 (s - 1) = s - 1 from DV (by omega) (by omega)] at this
 have tail:∀ z:Int,(((bif r.Start != -1 then (Av xs r.Start).bind fun x1=>(m99 xs x1.Refs).bind fun y4=>some (LO.norm y4) else some (LO.norm [])):Option (LO (List Int))) = some (.norm (LG xs r))):=fun z=>by
  unfold LG
  rcases hr with hr | ⟨x,gx⟩
  ·rw [hr]; rfl
  ·have er:Hn xs r.Start = x.Refs:=by simp [Hn,gx]
   rw [er,gx]
   cases r.Start != -1
   ·rfl
   ·simp only [cond_true,obs,LW H (QO H gx)]
 cases e2:decide (s > 1) && !xs.any (DK r 1 (s - 1))
 rotate_left
 ·rw [Bool.and_eq_true] at e2
  simp only [e2.1,e2.2,cond_true,cond_false,obs,Ak]
 have e3:((bif decide (s > 1) then (bif !xs.any (DK r 1 (s - 1)) then some (LO.ret 4) else some (LO.norm 0)) else some (LO.norm 0)):Option (LO Int)) = some (.norm 0):=by
  cases h1:decide (s > 1)
  ·rfl
  ·rw [h1] at e2
   simp only [Bool.true_and] at e2
   rw [e2]; rfl
 simp only [cond_false,obs,e3,Ak,tail 0]
 by_cases hL:s≤((LG xs r).length:Int)
 ·obtain ⟨z,hz⟩:∃ z,Av (LG xs r) (s - 1) = some z:=⟨_,hb _ hL⟩
  simp only [hL,decide_true,cond_true,hz,Option.getD_some,obs]
  cases v != z <;> rfl
 ·simp only [hL,decide_false,cond_false]
  cases v == 0 <;> cases xs.any (Uo r v) <;> rfl
def HE (id s v:Int) (m:Ai):Bool:=(m.Kind == 3) && ((m.From == id) && ((m.Slot == s) && decide (m.View < v)))
def G7 (id s v:Int) (b:Int×Int) (m:Ai):Int×Int:=bif HE id s v m && decide (m.View > b.1) then (m.View,m.Value) else b
def Eg (xs:List Ai) (id s v:Int):Int×Int:=xs.foldl (G7 id s v) (-1,0)
theorem OR {id s v:Int}:∀ (xs:List Ai) (b:Int×Int),(∀ m∈xs,0≤m.View)→(b = (-1,0)∨0≤b.1)→(xs.foldl (G7 id s v) b = (-1,0)∨0≤(xs.foldl (G7 id s v) b).1)
 | [],b,_,hb=>hb
 | m::xs,b,h,hb=>by
  rw [List.foldl_cons]
  refine OR xs _ (fun y hy=>h y (by simp [hy])) ?_
  unfold G7
  cases HE id s v m && decide (m.View > b.1)
  ·exact hb
  ·exact .inr (h m (by simp))
theorem Q0 (xs:List Ai) (id s v:Int) {i:Nat} (h:i < xs.length):Eg (xs.take (i + 1)) id s v = G7 id s v (Eg (xs.take i) id s v) xs[i]:=by
 unfold Eg
 rw [ER h,List.foldl_append]; rfl
def stI (s:Int) (b:Int×Int) (i:Nat):Bool×Int×Int×Int×Int:=bif decide (b.1 ≥ 0) then (true,(i:Int),s,b.1,b.2) else (false,(i:Int),0,0,0)
theorem YC (xs:List Ai) (id v:Int) (s1:Int×List AP) (h:xs.length≤1048576) (hv:∀ m∈xs,0≤m.View):AB (Gf xs id v s1) NN (false,0,0,0,0) = some (.exit 2 (stI s1.1 (Eg xs id s1.1 v) xs.length)):=by
 rw [Dk (f:=Gf xs id v s1) (s0:=(false,0,0,0,0)) (fun i=>stI s1.1 (Eg (xs.take i) id s1.1 v) i) xs.length (.exit 2 (stI s1.1 (Eg xs id s1.1 v) xs.length)) (fun i hi=>?_) ?_ rfl (CH h) rfl]
 ·unfold Gf stI
  rw [List.take_length]
  cases decide ((Eg xs id s1.1 v).1 ≥ 0) <;> simp only [cond_true,cond_false,Int.lt_irrefl,decide_false]
 ·have hc':(i:Int) < (xs.length:Int):=by omega
  have h0:=hv _ (List.getElem_mem hi)
  rw [Q0 xs id s1.1 v hi]
  rcases OR (id:=id) (s:=s1.1) (v:=v) (xs.take i) (-1,0) (fun m hm=>hv m (List.mem_of_mem_take hm)) (.inl rfl) with hb | hb
  ·have hb:Eg (xs.take i) id s1.1 v = (-1,0):=hb
   rw [hb]
   have e1:decide (xs[i].View > (-1:Int)) = true:=decide_eq_true (by omega)
   have e2:decide (xs[i].View ≥ 0) = true:=decide_eq_true h0
   unfold Gf G7 HE stI
   simp only [show decide ((-1:Int) ≥ 0) = false from rfl,cond_false,hc',decide_true,cond_true,BI hi,obs,wi1 (show i≤1099511627776 by omega),e1]
   cases xs[i].Kind == 3 <;> cases xs[i].From == id <;> cases xs[i].Slot == s1.1 <;> cases decide (xs[i].View < v) <;> simp [e2,Ak]
  ·have hb:0≤(Eg (xs.take i) id s1.1 v).1:=hb
   generalize Eg (xs.take i) id s1.1 v = b at hb
   have e2:decide (b.1 ≥ 0) = true:=decide_eq_true hb
   have e3:decide (xs[i].View ≥ 0) = true:=decide_eq_true h0
   unfold Gf G7 HE stI
   simp only [e2,cond_true,hc',decide_true,BI hi,obs,wi1 (show i≤1099511627776 by omega),Bool.not_true,cond_false]
   cases xs[i].Kind == 3 <;> cases xs[i].From == id <;> cases xs[i].Slot == s1.1 <;> cases decide (xs[i].View < v) <;> cases decide (xs[i].View > b.1) <;> simp [e2,e3,Ak]
def DI (xs:List Ai) (id v:Int):Nat→List AP
 | 0=>[]
 | i + 1=>DI xs id v i++(bif decide ((Eg xs id ((i:Int) + 1) v).1 ≥ 0) then [(⟨(i:Int) + 1,(Eg xs id ((i:Int) + 1) v).1,(Eg xs id ((i:Int) + 1) v).2⟩:AP)] else [])
theorem Gm (xs:List Ai) (id v:Int):∀ i,(DI xs id v i).length≤i
 | 0=>Nat.le_refl _
 | i + 1=>by
  have:=Gm xs id v i
  unfold DI
  cases decide ((Eg xs id ((i:Int) + 1) v).1 ≥ 0) <;> simp <;> omega
theorem appC {L:List AP} {k:AP} (h:L.length≤1000):Bw 24 L [k] = some (L++[k]):=by
 unfold Bw; rw [if_pos (by simp; omega)]
theorem Qv (xs:List Ai) (id v:Int) (h:xs.length≤1048576) (hv:∀ m∈xs,0≤m.View):Wt xs id v = some (DI xs id v 30):=by
 unfold Wt
 rw [Dk (f:=Jx xs id v) (s0:=(1,[])) (fun i=>((i:Int) + 1,DI xs id v i)) 30 (.exit 0 (31,DI xs id v 30)) (fun i hi=>?_) ?_ rfl (CH (by omega)) rfl]
 ·rfl
 ·rfl
 ·have hc:(i:Int) + 1≤30:=by omega
  have hl:=Gm xs id v i
  unfold Jx
  simp only [hc,decide_true,cond_true,YC xs id v _ h hv,obs,Ak,if_true,MP (show i≤1048576 by omega)]
  show _ = some (LO.norm (_,DI xs id v i++_))
  unfold stI
  cases decide ((Eg xs id ((i:Int) + 1) v).1 ≥ 0)
  ·simp [Ak]
  ·simp only [cond_true,appC (show (DI xs id v i).length≤1000 by omega),obs,Ak]
noncomputable def FL (c:Ab) (r:Af) (v:Int):BD:=bif !inR v 0 20 then ⟨3,⟨0,0,0,0,0,[],[]⟩⟩ else bif decide (v≤r.View) then ⟨8,⟨0,0,0,0,0,[],[]⟩⟩ else ⟨0,⟨4,v,r.Id,0,0,DI c.Ledger r.Id v 30,[]⟩⟩
theorem Xd {c:Ab} (O:Lp c) (r:Af) (g:F5 c) (v:Int):m70 r c.Ledger v = some (FL c r v):=by
 unfold m70 FL
 rw [Jr,Qv c.Ledger r.Id v g.led fun m hm=>(O.led.msg m hm).view.1]
 cases inR v 0 20 <;> cases decide (v≤r.View) <;> rfl
theorem Xe (c:Ab) (r:Af) (v:Int):Bz (FL c r v).Msg∧BM c.Ledger.length (FL c r v).Msg = false:=by
 have:=Gm c.Ledger r.Id v 30
 unfold FL
 cases inR v 0 20
 ·exact ⟨⟨Nat.zero_le _,Nat.zero_le _⟩,rfl⟩
 ·cases decide (v≤r.View)
  ·exact ⟨⟨Nat.le_trans this (by omega),Nat.zero_le _⟩,rfl⟩
  ·exact ⟨⟨Nat.zero_le _,Nat.zero_le _⟩,rfl⟩
def Qu (f:Int) (xs:List Ai) (v:Int) (L:List Int) (i:Nat):Bool:=decide ((L.length:Int) < Eo f) && ((Ci xs i == v) && (!decide (Bj xs i∈L.map (Bj xs)) && Du f xs i))
def chN (f:Int) (xs:List Ai) (v:Int):Nat→List Int
 | 0=>[]
 | i + 1=>bif Qu f xs v (chN f xs v i) i then chN f xs v i++[(i:Int)] else chN f xs v i
theorem N7 (f:Int) (xs:List Ai) (v:Int):∀ i,(chN f xs v i).length≤i
 | 0=>Nat.le_refl _
 | i + 1=>by
  have:=N7 f xs v i
  unfold chN
  cases Qu f xs v (chN f xs v i) i
  ·exact Nat.le_succ_of_le this
  ·simp; omega
theorem RS (f:Int) (xs:List Ai) (v:Int):∀ i,∀ r∈chN f xs v i,0≤r∧r < i
 | 0,r,h=>by cases h
 | i + 1,r,h=>by
  have ih:=RS f xs v i
  unfold chN at h
  cases hc:Qu f xs v (chN f xs v i) i
  ·rw [hc] at h
   have:=ih r h
   omega
  ·rw [hc] at h
   rcases List.mem_append.1 (show r∈chN f xs v i++[(i:Int)] from h) with h | h
   ·have:=ih r h; omega
   ·rw [List.mem_singleton.1 h]; omega
theorem Zb {f:Int} {xs:List Ai} (H:Dy f xs) (v:Int):Ws f xs v = some (chN f xs v xs.length):=by
 have hl:=H.len
 unfold Ws
 rw [Dk (f:=HY f xs v) (s0:=(0,[],[])) (fun i=>((i:Int),(chN f xs v i).map (Bj xs),chN f xs v i)) xs.length (.exit 0 ((xs.length:Int),(chN f xs v xs.length).map (Bj xs),chN f xs v xs.length)) (fun i hi=>?_) ?_ rfl (CH (by omega)) rfl]
 ·rfl
 ·unfold HY
  simp only [Int.lt_irrefl,decide_false,cond_false]
 ·have hc':(i:Int) < (xs.length:Int):=by omega
  have e1:Ci xs (i:Int) = xs[i].View:=by simp [Ci,BI hi]
  have e2:Bj xs (i:Int) = xs[i].From:=by simp [Bj,BI hi]
  have hL:=N7 f xs v i
  have hfl:((chN f xs v i).map (Bj xs)).length≤1000:=by simp; omega
  have hL':(chN f xs v i).length≤1000:=by omega
  have es:chN f xs v (i + 1) = bif Qu f xs v (chN f xs v i) i then chN f xs v i++[(i:Int)] else chN f xs v i:=rfl
  have hco:m58 ((chN f xs v i).map (Bj xs)) xs[i].From = some (decide (xs[i].From∈(chN f xs v i).map (Bj xs))):=IL (CH (by omega)) (Dv (by omega))
  rw [es]
  unfold HY
  simp only [hc',decide_true,cond_true,BI hi,obs,G6 H,hco,wi1 (show i≤1099511627776 by omega)]
  rw [show decide (((chN f xs v i).length:Int) < wi .i64 ((wi .i64 (2 * f)) + 1)) = decide (((chN f xs v i).length:Int) < Eo f) from rfl]
  unfold Qu
  rw [e1,e2]
  have a1:Bw 8 (chN f xs v i) [(i:Int)] = some (chN f xs v i++[(i:Int)]):=Q8 hL'
  have a2:Bw 8 ((chN f xs v i).map (Bj xs)) [xs[i].From] = some ((chN f xs v i).map (Bj xs)++[xs[i].From]):=Q8 hfl
  have e3:(chN f xs v i).map (Bj xs)++[xs[i].From] = (chN f xs v i++[(i:Int)]).map (Bj xs):=by rw [List.map_append,List.map_cons,e2]; rfl
  rw [e3] at a2
  cases decide (((chN f xs v i).length:Int) < Eo f)
  ·rfl
  cases xs[i].View == v
  ·rfl
  cases decide (xs[i].From∈(chN f xs v i).map (Bj xs))
  rotate_left
  ·rfl
  cases Du f xs i
  ·rfl
  simp only [cond_true,Bool.not_false,obs,Ak,a1,a2,Bool.and_self]
noncomputable def Ge (c:Ab) (r:Af):BD:=bif (r.View == 0) || ((r.Id != Ew c.F r.View) || (r.Start != (-1))) then ⟨8,⟨0,0,0,0,0,[],[]⟩⟩ else bif decide (((chN c.F c.Ledger r.View c.Ledger.length).length:Int) < Eo c.F) then ⟨10,⟨0,0,0,0,0,[],[]⟩⟩ else ⟨0,⟨5,r.View,r.Id,0,0,[],chN c.F c.Ledger r.View c.Ledger.length⟩⟩
theorem Yn {c:Ab} (O:Lp c) (r:Af):m72 r c.F c.Ledger = some (Ge c r):=by
 unfold m72 Ge
 simp only [obs,GK O.led.f12,bZ,Ak,Zb O.led]
 rw [show decide (((chN c.F c.Ledger r.View c.Ledger.length).length:Int) < wi .i64 ((wi .i64 (2 * c.F)) + 1)) = decide (((chN c.F c.Ledger r.View c.Ledger.length).length:Int) < Eo c.F) from rfl]
 cases ((r.View == 0) || ((r.Id != Ew c.F r.View) || (r.Start != (-1))))
 ·cases decide (((chN c.F c.Ledger r.View c.Ledger.length).length:Int) < Eo c.F) <;> rfl
 ·rfl
theorem QZ {c:Ab} (O:Lp c) (r:Af):Bz (Ge c r).Msg∧BM c.Ledger.length (Ge c r).Msg = false:=by
 have hl:=O.led.len
 have:=N7 c.F c.Ledger r.View c.Ledger.length
 unfold Ge
 cases ((r.View == 0) || ((r.Id != Ew c.F r.View) || (r.Start != (-1))))
 ·cases decide (((chN c.F c.Ledger r.View c.Ledger.length).length:Int) < Eo c.F)
  ·refine ⟨⟨Nat.zero_le _,by show (chN c.F c.Ledger r.View c.Ledger.length).length≤_; omega⟩,?_⟩
   show BM c.Ledger.length (⟨5,r.View,r.Id,0,0,[],chN c.F c.Ledger r.View c.Ledger.length⟩:Ai) = false
   unfold BM
   rw [List.any_eq_false]
   intro q hq
   have:=RS _ _ _ _ q hq
   simp; omega
  ·exact ⟨⟨Nat.zero_le _,Nat.zero_le _⟩,rfl⟩
 ·exact ⟨⟨Nat.zero_le _,Nat.zero_le _⟩,rfl⟩
theorem MA {α:Type} {p q:α→Bool} (l:List α) (h:∀ x∈l,p x = true→q x = true):(l.filter p).length≤(l.filter q).length:=by
 rw [← List.countP_eq_length_filter,← List.countP_eq_length_filter]
 exact List.countP_mono_left h
theorem EN {α:Type} {xs:List α} {m x:α} {i:Int} (h:Av xs i = some x):Av (xs++[m]) i = some x:=by
 unfold Av at h ⊢
 by_cases h0:0≤i
 ·rw [if_pos h0] at h ⊢
  have hi:=(List.getElem?_eq_some_iff.1 h).1
  rw [List.getElem?_append_left hi]; exact h
 ·rw [if_neg h0] at h; cases h
theorem Zi {α:Type} {xs:List α} {m:α} {p:α→Bool} (h:xs.any p = true):(xs++[m]).any p = true:=by
 rw [List.any_append,h,Bool.true_or]
theorem Fq {f:Int} {xs:List Ai} {k v s a:Int} (m:Ai) (h:BS f xs k v s a = true):BS f (xs++[m]) k v s a = true:=by
 unfold BS at h ⊢
 have h:=of_decide_eq_true h
 refine decide_eq_true ?_
 have:=MA (p:=IW xs k v s a) (q:=IW (xs++[m]) k v s a) (EQ (3 * f + 1).toNat) fun x _ hx=>Zi hx
 unfold J7 at h ⊢
 omega
theorem Gl {f:Int} {xs:List Ai} {x:Ai} (m:Ai) (h:Fv f xs x = true):Fv f (xs++[m]) x = true:=by
 unfold Fv at h ⊢
 rw [Bool.and_eq_true,Bool.and_eq_true,Bool.not_eq_true',List.any_eq_false] at h ⊢
 refine ⟨h.1,h.2.1,fun c hc=>?_⟩
 have h3:Jk f xs c = true:=by simpa using h.2.2 c hc
 have h4:Jk f (xs++[m]) c = true:=Fq m h3
 rw [h4]; decide
theorem N6 {f:Int} {xs:List Ai} {i:Int} (m:Ai) (h:Du f xs i = true):Du f (xs++[m]) i = true:=by
 obtain ⟨x,gx,_⟩:=Fz h
 unfold Du at h ⊢
 rw [gx] at h
 rw [EN gx]
 exact Gl m h
theorem M1 {f:Int} {xs:List Ai} {x:Ai} (m:Ai) (h:Jq f xs x = true):Jq f (xs++[m]) x = true:=by
 unfold Jq at h ⊢
 simp only [Bool.and_eq_true] at h ⊢
 refine ⟨h.1,h.2.1,h.2.2.1,?_⟩
 have h2:=h.2.2.2
 have hall:∀ j,j < x.Refs.length→Hr f xs x j = false:=by
  rcases Cd (Hr f xs x) x.Refs.length with k | ⟨i,k1,k2,k3⟩
  ·exact k
  ·rw [Ce k1 k2 k3] at h2; cases h2
 have hr:∀ j (hj:j < x.Refs.length),Du f xs x.Refs[j] = true∧Ci (xs++[m]) x.Refs[j] = Ci xs x.Refs[j]∧Bj (xs++[m]) x.Refs[j] = Bj xs x.Refs[j]:=fun j hj=>by
  have:=hall j hj
  rw [EW hj] at this
  simp only [Bool.or_eq_false_iff,Bool.not_eq_false'] at this
  obtain ⟨y,gy,_⟩:=Fz this.1
  exact ⟨this.1,by simp [Ci,gy,EN gy],by simp [Bj,gy,EN gy]⟩
 rw [Cf]
 ·rfl
 ·intro j hj
  have:=hall j hj
  have r:=hr j hj
  rw [EW hj] at this ⊢
  have e:(x.Refs.take j).map (Bj (xs++[m])) = (x.Refs.take j).map (Bj xs):=by
   refine List.map_congr_left fun a ha=>?_
   obtain ⟨q,hq,rfl⟩:=List.mem_iff_getElem.1 (List.mem_of_mem_take ha)
   exact (hr q hq).2.2
  rw [r.2.1,r.2.2,e,N6 m r.1]
  rw [r.1] at this
  exact this
theorem Tn {f:Int} {xs:List Ai} {i:Int} (m:Ai) (h:GV f xs i = true):GV f (xs++[m]) i = true:=by
 obtain ⟨x,gx,_⟩:=EX h
 unfold GV at h ⊢
 rw [gx] at h
 rw [EN gx]
 exact M1 m h
theorem WO {f:Int} {xs:List Ai} {s v:Int} (m:Ai) (h:Lx f xs s v = true):Lx f (xs++[m]) s v = true:=by
 unfold Lx at h ⊢
 rw [List.any_eq_true] at h ⊢
 obtain ⟨x,hx,h⟩:=h
 refine ⟨x,by simp [hx],?_⟩
 unfold OK at h ⊢
 rw [Bool.and_eq_true] at h ⊢
 exact ⟨h.1,Fq m h.2⟩
theorem Ti {f:Int} {xs:List Ai} {i:Nat} (m:Ai) (h:EG f xs i = false):EG f (xs++[m]) i = false:=by
 unfold EG at h ⊢
 have:=MA (p:=Lx f xs ((i:Int) + 1)) (q:=Lx f (xs++[m]) ((i:Int) + 1)) (Jg 13) fun v _ hv=>WO m hv
 unfold E9 at h ⊢
 rw [List.isEmpty_eq_false_iff_exists_mem] at h
 obtain ⟨v,hv⟩:=h
 have h2:=List.length_pos_of_mem hv
 have h3:0 < (List.filter (Lx f (xs++[m]) ((i:Int) + 1)) (Jg 13)).length:=by omega
 cases e:List.filter (Lx f (xs++[m]) ((i:Int) + 1)) (Jg 13) with
 | nil=>rw [e] at h3; cases h3
 | cons a b=>rfl
theorem O0 (f:Int) (xs:List Ai) {n:Nat} (hn:n≤30):n≤(E0 f xs).length ↔ ∀ j,j < n→EG f xs j = false:=by
 unfold E0
 rcases Cd (EG f xs) 30 with k | ⟨i,k1,k2,k3⟩
 ·rw [Cf k]
  show n≤(Ie f xs 30).length ↔ _
  rw [Ic]
  exact ⟨fun _ j hj=>k j (by omega),fun _=>hn⟩
 ·rw [Ce k1 k2 k3]
  show n≤(Ie f xs i).length ↔ _
  rw [Ic]
  refine ⟨fun h j hj=>k2 j (by omega),fun h=>?_⟩
  rcases Nat.lt_or_ge i n with hi | hi
  ·rw [h i hi] at k3; cases k3
  ·exact hi
theorem Wz (f:Int) (xs:List Ai) (m:Ai):(E0 f xs).length≤(E0 f (xs++[m])).length:=
 (O0 f (xs++[m]) (Jz f xs)).2 fun j hj=>Ti m ((O0 f xs (Jz f xs)).1 (Nat.le_refl _) j hj)
theorem Vj {f:Int} {xs:List Ai} {r:Af} (m:Ai) (h:CE f xs r = 0):CE f (xs++[m]) r = 0:=by
 have hl:=Wz f xs m
 unfold CE at h ⊢
 cases h1:Ei f r
 rotate_left
 ·rw [h1] at h; cases h
 cases h2:Dj f xs r
 rotate_left
 ·rw [h1,h2] at h; cases h
 rw [h1,h2] at h
 have h3:Dj f (xs++[m]) r = false:=by
  unfold Dj at h2 ⊢
  cases e:r.Start != (-1)
  ·rfl
  rw [e] at h2
  simp only [Bool.true_and,Bool.or_eq_false_iff,Bool.not_eq_false'] at h2 ⊢
  obtain ⟨x,gx,_⟩:=EX h2.2.1
  refine ⟨h2.1,Tn m h2.2.1,?_⟩
  have:Ci (xs++[m]) r.Start = Ci xs r.Start:=by simp [Ci,gx,EN gx]
  rw [this]; exact h2.2.2
 rw [h3]
 simp only [cond_false] at h ⊢
 cases h4:decide (r.Done > ((E0 f xs).length:Int))
 ·have h5:¬ r.Done > ((E0 f (xs++[m])).length:Int):=by
   have:=of_decide_eq_false h4
   omega
  rw [decide_eq_false h5]; rfl
 ·rw [h4] at h; cases h
theorem Y8 {f:Int} {xs:List Ai} {m:Ai} (h:Io f xs = 0) (hm:CX f m = 0) (hr:BM xs.length m = false) (hn:m ∉ xs) (hl:xs.length < 240):Io f (xs++[m]) = 0:=by
 unfold Io at h ⊢
 cases h1:inR f 1 2
 ·rw [h1] at h; cases h
 have e2:¬ ((xs.length:Int) > 240):=by omega
 have e3:¬ (((xs++[m]).length:Int) > 240):=by simp; omega
 rw [h1,decide_eq_false e2] at h
 rw [decide_eq_false e3]
 simp only [Bool.not_true,cond_false] at h ⊢
 have hall:∀ j,j < xs.length→Gh f xs j = false:=by
  rcases Cd (Gh f xs) xs.length with h' | ⟨i,k1,k2,k3⟩
  ·exact h'
  ·rw [Ce k1 k2 k3] at h
   simp only [orF] at h
   rw [Hz k1] at h
   cases e1:CX f xs[i] != 0
   ·rw [e1] at h
    cases e2:BM i xs[i] <;> rw [e2] at h <;> cases h
   ·rw [e1] at h
    simp only [cond_true] at h
    rw [h] at e1
    cases e1
 rw [Cf]
 ·rfl
 intro j hj
 have hj':j < xs.length + 1:=by simpa using hj
 rw [EY hj]
 by_cases hjx:j < xs.length
 ·have:=hall j hjx
  rw [EY hjx] at this
  have e:(xs++[m])[j] = xs[j]:=List.getElem_append_left hjx
  rw [e,List.take_append_of_le_length (by omega)]
  exact this
 ·have ej:j = xs.length:=by omega
  subst ej
  have e:(xs++[m])[xs.length] = m:=by simp
  rw [e,List.take_left,hm,hr,decide_eq_false hn]; rfl
theorem I9 {c:Ab} {m:Ai} (hp:(Ej c.Ledger m).2 = 0):(DR c m = c∧m∈c.Ledger)∨(DR c m = ⟨c.F,c.Bad,c.Replicas,c.Ledger++[m],c.Requests⟩∧m ∉ c.Ledger∧c.Ledger.length≠240):=by
 have hm:decide (atM c.Ledger m ≥ 0) = decide (m∈c.Ledger):=by
  unfold atM
  rw [H2,Gi,Bool.eq_iff_iff,List.any_eq_true,decide_eq_true_eq]
  exact ⟨fun ⟨x,hx,h⟩=>by have:=of_decide_eq_true h; subst this; exact hx,fun h=>⟨m,h,decide_eq_true rfl⟩⟩
 unfold DR
 unfold Ej at hp ⊢
 rw [hm] at hp ⊢
 by_cases h:m∈c.Ledger
 ·rw [decide_eq_true h]
  exact .inl ⟨rfl,h⟩
 ·rw [decide_eq_false h] at hp ⊢
  cases h2:(c.Ledger.length:Int) == 240
  ·refine .inr ⟨rfl,h,fun h3=>?_⟩
   rw [h3] at h2; cases h2
  ·rw [h2] at hp; cases hp
theorem Vy {c:Ab} {m:Ai} (F:Iw c) (hm:CX c.F m = 0) (hr:BM c.Ledger.length m = false) (hp:(Ej c.Ledger m).2 = 0):Iw (DR c m):=by
 rcases I9 hp with ⟨e,_⟩ | ⟨e,hn,hl⟩
 ·rw [e]; exact F
 have hl':=F.led.len
 have hc:=Y8 F.cl hm hr hn (by omega)
 rw [e]
 exact ⟨⟨OM hc,F.badl,F.reql,F.bad,F.ids,fun r hr=>Vj m (F.reps r hr)⟩,hc,F.reqs⟩
theorem ZX {p:Int→Bool} (h:3≤((EQ 4).filter p).length):∃ a,∀ id,1≤id∧id≤4→id≠a→p id = true:=by
 rw [show EQ 4 = [1,2,3,4] from rfl] at h
 have key:∀ a:Int,(∀ id∈[(1:Int),2,3,4],id≠a→p id = true)→∃ a,∀ id,1≤id∧id≤4→id≠a→p id = true:=fun a k=>⟨a,fun id hid hne=>k id (by simp; omega) hne⟩
 cases h1:p 1 <;> cases h2:p 2 <;> cases h3:p 3 <;> cases h4:p 4 <;> simp [List.filter,h1,h2,h3,h4] at h <;> first
  | (refine key 0 ?_; simp [h1,h2,h3,h4]; done)
  | (refine key 1 ?_; simp [h1,h2,h3,h4]; done)
  | (refine key 2 ?_; simp [h1,h2,h3,h4]; done)
  | (refine key 3 ?_; simp [h1,h2,h3,h4]; done)
  | (refine key 4 ?_; simp [h1,h2,h3,h4]; done)
theorem meet {p q:Int→Bool} {bs:List Int} (hb:bs.length≤1) (hp:3≤((EQ 4).filter p).length) (hq:3≤((EQ 4).filter q).length):∃ id,(1≤id∧id≤4)∧id ∉ bs∧p id = true∧q id = true:=by
 obtain ⟨a,ha⟩:=ZX hp
 obtain ⟨a',ha'⟩:=ZX hq
 obtain ⟨b,hbb⟩:∃ b,∀ x∈bs,x = b:=by
  match bs,hb with
  | [],_=>exact ⟨0,by simp⟩
  | [b],_=>exact ⟨b,by simp⟩
  | _::_::_,h=>simp at h
 obtain ⟨id,h1,h2,h3,h4⟩:∃ id:Int,(1≤id∧id≤4)∧id≠a∧id≠a'∧id≠b:=by
  have:((1:Int)≠a∧(1:Int)≠a'∧(1:Int)≠b)∨((2:Int)≠a∧(2:Int)≠a'∧(2:Int)≠b)∨((3:Int)≠a∧(3:Int)≠a'∧(3:Int)≠b)∨((4:Int)≠a∧(4:Int)≠a'∧(4:Int)≠b):=by omega
  rcases this with h | h | h | h
  ·exact ⟨1,by omega,h⟩
  ·exact ⟨2,by omega,h⟩
  ·exact ⟨3,by omega,h⟩
  ·exact ⟨4,by omega,h⟩
 exact ⟨id,h1,fun h=>h4 (hbb id h),ha id h1 h2,ha' id h1 h3⟩
def RR (x m:Ai):Bool:=(x.Kind == m.Kind) && ((x.From == m.From) && ((x.View == m.View) && (x.Slot == m.Slot)))
structure Inv (c:Ab):Prop where
 full:Iw c
 good:F5 c
 one:c.Ledger.Pairwise fun x m=>m.From ∉ c.Bad→m.Kind≤3→RR x m = false
 chg:∀ m∈c.Ledger,m.From ∉ c.Bad→m.Kind = 4→Fv c.F c.Ledger m = true
 com:∀ m∈c.Ledger,m.From ∉ c.Bad→m.Kind = 3→BS c.F c.Ledger 2 m.View m.Slot m.Value = true
 prv:∀ m∈c.Ledger,m.From ∉ c.Bad→m.Kind = 2→m.Value≤5
 f1:c.F = 1
 five:c.Requests.length≤5
structure ML (c:Ab) (m:Ai):Prop where
 code:CX c.F m = 0
 refs:BM c.Ledger.length m = false
 one:m.From ∉ c.Bad→m.Kind≤3→∀ x∈c.Ledger,RR x m = false
 chg:m.From ∉ c.Bad→m.Kind = 4→Fv c.F c.Ledger m = true
 com:m.From ∉ c.Bad→m.Kind = 3→BS c.F c.Ledger 2 m.View m.Slot m.Value = true
 prv:m.From ∉ c.Bad→m.Kind = 2→m.Value≤5
theorem Nw {c:Ab} {m:Ai} (I:Inv c) (S:ML c m) (gm:Bz m) (hp:(Ej c.Ledger m).2 = 0):Inv (DR c m):=by
 have P:=Vy I.full S.code S.refs hp
 have G:=LP I.good I.full.led.len gm
 rcases I9 hp with ⟨e,_⟩ | ⟨e,hn,hl⟩
 ·rw [e]; exact I
 rw [e] at P G ⊢
 refine ⟨P,G,List.pairwise_append.2 ⟨I.one,List.pairwise_singleton _ _,fun x hx y hy=>?_⟩,fun x hx h1 h2=>?_,fun x hx h1 h2=>?_,fun x hx h1 h2=>?_,I.f1,I.five⟩
 ·rw [List.mem_singleton.1 hy]
  exact fun h1 h2=>S.one h1 h2 x hx
 ·rcases List.mem_append.1 hx with hx | hx
  ·exact Gl m (I.chg x hx h1 h2)
  ·rw [List.mem_singleton.1 hx] at h1 h2 ⊢
   exact Gl m (S.chg h1 h2)
 ·rcases List.mem_append.1 hx with hx | hx
  ·exact Fq m (I.com x hx h1 h2)
  ·rw [List.mem_singleton.1 hx] at h1 h2 ⊢
   exact Fq m (S.com h1 h2)
 ·rcases List.mem_append.1 hx with hx | hx
  ·exact I.prv x hx h1 h2
  ·rw [List.mem_singleton.1 hx] at h1 h2 ⊢
   exact S.prv h1 h2
theorem W6 {c:Ab} {m:Ai} (I:Inv c) (S:ML c m) (gm:Bz m) (h:(HH c m).Code = 0):Inv (HH c m).Cluster:=by
 unfold HH at h ⊢
 cases hp:(Ej c.Ledger m).2 != 0
 ·exact Nw I S gm (by simpa using hp)
 ·rw [hp] at h
  exact absurd h (by simpa using hp)
theorem J1 {c:Ab} (I:Inv c) {k:Nat} (hk:k < c.Replicas.length) {r:Af} (hid:r.Id = c.Replicas[k].Id) (hr:CE c.F c.Ledger r = 0):Inv ⟨c.F,c.Bad,c.Replicas.set k r,c.Ledger,c.Requests⟩:=by
 have F:=I.full
 have g:=I.good
 refine ⟨⟨⟨F.led,F.badl,F.reql,F.bad,?_,fun x hx=>?_⟩,F.cl,F.reqs⟩,⟨g.bad,by simp only [List.length_set]; exact g.rep,g.led,g.msg,g.req,g.ops⟩,I.one,I.chg,I.com,I.prv,I.f1,I.five⟩
 ·show (c.Replicas.set k r).map (·.Id) = _
  rw [← F.ids]
  refine List.ext_getElem (by simp) fun i h1 h2=>?_
  simp only [List.getElem_map,List.getElem_set]
  split
  ·rename_i e
   subst e
   exact hid
  ·rfl
 ·rcases List.mem_or_eq_of_mem_set hx with h | h
  ·exact F.reps x h
  ·rw [h]; exact hr
theorem Ee {f:Int} {xs:List Ai} {r:Af} (h:CE f xs r = 0):Ei f r = false∧Dj f xs r = false∧r.Done≤((E0 f xs).length:Int):=by
 unfold CE at h
 cases h1:Ei f r
 rotate_left
 ·rw [h1] at h; cases h
 cases h2:Dj f xs r
 rotate_left
 ·rw [h1,h2] at h; cases h
 rw [h1,h2] at h
 cases h3:decide (r.Done > ((E0 f xs).length:Int))
 ·exact ⟨rfl,rfl,by have:=of_decide_eq_false h3; omega⟩
 ·rw [h3] at h; cases h
theorem HL {f:Int} {xs:List Ai} {r:Af} (h1:Ei f r = false) (h2:Dj f xs r = false) (h3:r.Done≤((E0 f xs).length:Int)):CE f xs r = 0:=by
 unfold CE
 rw [h1,h2,decide_eq_false (show ¬ r.Done > ((E0 f xs).length:Int) by omega)]; rfl
theorem DC {f:Int} {r:Af} (h:Ei f r = false):(1≤r.Id∧r.Id≤CG f)∧(0≤r.View∧r.View≤20)∧(0≤r.Done∧r.Done≤30):=by
 unfold Ei at h
 simp only [Bool.or_eq_false_iff,Bool.not_eq_false',BP] at h
 exact h
theorem NF {f:Int} {r:Af} (h1:1≤r.Id∧r.Id≤CG f) (h2:0≤r.View∧r.View≤20) (h3:0≤r.Done∧r.Done≤30):Ei f r = false:=by
 unfold Ei
 rw [BP.2 h1,BP.2 h2,BP.2 h3]; rfl
theorem TX {f:Int} {m:Ai} (hk:1≤m.Kind∧m.Kind≤3) (hc:m.Certs = []) (hr:m.Refs = []) (hv:0≤m.View∧m.View≤20) (hf:1≤m.From∧m.From≤CG f) (hm:1≤f∧f≤2) (hs:1≤m.Slot∧m.Slot≤30) (ha:0≤m.Value∧m.Value≤12):CX f m = 0:=by
 have e1:Is m = true:=by
  unfold Is
  rw [BP.2 (show 1≤m.Kind∧m.Kind≤5 by omega),BP.2 hk,hc,hr]
  simp
 have e2:ET f m = false:=by
  unfold ET
  rw [BP.2 hv,BP.2 hf,BP.2 hs,BP.2 ha]
  simp
 have e3:¬ (0:Int) > CG f:=by rw [D7 hm]; omega
 unfold CX
 rw [e1,e2,hc,hr]
 simp only [cond_true,cond_false,List.length_nil,List.map_nil,List.any_nil]
 have e4:FG [] = true:=rfl
 rw [e4]
 simp [e3]
theorem TG {c:Ab} (O:Lp c) {k:Nat} (hk:k < c.Replicas.length):c.Replicas[k].Id ∉ c.Bad:=by
 have h:c.Replicas[k].Id∈c.Replicas.map (·.Id):=List.mem_map.2 ⟨_,List.getElem_mem hk,rfl⟩
 rw [O.ids] at h
 have:=(List.mem_filter.1 h).2
 unfold PO at this
 simpa using this
theorem VG {r:Af} {k s:Int} {xs:List Ai} {m:Ai} (h:xs.any (DK r k s) = false) (h1:m.Kind = k) (h2:m.From = r.Id) (h3:m.View = r.View) (h4:m.Slot = s):∀ x∈xs,RR x m = false:=fun x hx=>by
 have:=List.any_eq_false.1 h x hx
 unfold DK at this
 unfold RR
 rw [h1,h2,h3,h4]
 revert this
 cases x.Kind == k <;> cases x.From == r.Id <;> cases x.View == r.View <;> cases x.Slot == s <;> simp
theorem Hk {c:Ab} (I:Inv c) {k:Nat} (hk:k < c.Replicas.length) {q s v:Int} (hq:1≤q∧q≤3) (hs:1≤s∧s≤30) (hv:0≤v∧v≤12) (ha:c.Ledger.any (DK c.Replicas[k] q s) = false) (hc:q = 3→BS c.F c.Ledger 2 c.Replicas[k].View s v = true) (hp:q = 2→v≤5):ML c ⟨q,c.Replicas[k].View,c.Replicas[k].Id,s,v,[],[]⟩:=by
 obtain ⟨b1,b2,_⟩:=DC (Ee (I.full.reps _ (List.getElem_mem hk))).1
 refine ⟨TX hq rfl rfl b2 b1 I.full.led.f12 hs hv,rfl,fun _ _=>VG ha rfl rfl rfl rfl,fun _ h=>?_,fun _ h=>hc h,fun _ h=>hp h⟩
 exfalso
 have h:q = 4:=h
 omega
theorem NT {xs:List Ai} {k v s a id:Int} (h:IW xs k v s a id = true):∃ x∈xs,x.Kind = k∧x.View = v∧x.Slot = s∧x.Value = a∧x.From = id:=by
 unfold IW Gy at h
 rw [List.any_eq_true] at h
 obtain ⟨x,hx,h⟩:=h
 simp only [Bool.and_eq_true,beq_iff_eq] at h
 exact ⟨x,hx,h.1.1,h.1.2.1,h.1.2.2.1,h.1.2.2.2,h.2⟩
theorem Nb {c:Ab} (I:Inv c) {k v s a:Int} (h:BS c.F c.Ledger k v s a = true):3≤((EQ 4).filter (IW c.Ledger k v s a)).length:=by
 unfold BS J7 Eo at h
 rw [I.f1] at h
 have h:=of_decide_eq_true h
 have e:wi .i64 (wi .i64 (2 * 1) + 1) = 3:=rfl
 rw [e] at h
 have h:(3:Int)≤(((EQ 4).filter (IW c.Ledger k v s a)).length:Int):=h
 omega
theorem Zw {c:Ab} (I:Inv c) {p q:Int→Bool} (hp:3≤((EQ 4).filter p).length) (hq:3≤((EQ 4).filter q).length):∃ id,(1≤id∧id≤4)∧id ∉ c.Bad∧p id = true∧q id = true:=
 meet (by have:=I.full.badl; rw [I.f1] at this; omega) hp hq
theorem OL {c:Ab} (I:Inv c) {v s a:Int} (h:BS c.F c.Ledger 3 v s a = true):BS c.F c.Ledger 2 v s a = true:=by
 obtain ⟨id,_,hb,h1,_⟩:=Zw I (Nb I h) (Nb I h)
 obtain ⟨x,hx,k1,k2,k3,k4,k5⟩:=NT h1
 have:=I.com x hx (by rw [k5]; exact hb) k1
 rw [k2,k3,k4] at this
 exact this
theorem LR {c:Ab} (I:Inv c) {v s a:Int} (h:BS c.F c.Ledger 2 v s a = true):0≤a∧a≤5:=by
 obtain ⟨id,_,hb,h1,_⟩:=Zw I (Nb I h) (Nb I h)
 obtain ⟨x,hx,k1,k2,k3,k4,k5⟩:=NT h1
 have h2:=I.prv x hx (by rw [k5]; exact hb) k1
 have h3:=(I.full.led.msg x hx).value (by omega)
 omega
theorem Nx {c:Ab} (I:Inv c):Zq c.F c.Ledger:=fun s n=>by
 refine Nat.le_trans ((N3 _ _ _ List.nodup_nil).length_le_of_subset (l₂:=[0,1,2,3,4,5]) fun v hv=>?_) (by decide)
 rw [KR] at hv
 rcases hv with hv | ⟨x,hx,h,rfl⟩
 ·cases hv
 ·unfold Fb at h
  rw [Bool.and_eq_true,Bool.and_eq_true] at h
  have:=LR I (OL I h.2.2)
  simp
  omega
theorem QN {xs:List Int} (h:xs.Pairwise (· < ·)):FG xs = true:=by
 unfold FG
 rw [Cf]
 ·rfl
 intro i hi
 unfold Gq
 by_cases h0:0 < i
 ·have:=List.pairwise_iff_getElem.1 h (i - 1) i (by omega) hi (by omega)
  have e1:A xs i = xs[i]:=by simp [A,hi]
  have e2:A xs (i - 1) = xs[i - 1]:=by simp [A,show i - 1 < xs.length by omega]
  rw [e1,e2,decide_eq_false (show ¬ xs[i]≤xs[i - 1] by omega),Bool.and_false]
 ·rw [decide_eq_false h0,Bool.false_and]
theorem OQ {id s v:Int}:∀ (xs:List Ai) (b:Int×Int),xs.foldl (G7 id s v) b = b∨∃ m∈xs,HE id s v m = true∧xs.foldl (G7 id s v) b = (m.View,m.Value)
 | [],b=>.inl rfl
 | m::xs,b=>by
  rw [List.foldl_cons]
  rcases OQ xs (G7 id s v b m) with h | ⟨x,hx,h1,h2⟩
  ·rw [h]
   unfold G7
   cases e:HE id s v m
   ·exact .inl rfl
   ·cases decide (m.View > b.1)
    ·exact .inl rfl
    ·exact .inr ⟨m,by simp,e,rfl⟩
  ·exact .inr ⟨x,by simp [hx],h1,h2⟩
theorem IR {xs:List Ai} {id v:Int}:∀ (i:Nat),∀ c∈DI xs id v i,(1≤c.Slot∧c.Slot≤i)∧∃ m∈xs,HE id c.Slot v m = true∧c.View = m.View∧c.Value = m.Value
 | 0,c,h=>by cases h
 | i + 1,c,h=>by
  unfold DI at h
  rcases List.mem_append.1 h with h | h
  ·obtain ⟨h1,h2⟩:=IR i c h
   exact ⟨by omega,h2⟩
  ·cases e:decide ((Eg xs id ((i:Int) + 1) v).1 ≥ 0)
   ·rw [e] at h; cases h
   ·rw [e,cond_true,List.mem_singleton] at h
    rcases OQ (id:=id) (s:=(i:Int) + 1) (v:=v) xs (-1,0) with hb | ⟨m,hm,h1,h2⟩
    ·have hb:Eg xs id ((i:Int) + 1) v = (-1,0):=hb
     rw [hb] at e; cases e
    ·have h2:Eg xs id ((i:Int) + 1) v = (m.View,m.Value):=h2
     rw [h2] at h
     subst h
     exact ⟨by show 1≤(i:Int) + 1∧(i:Int) + 1≤((i + 1:Nat):Int); omega,m,hm,h1,rfl,rfl⟩
theorem ON (xs:List Ai) (id v:Int):∀ i,((DI xs id v i).map (·.Slot)).Pairwise (· < ·)
 | 0=>List.Pairwise.nil
 | i + 1=>by
  unfold DI
  rw [List.map_append]
  refine List.pairwise_append.2 ⟨ON xs id v i,?_,fun a ha b hb=>?_⟩
  ·cases decide ((Eg xs id ((i:Int) + 1) v).1 ≥ 0)
   ·exact List.Pairwise.nil
   ·exact List.pairwise_singleton _ _
  ·obtain ⟨c,hc,rfl⟩:=List.mem_map.1 ha
   have:=(IR i c hc).1
   cases e:decide ((Eg xs id ((i:Int) + 1) v).1 ≥ 0)
   ·rw [e] at hb; cases hb
   ·rw [e] at hb
    have hb:b = (i:Int) + 1:=by simpa using hb
    omega
theorem Pn {id s v:Int} {m:Ai} (h:HE id s v m = true):m.Kind = 3∧m.From = id∧m.Slot = s∧m.View < v:=by
 unfold HE at h
 simpa using h
theorem TZ {c:Ab} (I:Inv c) {k:Nat} (hk:k < c.Replicas.length) {v:Int} (h:(FL c c.Replicas[k] v).Code = 0):(FL c c.Replicas[k] v).Msg = ⟨4,v,c.Replicas[k].Id,0,0,DI c.Ledger c.Replicas[k].Id v 30,[]⟩∧(0≤v∧v≤20)∧ML c (FL c c.Replicas[k] v).Msg:=by
 have O:=I.full.toLp
 have H:=O.led
 obtain ⟨b1,b2,_⟩:=DC (Ee (O.reps _ (List.getElem_mem hk))).1
 have hid:=TG O hk
 generalize c.Replicas[k] = r at b1 b2 hid h ⊢
 unfold FL at h ⊢
 cases e1:inR v 0 20
 ·rw [e1] at h; cases h
 have hv:=BP.1 e1
 rw [e1] at h
 by_cases e2:v≤r.View
 ·rw [decide_eq_true e2] at h; cases h
 rw [decide_eq_false e2]
 clear h
 have hc:∀ x∈DI c.Ledger r.Id v 30,((1≤x.Slot∧x.Slot≤30)∧(0≤x.View∧x.View≤v - 1)∧(0≤x.Value∧x.Value≤12))∧Jk c.F c.Ledger x = true:=fun x hx=>by
  obtain ⟨q1,m,hm,q2,q3,q4⟩:=IR 30 x hx
  obtain ⟨t1,t2,t3,t4⟩:=Pn q2
  have M:=H.msg m hm
  have:=M.view
  have:=M.value (by omega)
  refine ⟨⟨q1,by omega,by omega⟩,?_⟩
  unfold Jk
  rw [q3,q4,← t3]
  exact I.com m hm (by rw [t2]; exact hid) t1
 have hl:=Gm c.Ledger r.Id v 30
 have hp:=ON c.Ledger r.Id v 30
 generalize DI c.Ledger r.Id v 30 = C at hl hp hc ⊢
 simp only [Bool.not_true,cond_false]
 refine ⟨trivial,hv,?_,rfl,fun _ hq=>?_,fun _ _=>?_,fun _ hq=>?_,fun _ hq=>?_⟩
 ·have e3:ET c.F ⟨4,v,r.Id,0,0,C,[]⟩ = false:=by
   unfold ET
   dsimp only
   rw [e1,BP.2 b1]; rfl
  have e4:C.any (F3 v) = false:=by
   rw [List.any_eq_false]
   intro x hx
   obtain ⟨⟨h1,h2,h3⟩,_⟩:=hc x hx
   unfold F3
   rw [BP.2 h1,DV (by omega) (by omega),BP.2 h2,BP.2 h3]
   simp
  have e5:¬ (C.length:Int) > 30:=by omega
  have e6:¬ ((([]:List Int).length:Nat):Int) > CG c.F:=by have hf:=H.f12; rw [D7 hf]; simp; omega
  unfold CX
  rw [show Is (⟨4,v,r.Id,0,0,C,[]⟩:Ai) = true from rfl,e3]
  dsimp only
  rw [decide_eq_false e5,decide_eq_false e6,QN hp,e4]
  rfl
 ·exfalso
  have hq:(4:Int)≤3:=hq
  omega
 ·unfold Fv
  dsimp only
  rw [decide_eq_true (show v > 0 by omega)]
  simp only [beq_self_eq_true,Bool.true_and,Bool.not_eq_true',List.any_eq_false]
  intro x hx
  rw [(hc x hx).2]
  decide
 ·exfalso
  have hq:(4:Int) = 3:=hq
  omega
 ·exfalso
  have hq:(4:Int) = 2:=hq
  omega
theorem On {f:Int} (h:1≤f∧f≤2):Eo f = 2 * f + 1:=by
 unfold Eo
 rw [DV (x:=2 * f) (by omega) (by omega),DV (by omega) (by omega)]
structure fY (f:Int) (xs:List Ai) (v:Int) (L:List Int) (i:Nat):Prop where
 pw:L.Pairwise (· < ·)
 lt:∀ r∈L,0≤r∧r < i
 ok:∀ r∈L,Du f xs r = true∧Ci xs r = v
 nd:(L.map (Bj xs)).Nodup
 few:(L.length:Int)≤Eo f
theorem Xf {f:Int} (hf:1≤f∧f≤2) (xs:List Ai) (v:Int):∀ i,fY f xs v (chN f xs v i) i
 | 0=>⟨List.Pairwise.nil,fun r h=>(by cases h),fun r h=>(by cases h),List.nodup_nil,(by rw [On hf]; show (0:Int)≤_; omega)⟩
 | i + 1=>by
  have K:=Xf hf xs v i
  unfold chN
  cases e:Qu f xs v (chN f xs v i) i
  ·exact ⟨K.pw,fun r h=>(by have:=K.lt r h; omega),K.ok,K.nd,K.few⟩
  unfold Qu at e
  rw [Bool.and_eq_true,Bool.and_eq_true,Bool.and_eq_true] at e
  obtain ⟨e1,e2,e3,e4⟩:=e
  have e1:=of_decide_eq_true e1
  have e3:Bj xs (i:Int) ∉ (chN f xs v i).map (Bj xs):=by simpa using e3
  refine ⟨List.pairwise_append.2 ⟨K.pw,List.pairwise_singleton _ _,fun a ha b hb=>?_⟩,fun r h=>?_,fun r h=>?_,?_,?_⟩
  ·rw [List.mem_singleton.1 hb]; exact (K.lt a ha).2
  ·rcases List.mem_append.1 h with h | h
   ·have:=K.lt r h; omega
   ·rw [List.mem_singleton.1 h]; omega
  ·rcases List.mem_append.1 h with h | h
   ·exact K.ok r h
   ·rw [List.mem_singleton.1 h]; exact ⟨e4,by simpa using e2⟩
  ·show ((chN f xs v i++[(i:Int)]).map (Bj xs)).Nodup
   rw [List.map_append,List.nodup_append]
   refine ⟨K.nd,by simp,fun a ha b hb hab=>?_⟩
   have hb:b = Bj xs (i:Int):=by simpa using hb
   rw [hab,hb] at ha
   exact e3 ha
  ·show ((chN f xs v i++[(i:Int)]).length:Int)≤Eo f
   simp; omega
theorem Tj {f:Int} {xs:List Ai} (hf:1≤f∧f≤2) {v id:Int} {L:List Int} {i:Nat} (K:fY f xs v L i) (hv:0 < v) (hid:id = Ew f v) (hn:Eo f≤(L.length:Int)):Jq f xs ⟨5,v,id,0,0,[],L⟩ = true:=by
 unfold Jq
 dsimp only
 rw [decide_eq_true (show v > 0 from hv),hid,decide_eq_false (show ¬ ((L.length:Nat):Int) < Eo f by omega),Cf]
 ·simp
 intro j hj
 have hj:j < L.length:=hj
 rw [EW (m:=(⟨5,v,Ew f v,0,0,[],L⟩:Ai)) hj]
 dsimp only
 obtain ⟨h1,h2⟩:=K.ok _ (List.getElem_mem hj)
 have h3:Bj xs L[j] ∉ (L.take j).map (Bj xs):=fun h=>by
  obtain ⟨a,ha,hab⟩:=List.mem_map.1 h
  obtain ⟨q,hq,rfl⟩:=List.mem_iff_getElem.1 ha
  have hq':q < j:=by simp at hq; omega
  have:=List.pairwise_iff_getElem.1 K.nd q j (by simp; omega) (by simpa using hj) hq'
  simp only [List.getElem_map] at this
  rw [List.getElem_take] at hab
  exact this hab
 rw [h1,h2,decide_eq_false h3]
 simp
theorem VI {f:Int} {xs:List Ai} (hf:1≤f∧f≤2) {v id:Int} {L:List Int} {i:Nat} (K:fY f xs v L i) (hi:i≤240) (hv:0≤v∧v≤20) (hid:1≤id∧id≤CG f):CX f ⟨5,v,id,0,0,[],L⟩ = 0:=by
 have e3:ET f ⟨5,v,id,0,0,[],L⟩ = false:=by
  unfold ET
  dsimp only
  rw [BP.2 hv,BP.2 hid]; rfl
 have e6:¬ ((L.length:Nat):Int) > CG f:=by
  have:=K.few
  rw [On hf] at this
  rw [D7 hf]; omega
 have e4:L.any Ho = false:=by
  rw [List.any_eq_false]
  intro r hr
  have:=K.lt r hr
  unfold Ho
  rw [BP.2 (show 0≤r∧r≤239 by omega)]
  simp
 unfold CX
 rw [show Is (⟨5,v,id,0,0,[],L⟩:Ai) = true from rfl,e3]
 dsimp only
 rw [decide_eq_false e6,QN K.pw,e4]
 rfl
theorem Xs {xs:List Ai} {m:Ai} (h:m∈xs):Av xs (atM xs m) = some m:=by
 unfold atM
 obtain ⟨j,hj,rfl⟩:=List.mem_iff_getElem.1 h
 rcases Cd (pAt (fun x=>decide (x = xs[j])) xs) xs.length with k | ⟨i,k1,k2,k3⟩
 ·have:=k j hj
  rw [Em hj] at this
  simp at this
 ·rw [Ce k1 k2 k3]
  rw [Em k1] at k3
  have k3:=of_decide_eq_true k3
  show Av xs ((i:Nat):Int) = _
  rw [BI k1,k3]
theorem NM {f:Int} {xs:List Ai} {r:Af} (hn:GV f xs r.Start = true) (hv:Ci xs r.Start = r.View):Dj f xs r = false:=by
 obtain ⟨x,gx,hx⟩:=EX hn
 have h0:x.View > 0:=by
  unfold GV at hn
  rw [gx] at hn
  have hn:Jq f xs x = true:=hn
  unfold Jq at hn
  rw [Bool.and_eq_true,Bool.and_eq_true] at hn
  exact of_decide_eq_true hn.1.2
 have e:(r.View == 0) = false:=by
  rw [beq_eq_false_iff_ne]; omega
 unfold Dj
 rw [hn,hv,e]
 simp
theorem VD {c:Ab} (I:Inv c) {k:Nat} (hk:k < c.Replicas.length) (h:(Ge c c.Replicas[k]).Code = 0):((Ge c c.Replicas[k]).Msg.View = c.Replicas[k].View∧Jq c.F c.Ledger (Ge c c.Replicas[k]).Msg = true)∧ML c (Ge c c.Replicas[k]).Msg:=by
 have O:=I.full.toLp
 have H:=O.led
 have hl:=H.len
 obtain ⟨b1,b2,_⟩:=DC (Ee (O.reps _ (List.getElem_mem hk))).1
 have K:=Xf H.f12 c.Ledger c.Replicas[k].View c.Ledger.length
 have hrf:=(QZ O c.Replicas[k]).2
 unfold Ge at h hrf ⊢
 cases e1:((c.Replicas[k].View == 0) || ((c.Replicas[k].Id != Ew c.F c.Replicas[k].View) || (c.Replicas[k].Start != (-1))))
 rotate_left
 ·rw [e1] at h; cases h
 rw [e1] at h hrf
 by_cases e2:(((chN c.F c.Ledger c.Replicas[k].View c.Ledger.length).length:Nat):Int) < Eo c.F
 ·rw [decide_eq_true e2] at h; cases h
 rw [decide_eq_false e2] at hrf ⊢
 simp only [Bool.or_eq_false_iff,bne_eq_false_iff_eq,beq_eq_false_iff_ne,ne_eq] at e1
 have hM:=Tj H.f12 K (show 0 < c.Replicas[k].View by omega) e1.2.1 (by omega)
 refine ⟨⟨rfl,hM⟩,VI H.f12 K hl b2 b1,hrf,fun _ hq=>?_,fun _ hq=>?_,fun _ hq=>?_,fun _ hq=>?_⟩
 ·exfalso
  have hq:(5:Int)≤3:=hq
  omega
 ·exfalso
  have hq:(5:Int) = 4:=hq
  omega
 ·exfalso
  have hq:(5:Int) = 3:=hq
  omega
 ·exfalso
  have hq:(5:Int) = 2:=hq
  omega
theorem Yo {c:Ab} (I:Inv c) {m:Ai} (I1:Inv (DR c m)) {k:Nat} (hk:k < c.Replicas.length) (hM:m.View = c.Replicas[k].View∧Jq c.F c.Ledger m = true) (hp:(Ej c.Ledger m).2 = 0):Inv ⟨(DR c m).F,(DR c m).Bad,(DR c m).Replicas.set k { c.Replicas[k] with Start:=atM (DR c m).Ledger m },(DR c m).Ledger,(DR c m).Requests⟩:=by
 obtain ⟨q1,q2,q3⟩:=Ee (I1.full.reps _ (List.getElem_mem hk))
 have hg:Av (DR c m).Ledger (atM (DR c m).Ledger m) = some m∧Jq c.F (DR c m).Ledger m = true:=by
  rcases I9 hp with ⟨e,h⟩ | ⟨e,_⟩
  ·rw [e]; exact ⟨Xs h,hM.2⟩
  ·rw [e]; exact ⟨Xs (by simp),M1 m hM.2⟩
 refine J1 I1 hk rfl (HL q1 (NM ?_ ?_) q3)
 ·show GV c.F (DR c m).Ledger (atM (DR c m).Ledger m) = true
  unfold GV
  rw [hg.1]
  exact hg.2
 ·show Ci (DR c m).Ledger (atM (DR c m).Ledger m) = c.Replicas[k].View
  unfold Ci
  rw [hg.1]
  exact hM.1
theorem Vh {xs:List Ag} (h:EB xs = 0):∀ i,i < xs.length→ES xs i = false:=by
 unfold EB at h
 rcases Cd (ES xs) xs.length with k | ⟨i,k1,k2,k3⟩
 ·exact k
 ·rw [Ce k1 k2 k3] at h
  have h:JG xs i = 0:=h
  rw [JF k1] at h
  cases e:Ds xs[i] != 0
  ·rw [e] at h; cases h
  ·rw [e] at h
   exact absurd h (by simpa using e)
theorem Vg {xs:List Ag} {r:Ag} (h:EB xs = 0) (hr:Ds r = 0) (hn:xs.any (GZ r) = false):EB (xs++[r]) = 0:=by
 have hall:=Vh h
 unfold EB
 rw [Cf]
 ·rfl
 intro j hj
 have hj':j < xs.length + 1:=by simpa using hj
 rw [EM hj]
 by_cases hjx:j < xs.length
 ·have:=hall j hjx
  rw [EM hjx] at this
  have e:(xs++[r])[j] = xs[j]:=List.getElem_append_left hjx
  rw [e,List.take_append_of_le_length (by omega)]
  exact this
 ·have ej:j = xs.length:=by omega
  subst ej
  have e:(xs++[r])[xs.length] = r:=by simp
  rw [e,List.take_left,hr,hn]; rfl
theorem TF {c:Ab} {r:Ag} (I:Inv c) (gr:If r) (hr:Ds r = 0) (hn:c.Requests.any (GZ r) = false) (hl:c.Requests.length < 5):Inv ⟨c.F,c.Bad,c.Replicas,c.Ledger,c.Requests++[r]⟩:=by
 have F:=I.full
 have g:=I.good
 refine ⟨⟨⟨F.led,F.badl,by show (c.Requests++[r]).length≤12; simp; omega,F.bad,F.ids,F.reps⟩,F.cl,Vg F.reqs hr hn⟩,⟨g.bad,g.rep,g.led,g.msg,by show (c.Requests++[r]).length≤_; simp; omega,fun x hx=>?_⟩,I.one,I.chg,I.com,I.prv,I.f1,by show (c.Requests++[r]).length≤5; simp; omega⟩
 rcases List.mem_append.1 hx with h | h
 ·exact g.ops x h
 ·rw [List.mem_singleton.1 h]; exact gr
theorem FS (c:Ab) (id:Int) (h:c.Replicas.length≤1048576):(SS c id = none∧Gg c id = some none)∨∃ (i:Nat) (hi:i < c.Replicas.length),SS c id = some i∧Gg c id = some (some (i:Int)):=by
 unfold Gg
 rw [show m54 c.Replicas (fun x0_=>some (m55 x0_ id)) = some (ixI (SS c id)) from IK (CH h) (Dv h) (fun x _=>rfl),obs]
 cases e:SS c id with
 | none=>exact .inl ⟨rfl,rfl⟩
 | some i=>
  have hi:=(Ig.1 e).1
  refine .inr ⟨i,hi,rfl,?_⟩
  have h1:¬ (ixI (some i) < 0):=by simp [ixI]
  simp only [h1,decide_false,cond_false]
  rw [show ixI (some i) = (i:Int) from rfl,BI hi]; rfl
theorem IO_ {c:Ab} (I:Inv c):m20 c = some 0:=by
 exact TY I.good I.full (Nx I)
theorem V2 {f:Int} {xs:List Ai} {r:Af} {s v:Int} (h:FX f xs r s v = 0):(1≤s∧s≤30)∧(0≤v∧v≤12)∧xs.any (DK r 1 s) = false:=by
 unfold FX at h
 cases e1:inR s 1 30 && inR v 0 12
 ·rw [e1] at h; cases h
 cases e2:(!m96 r || r.Id != Ew f r.View)
 rotate_left
 ·rw [e1,e2] at h; cases h
 cases e3:xs.any (DK r 1 s)
 rotate_left
 ·rw [e1,e2,e3] at h; cases h
 rw [Bool.and_eq_true,BP,BP] at e1
 exact ⟨e1.1,e1.2,rfl⟩
theorem Vz {f:Int} {xs:List Ai} {r:Af} {i:Int} (h:FW f xs r i = 0):∃ m,Av xs i = some m∧m.Kind = 1∧xs.any (DK r 2 m.Slot) = false:=by
 unfold FW at h
 cases hp:JM f xs i r.Start
 ·rw [hp] at h; cases h
 obtain ⟨m,gm,hk⟩:=LQ hp
 rw [hp,gm] at h
 refine ⟨m,gm,hk,?_⟩
 cases e:m.View != r.View
 ·cases e3:xs.any (DK r 2 m.Slot)
  ·rfl
  ·simp [e,e3] at h
 ·simp [e] at h
theorem WY {f:Int} {xs:List Ai} {r:Af} {s v:Int} (h:Gk f xs r s v = 0):(1≤s∧s≤30)∧(0≤v∧v≤12)∧BS f xs 2 r.View s v = true∧xs.any (DK r 3 s) = false:=by
 unfold Gk at h
 cases e1:inR s 1 30 && inR v 0 12
 ·rw [e1] at h; cases h
 cases e2:m96 r
 ·rw [e1,e2] at h; cases h
 cases e4:BS f xs 2 r.View s v
 ·rw [e1,e2,e4] at h; cases h
 cases e3:xs.any (DK r 3 s)
 rotate_left
 ·rw [e1,e2,e4,e3] at h; cases h
 rw [Bool.and_eq_true,BP,BP] at e1
 exact ⟨e1.1,e1.2,rfl,rfl⟩
def GB (c:Ab) (y:Ac):Prop:=y.Code = 0→Inv y.Cluster∧y.Cluster.Requests = c.Requests
theorem EO {c:Ab} {k:Int} (h:k≠0):GB c ⟨k,⟨0,[],[],[],[]⟩⟩:=fun h0=>absurd h0 h
theorem SJ {c:Ab} {m:Ai} (h:(HH c m).Code = 0):(HH c m).Cluster.Requests = c.Requests:=by
 unfold HH at h ⊢
 cases hp:(Ej c.Ledger m).2 != 0
 ·rfl
 ·rw [hp] at h
  exact absurd h (by simpa using hp)
theorem QJ {c:Ab} {m:Ai} (I:Inv c) (S:ML c m) (gm:Bz m):GB c (HH c m):=fun h=>⟨W6 I S gm h,SJ h⟩
theorem Yh (c:Ab) (id s v:Int) (I:Inv c):∃ y,m12 c id s v = some y∧GB c y:=by
 have O:=I.full.toLp
 have g:=I.good
 have H:=O.led
 have hl:=H.len
 unfold m12 m34 m31 m35
 simp only [IO_ I,obs,bne_self_eq_false,cond_false,BQ c g]
 unfold m60 m61
 have e0:((0:Int) != 0) = false:=rfl
 rcases FS c id g.rep with ⟨r1,r2⟩ | ⟨k,hk,r1,r2⟩
 ·rw [r2]; exact ⟨⟨4,⟨0,[],[],[],[]⟩⟩,rfl,EO (by decide)⟩
 rw [r2]
 simp only [FZ,obs]
 unfold m62
 simp only [BI hk,obs,V3 H (SH (O.reps _ (List.getElem_mem hk)))]
 by_cases hc:FX c.F c.Ledger c.Replicas[k] s v = 0
 rotate_left
 ·have e:(FX c.F c.Ledger c.Replicas[k] s v != 0) = true:=by simpa using hc
  simp only [e,cond_true,obs]
  exact ⟨⟨FX c.F c.Ledger c.Replicas[k] s v,⟨0,[],[],[],[]⟩⟩,rfl,EO hc⟩
 obtain ⟨hs,hv,ha⟩:=V2 hc
 rw [hc]
 simp only [e0,cond_false,obs]
 rw [show m52 c v = decide (v≤(c.Requests.length:Int)) from rfl]
 by_cases ho:v≤(c.Requests.length:Int)
 rotate_left
 ·simp only [ho,decide_false,cond_true,Bool.not_false,obs]
  exact ⟨⟨4,⟨0,[],[],[],[]⟩⟩,rfl,EO (by decide)⟩
 unfold m64
 have gm:Bz (⟨1,c.Replicas[k].View,c.Replicas[k].Id,s,v,[],[]⟩:Ai):=⟨Nat.zero_le _,Nat.zero_le _⟩
 simp only [ho,decide_true,Bool.not_true,cond_false,BI hk,obs,GI c _ g hl gm rfl]
 rw [Ij g hl gm]
 exact ⟨_,rfl,QJ I (Hk I hk (by omega) hs hv ha (fun h=>by omega) (fun h=>by omega)) gm⟩
theorem Yg (c:Ab) (id i:Int) (I:Inv c):∃ y,m13 c id i = some y∧GB c y:=by
 have O:=I.full.toLp
 have g:=I.good
 have H:=O.led
 have hl:=H.len
 unfold m13 KF KG m36
 simp only [IO_ I,obs,bne_self_eq_false,cond_false,BQ c g]
 unfold KE KD
 have e0:((0:Int) != 0) = false:=rfl
 rcases FS c id g.rep with ⟨r1,r2⟩ | ⟨k,hk,r1,r2⟩
 ·rw [r2]; exact ⟨⟨4,⟨0,[],[],[],[]⟩⟩,rfl,EO (by decide)⟩
 rw [r2]
 simp only [FZ,obs]
 unfold m65
 simp only [BI hk,obs,V1 H]
 by_cases hc:FW c.F c.Ledger c.Replicas[k] i = 0
 rotate_left
 ·have e:(FW c.F c.Ledger c.Replicas[k] i != 0) = true:=by simpa using hc
  simp only [e,cond_true,obs]
  exact ⟨⟨FW c.F c.Ledger c.Replicas[k] i,⟨0,[],[],[],[]⟩⟩,rfl,EO hc⟩
 obtain ⟨m,gx,hk1,ha⟩:=Vz hc
 have M:=H.msg m (FK gx)
 rw [hc]
 simp only [e0,cond_false,gx,obs]
 rw [show m52 c m.Value = decide (m.Value≤(c.Requests.length:Int)) from rfl]
 by_cases ho:m.Value≤(c.Requests.length:Int)
 rotate_left
 ·simp only [ho,decide_false,cond_true,Bool.not_false,obs]
  exact ⟨⟨4,⟨0,[],[],[],[]⟩⟩,rfl,EO (by decide)⟩
 unfold m64
 have gm:Bz (⟨2,c.Replicas[k].View,c.Replicas[k].Id,m.Slot,m.Value,[],[]⟩:Ai):=⟨Nat.zero_le _,Nat.zero_le _⟩
 simp only [ho,decide_true,Bool.not_true,cond_false,BI hk,obs,GI c _ g hl gm rfl]
 rw [Ij g hl gm]
 exact ⟨_,rfl,QJ I (Hk I hk (by omega) (M.slot (by omega)) (M.value (by omega)) ha (fun h=>by omega) (fun _=>by have:=I.five; omega)) gm⟩
theorem YX (c:Ab) (id s v:Int) (I:Inv c):∃ y,m14 c id s v = some y∧GB c y:=by
 have O:=I.full.toLp
 have g:=I.good
 have H:=O.led
 have hl:=H.len
 unfold m14 KB KC m37
 simp only [IO_ I,obs,bne_self_eq_false,cond_false,BQ c g]
 unfold KA K9
 have e0:((0:Int) != 0) = false:=rfl
 rcases FS c id g.rep with ⟨r1,r2⟩ | ⟨k,hk,r1,r2⟩
 ·rw [r2]; exact ⟨⟨4,⟨0,[],[],[],[]⟩⟩,rfl,EO (by decide)⟩
 rw [r2]
 simp only [FZ,obs]
 unfold m67
 simp only [BI hk,obs,WZ H _ _ _ (Vi (O.reps _ (List.getElem_mem hk)))]
 by_cases hc:Gk c.F c.Ledger c.Replicas[k] s v = 0
 rotate_left
 ·have e:(Gk c.F c.Ledger c.Replicas[k] s v != 0) = true:=by simpa using hc
  simp only [e,cond_true,obs]
  exact ⟨⟨Gk c.F c.Ledger c.Replicas[k] s v,⟨0,[],[],[],[]⟩⟩,rfl,EO hc⟩
 obtain ⟨hs,hv,he,ha⟩:=WY hc
 rw [hc]
 unfold m64
 have gm:Bz (⟨3,c.Replicas[k].View,c.Replicas[k].Id,s,v,[],[]⟩:Ai):=⟨Nat.zero_le _,Nat.zero_le _⟩
 simp only [e0,cond_false,BI hk,obs,GI c _ g hl gm rfl]
 rw [Ij g hl gm]
 exact ⟨_,rfl,QJ I (Hk I hk (by omega) hs hv ha (fun _=>he) (fun h=>by omega)) gm⟩
theorem Za (c:Ab) (id v:Int) (I:Inv c):∃ y,m15 c id v = some y∧GB c y:=by
 have O:=I.full.toLp
 have g:=I.good
 have H:=O.led
 have hl:=H.len
 unfold m15 K7 K8 m38
 simp only [IO_ I,obs,bne_self_eq_false,cond_false,BQ c g]
 unfold K6 K5
 have e0:((0:Int) != 0) = false:=rfl
 rcases FS c id g.rep with ⟨r1,r2⟩ | ⟨k,hk,r1,r2⟩
 ·rw [r2]; exact ⟨⟨4,⟨0,[],[],[],[]⟩⟩,rfl,EO (by decide)⟩
 rw [r2]
 have hr:=O.reps _ (List.getElem_mem hk)
 simp only [FZ,obs]
 unfold m69
 simp only [BI hk,obs,Xd O _ g v]
 obtain ⟨gm,hrf⟩:=Xe c c.Replicas[k] v
 cases hc:(FL c c.Replicas[k] v).Code != 0
 rotate_left
 ·simp only [cond_true,obs,hc]
  exact ⟨⟨(FL c c.Replicas[k] v).Code,⟨0,[],[],[],[]⟩⟩,rfl,EO (by simpa using hc)⟩
 obtain ⟨em,hv,S⟩:=TZ I hk (v:=v) (by simpa using hc)
 simp only [cond_false,obs,GI c _ g hl gm hrf]
 cases hp:(Ej c.Ledger (FL c c.Replicas[k] v).Msg).2 != 0
 rotate_left
 ·have hp':((Ej c.Ledger (FL c c.Replicas[k] v).Msg).2 == 0) = false:=by
   rw [bne] at hp
   simpa using hp
  simp only [cond_true,obs,hp',cond_false,Ak,hp]
  exact ⟨⟨(Ej c.Ledger (FL c c.Replicas[k] v).Msg).2,⟨0,[],[],[],[]⟩⟩,rfl,EO (by simpa using hp)⟩
 have I1:=Nw I S gm (by simpa using hp)
 have er:(DR c (FL c c.Replicas[k] v).Msg).Replicas = c.Replicas:=rfl
 have hg:Av c.Replicas (k:Int) = some c.Replicas[k]:=BI hk
 have hs:Av (c.Replicas.set k { c.Replicas[k] with View:=v }) (k:Int) = some { c.Replicas[k] with View:=v }:=WB (i:=(k:Int)) hg _
 obtain ⟨q1,q2,q3⟩:=Ee (I1.full.reps _ (List.getElem_mem hk))
 obtain ⟨b1,b2,b3⟩:=DC q1
 have I2:Inv ⟨(DR c (FL c c.Replicas[k] v).Msg).F,(DR c (FL c c.Replicas[k] v).Msg).Bad,(DR c (FL c c.Replicas[k] v).Msg).Replicas.set k { { c.Replicas[k] with View:=v } with Start:=-1 },(DR c (FL c c.Replicas[k] v).Msg).Ledger,(DR c (FL c c.Replicas[k] v).Msg).Requests⟩:=J1 I1 hk rfl (HL (NF b1 hv b3) rfl q3)
 rw [er] at I2
 have g2:=I2.good
 simp only [cond_false,beq_self_eq_true,cond_true,er,hg,hs,J0,obs,Int.toNat_natCast,Ak,e0,List.set_set,BQ _ g2]
 exact ⟨_,rfl,fun _=>⟨I2,rfl⟩⟩
theorem Ym (c:Ab) (id:Int) (I:Inv c):∃ y,m16 c id = some y∧GB c y:=by
 have O:=I.full.toLp
 have g:=I.good
 have H:=O.led
 have hl:=H.len
 unfold m16 K3 K4
 simp only [IO_ I,obs,bne_self_eq_false,cond_false,BQ c g]
 unfold K2 K1
 have e0:((0:Int) != 0) = false:=rfl
 rcases FS c id g.rep with ⟨r1,r2⟩ | ⟨k,hk,r1,r2⟩
 ·rw [r2]; exact ⟨⟨4,⟨0,[],[],[],[]⟩⟩,rfl,EO (by decide)⟩
 rw [r2]
 have hr:=O.reps _ (List.getElem_mem hk)
 simp only [FZ,obs]
 unfold m39
 simp only [BI hk,obs,Yn O _]
 obtain ⟨gm,hrf⟩:=QZ O c.Replicas[k]
 cases hc:(Ge c c.Replicas[k]).Code != 0
 rotate_left
 ·simp only [cond_true,obs,hc]
  exact ⟨⟨(Ge c c.Replicas[k]).Code,⟨0,[],[],[],[]⟩⟩,rfl,EO (by simpa using hc)⟩
 obtain ⟨hM,S⟩:=VD I hk (by simpa using hc)
 simp only [cond_false,obs,GI c _ g hl gm hrf]
 cases hp:(Ej c.Ledger (Ge c c.Replicas[k]).Msg).2 != 0
 rotate_left
 ·have hp':((Ej c.Ledger (Ge c c.Replicas[k]).Msg).2 == 0) = false:=by
   rw [bne] at hp
   simpa using hp
  simp only [cond_true,obs,hp',cond_false,Ak,hp]
  exact ⟨⟨(Ej c.Ledger (Ge c c.Replicas[k]).Msg).2,⟨0,[],[],[],[]⟩⟩,rfl,EO (by simpa using hp)⟩
 have hp0:(Ej c.Ledger (Ge c c.Replicas[k]).Msg).2 = 0:=by simpa using hp
 have I1:=Nw I S gm hp0
 have er:(DR c (Ge c c.Replicas[k]).Msg).Replicas = c.Replicas:=rfl
 have hg:Av c.Replicas (k:Int) = some c.Replicas[k]:=BI hk
 have hat2:=J4 (DR c (Ge c c.Replicas[k]).Msg).Ledger (Ge c c.Replicas[k]).Msg I1.good.led I1.good.msg
 have I2:=Yo I I1 hk hM hp0
 rw [er] at I2
 have g2:=I2.good
 simp only [cond_false,beq_self_eq_true,cond_true,er,hg,J0,obs,Int.toNat_natCast,Ak,e0,hat2,BQ _ g2]
 exact ⟨_,rfl,fun _=>⟨I2,rfl⟩⟩
theorem Zo (c:Ab) (id pl:Int) (I:Inv c):∃ y,m17 c id pl = some y∧GB c y:=by
 have O:=I.full.toLp
 have g:=I.good
 have H:=O.led
 unfold m17 Kz K0 m40
 simp only [IO_ I,obs,bne_self_eq_false,cond_false,BQ c g]
 unfold Ky Kx
 have e0:((0:Int) != 0) = false:=rfl
 rcases FS c id g.rep with ⟨r1,r2⟩ | ⟨k,hk,r1,r2⟩
 ·rw [r2]; exact ⟨⟨4,⟨0,[],[],[],[]⟩⟩,rfl,EO (by decide)⟩
 rw [r2]
 simp only [FZ,obs]
 unfold m74
 simp only [BI hk,obs]
 cases hs:c.Replicas[k].Start != -1
 rotate_left
 ·simp only [cond_true,obs,Ak]
  exact ⟨⟨8,⟨0,[],[],[],[]⟩⟩,rfl,EO (by decide)⟩
 simp only [cond_false,JS H,obs]
 cases hn:GV c.F c.Ledger pl
 ·simp only [Bool.not_false,cond_true,obs,Ak]
  exact ⟨⟨10,⟨0,[],[],[],[]⟩⟩,rfl,EO (by decide)⟩
 obtain ⟨x,hx,hxv⟩:=EX hn
 simp only [Bool.not_true,cond_false,hx,obs]
 cases hv:x.View != c.Replicas[k].View
 rotate_left
 ·simp only [cond_true,obs,Ak]
  exact ⟨⟨10,⟨0,[],[],[],[]⟩⟩,rfl,EO (by decide)⟩
 have hv':x.View = c.Replicas[k].View:=by simpa using hv
 obtain ⟨q1,q2,q3⟩:=Ee (O.reps _ (List.getElem_mem hk))
 have I2:=J1 I hk (r:={ c.Replicas[k] with Start:=pl }) rfl (HL (NF (DC q1).1 (DC q1).2.1 (DC q1).2.2) (NM hn (hxv.trans hv')) q3)
 have g2:=I2.good
 simp only [cond_false,Ak,BI hk,J0,obs,Int.toNat_natCast,e0,BQ _ g2]
 exact ⟨_,rfl,fun _=>⟨I2,rfl⟩⟩
theorem YO (c:Ab) (id:Int) (I:Inv c):∃ y,m18 c id = some y∧GB c y:=by
 have O:=I.full.toLp
 have g:=I.good
 have H:=O.led
 unfold m18 Kv Kw
 simp only [IO_ I,obs,bne_self_eq_false,cond_false,BQ c g]
 unfold Ku Kt
 have e0:((0:Int) != 0) = false:=rfl
 rcases FS c id g.rep with ⟨r1,r2⟩ | ⟨k,hk,r1,r2⟩
 ·rw [r2]; exact ⟨⟨4,⟨0,[],[],[],[]⟩⟩,rfl,EO (by decide)⟩
 rw [r2]
 obtain ⟨q1,q2,q3⟩:=Ee (O.reps _ (List.getElem_mem hk))
 obtain ⟨b1,b2,b3⟩:=DC q1
 obtain ⟨d,hd⟩:∃ d:Nat,c.Replicas[k].Done = d:=⟨c.Replicas[k].Done.toNat,by omega⟩
 simp only [FZ,obs]
 unfold m41
 simp only [KL H (Nx I),BI hk,obs,ge_iff_le]
 by_cases hl:((E0 c.F c.Ledger).length:Int)≤c.Replicas[k].Done
 ·simp only [hl,decide_true,cond_true,obs]
  exact ⟨⟨8,⟨0,[],[],[],[]⟩⟩,rfl,EO (by decide)⟩
 have hdl:d < (E0 c.F c.Ledger).length:=by omega
 have hll:=Jz c.F c.Ledger
 rw [hd] at hl
 simp only [hd,hl,decide_false,cond_false,BI hdl,obs]
 unfold m52
 by_cases ho:(E0 c.F c.Ledger)[d]≤(c.Requests.length:Int)
 rotate_left
 ·simp only [ho,decide_false,Bool.not_false,cond_true,obs]
  exact ⟨⟨4,⟨0,[],[],[],[]⟩⟩,rfl,EO (by decide)⟩
 have e1:wi .i64 ((d:Int) + 1) = (d:Int) + 1:=DV (by omega) (by omega)
 have I2:=J1 I hk (r:={ c.Replicas[k] with Done:=wi .i64 ((d:Int) + 1) }) rfl (HL (NF b1 b2 (by show 0≤wi .i64 ((d:Int) + 1)∧wi .i64 ((d:Int) + 1)≤30; omega)) q2 (by show wi .i64 ((d:Int) + 1)≤_; omega))
 have g2:=I2.good
 simp only [ho,decide_true,Bool.not_true,cond_false,BI hk,J0,obs,Int.toNat_natCast,e0,BQ _ g2]
 exact ⟨_,rfl,fun _=>⟨I2,rfl⟩⟩
theorem YI (c:Ab) (m:Ai) (I:Inv c) (gm:Bz m):∃ y,m19 c m = some y∧GB c y:=by
 have O:=I.full.toLp
 have g:=I.good
 have hl:=O.led.len
 unfold m19 Kr
 simp only [IO_ I,obs,bne_self_eq_false,cond_false,BQ c g]
 unfold m42 m43
 rw [JU c.F m gm]
 simp only [obs]
 by_cases hc:CX c.F m = 0
 rotate_left
 ·have e:(CX c.F m != 0) = true:=by simpa using hc
  simp only [e,cond_true,obs]
  exact ⟨⟨CX c.F m,⟨0,[],[],[],[]⟩⟩,rfl,EO hc⟩
 have e:(CX c.F m != 0) = false:=by simpa using hc
 simp only [e,cond_false]
 rw [show m58 c.Bad m.From = some (decide (m.From∈c.Bad)) from IL (CH g.bad) (Dv g.bad)]
 simp only [obs]
 by_cases hb:m.From∈c.Bad
 rotate_left
 ·simp only [hb,decide_false,Bool.not_false,cond_true,obs]
  exact ⟨⟨10,⟨0,[],[],[],[]⟩⟩,rfl,EO (by decide)⟩
 simp only [hb,decide_true,Bool.not_true,cond_false]
 cases hr:BM c.Ledger.length m
 rotate_left
 ·unfold m71
  rw [NZ c.Ledger m hl g.msg gm,hr]
  simp only [cond_true,obs]
  exact ⟨⟨4,⟨0,[],[],[],[]⟩⟩,rfl,EO (by decide)⟩
 rw [GI c m g hl gm hr]
 simp only [cond_false,obs]
 rw [Ij g hl gm]
 exact ⟨_,rfl,QJ I ⟨hc,hr,fun h=>absurd hb h,fun h=>absurd hb h,fun h=>absurd hb h,fun h=>absurd hb h⟩ gm⟩
theorem Yl (c:Ab) (r:Ag) (I:Inv c) (gr:If r) (hr:Ds r = 0) (hn:c.Requests.any (GZ r) = false) (hl:c.Requests.length < 5):m11 c r = some ⟨0,⟨c.F,c.Bad,c.Replicas,c.Ledger,c.Requests++[r]⟩⟩∧Inv ⟨c.F,c.Bad,c.Replicas,c.Ledger,c.Requests++[r]⟩:=by
 have g:=I.good
 have I2:=TF I gr hr hn hl
 have g2:=I2.good
 have e0:((0:Int) != 0) = false:=rfl
 have ht:decide (ixI (DY (pAt (GZ r) c.Requests) c.Requests.length) ≥ 0) = false:=by rw [H2,Gi,hn]
 have e1:((c.Requests.length:Int) == 12) = false:=by
  rw [beq_eq_false_iff_ne]; omega
 refine ⟨?_,I2⟩
 unfold m11 Ks
 simp only [IO_ I,obs,bne_self_eq_false,cond_false,BQ c g]
 unfold m32 m33
 rw [gr.2,JH _ _ g.req,hr]
 simp only [obs,e0,cond_false,ht,e1]
 rw [Xy (show c.Requests.length + [r].length≤2097152 by simp; omega) (by decide)]
 simp only [obs,bne_self_eq_false,cond_false,BQ _ g2]
theorem eM {c:Ab} (O:Lp c) {i j:Nat} (hi:i < c.Replicas.length) (hj:j < c.Replicas.length) (h:c.Replicas[i].Id = c.Replicas[j].Id):i = j:=by
 have hp:(c.Replicas.map (·.Id)).Pairwise (· < ·):=by
  rw [O.ids]
  exact (QF _).filter _
 rcases Nat.lt_trichotomy i j with k | k | k
 ·have:=List.pairwise_iff_getElem.1 hp i j (by simpa using hi) (by simpa using hj) k
  simp only [List.getElem_map] at this
  omega
 ·exact k
 ·have:=List.pairwise_iff_getElem.1 hp j i (by simpa using hj) (by simpa using hi) k
  simp only [List.getElem_map] at this
  omega
end Go.Proofs.YthbiabieiopobaaGreatDoor
