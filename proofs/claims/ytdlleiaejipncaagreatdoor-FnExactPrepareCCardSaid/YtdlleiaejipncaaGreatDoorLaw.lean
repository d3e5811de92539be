/- Marks on numbers; texts of marks. -/
import Derived.Test.YtdlleiaejipncaaGreatDoorClu
import Derived.Test.YtdlleiaejipncaaGreatDoorRh10
namespace Go.Proofs.YtdlleiaejipncaaGreatDoor
open Go Go.Rf
set_option linter.unusedVariables false
set_option linter.unusedSimpArgs false
theorem FN:1048576 < NN:=by rw [CC]; omega
def Wp (x k k':Int):Prop:=x = k∧k' = k + 1
theorem L9:∀ x k k',Wp x k k'→k≤k':=fun x k k' h=>by obtain ⟨_,rfl⟩:=h; omega
abbrev few {α:Type} (good:α→Prop) (xs:List α):Prop:=xs.length≤1048576∧∀ x∈xs,good x
theorem ZJ:Mks m31 (MKL Wp) (few fun _=>True) (1048576 * 1):=
 gMk (F:=JJ) (good:=fun _=>True) (by omega) FN (fun k i a x _ hx hi h0 hb hk hB=>by
  have hB:k + 1≤1152921504606846976:=hB
  refine ⟨k + 1,k,?_,⟨rfl,rfl⟩,by omega,by omega⟩
  unfold JJ
  simp (disch:=omega) only [hi,decide_true,cond_true,hx,obs,F7,wiK]) (fun k i a h=>by
  unfold JJ
  simp only [h,decide_false,cond_false])
theorem ZP:Hds m59 (MKL Wp):=
 gHd (F:=JD) L9 FN (fun xs k r i k' x hx hi h0 hb hk hB h=>by
  obtain ⟨rfl,rfl⟩:=h
  have hB:x + 1≤1152921504606846976:=hB
  refine ⟨r,?_⟩
  unfold JD
  simp (disch:=omega) only [hi,decide_true,cond_true,hx,obs,bne_self_eq_false,cond_false,wiK]) (fun xs k r i h=>by
  unfold JD
  simp only [h,decide_false,cond_false])
open Go Go.Rf
theorem IB:∀ (j:Nat) (k:Int) (s:Str) (N:Nat),k < 10 ^ j→j < N→s.length + j≤1000→∃ z s',Ar GI N (k,s) = some (.exit 0 (z,s'))∧s'.length≤s.length + j
 | 0,k,s,N,hk,hN,hs=>by
  obtain ⟨N,rfl⟩:∃ n,N = n + 1:=⟨N - 1,by omega⟩
  have h:¬ k > 0:=by simp at hk; omega
  refine ⟨k,s,?_,by omega⟩
  simp only [Ar]
  unfold GI
  simp only [h,decide_false,cond_false,obs]
 | j + 1,k,s,N,hk,hN,hs=>by
  obtain ⟨N,rfl⟩:∃ n,N = n + 1:=⟨N - 1,by omega⟩
  by_cases h:k > 0
  ·have e1:Int.tdiv k 10 = k / 10:=Int.tdiv_eq_ediv_of_nonneg (by omega)
   have e2:(10:Int) ^ (j + 1) = 10 ^ j * 10:=Int.pow_succ ..
   have e3:wi .i64 (Int.tdiv k 10) < 10 ^ j:=by
    rw [e1]
    have:k / 10 < 10 ^ j:=by omega
    by_cases hb:k≤9223372036854775807
    ·rw [Cx (by omega) (by omega)]; exact this
    ·refine Int.lt_of_le_of_lt ?_ this
     show IntKind.i64.wrap (k / 10)≤k / 10
     rw [IntKind.wrap_i64]; omega
   obtain ⟨z,s',q1,q2⟩:=IB j (wi .i64 (Int.tdiv k 10)) (([UInt8.ofNat (Int.toNat (wi .u8 (wi .i64 (48 + (Int.tmod k 10)))))]:Str)++s) N e3 (by omega) (by simp; omega)
   refine ⟨z,s',?_,by simp at q2; omega⟩
   simp only [Ar]
   rw [show GI (k,s) = some (LO.norm (wi .i64 (Int.tdiv k 10),([UInt8.ofNat (Int.toNat (wi .u8 (wi .i64 (48 + (Int.tmod k 10)))))]:Str)++s)) from by
    unfold GI
    simp only [h,decide_true,cond_true]
    unfold LP
    rw [if_pos (by simp; omega)]; rfl]
   exact q1
  ·refine ⟨k,s,?_,by omega⟩
   simp only [Ar]
   unfold GI
   simp only [h,decide_false,cond_false,obs]
theorem bS (k:Int) (hk:k≤mB):∃ s,m88 k = some s:=by
 unfold m88
 by_cases h:k≤0
 ·simp only [h,decide_true,cond_true]; exact ⟨_,rfl⟩
 ·simp only [h,decide_false,cond_false]
  have hk:k≤1152921504606846976:=hk
  obtain ⟨z,s',q1,q2⟩:=IB 30 k [] NN (by simp; omega) (by rw [CC]; omega) (by simp)
  rw [q1,obs]
  simp only [Ac,if_true]
  unfold LP
  rw [if_pos (by simp at q2 ⊢; omega)]
  exact ⟨_,rfl⟩
open Go Go.Rf
def Pu (x:Ax) (k k':Int):Prop:=x = ⟨k,k + 1,k + 1 + 1⟩∧k' = k + 1 + 1 + 1
theorem LA:∀ x k k',Pu x k k'→k≤k':=fun x k k' h=>by obtain ⟨_,rfl⟩:=h; omega
theorem XP:Mks m57 (MKL Pu) (few fun _=>True) (1048576 * 3):=
 gMk (F:=JF) (good:=fun _=>True) (by omega) FN (fun k i a x _ hx hi h0 hb hk hB=>by
  have hB:k + 3≤1152921504606846976:=hB
  refine ⟨k + 1 + 1 + 1,⟨k,k + 1,k + 1 + 1⟩,?_,⟨rfl,rfl⟩,by omega,by omega⟩
  unfold JF
  simp (disch:=omega) only [hi,decide_true,cond_true,hx,obs,F7,wiK,A8 hx,A8 (A8 hx _),List.set_set]) (fun k i a h=>by
  unfold JF
  simp only [h,decide_false,cond_false])
theorem Yg:Hds m89 (MKL Pu):=
 gHd (F:=J9) LA FN (fun xs k r i k' x hx hi h0 hb hk hB h=>by
  obtain ⟨rfl,rfl⟩:=h
  have hB:k + 1 + 1 + 1≤1152921504606846976:=hB
  refine ⟨r,?_⟩
  unfold J9
  simp (disch:=omega) only [hi,decide_true,cond_true,hx,obs,bne_self_eq_false,cond_false,wiK]) (fun xs k r i h=>by
  unfold J9
  simp only [h,decide_false,cond_false])
def Yk (x:Ak) (k k':Int):Prop:=x = ⟨k,k + 1,k + 1 + 1,k + 1 + 1 + 1⟩∧k' = k + 1 + 1 + 1 + 1
theorem Wm:∀ x k k',Yk x k k'→k≤k':=fun x k k' h=>by obtain ⟨_,rfl⟩:=h; omega
theorem bW:Mks m32 (MKL Yk) (few fun _=>True) (1048576 * 4):=
 gMk (F:=JI) (good:=fun _=>True) (by omega) FN (fun k i a x _ hx hi h0 hb hk hB=>by
  have hB:k + 4≤1152921504606846976:=hB
  refine ⟨k + 1 + 1 + 1 + 1,⟨k,k + 1,k + 1 + 1,k + 1 + 1 + 1⟩,?_,⟨rfl,rfl⟩,by omega,by omega⟩
  unfold JI
  simp (disch:=omega) only [hi,decide_true,cond_true,hx,obs,F7,wiK,A8 hx,A8 (A8 hx _),A8 (A8 (A8 hx _) _),List.set_set]) (fun k i a h=>by
  unfold JI
  simp only [h,decide_false,cond_false])
theorem cK:Hds m60 (MKL Yk):=
 gHd (F:=JC) Wm FN (fun xs k r i k' x hx hi h0 hb hk hB h=>by
  obtain ⟨rfl,rfl⟩:=h
  have hB:k + 1 + 1 + 1 + 1≤1152921504606846976:=hB
  refine ⟨r,?_⟩
  unfold JC
  simp (disch:=omega) only [hi,decide_true,cond_true,hx,obs,bne_self_eq_false,cond_false,wiK]) (fun xs k r i h=>by
  unfold JC
  simp only [h,decide_false,cond_false])
def hOp (x:TOp) (k k':Int):Prop:=∃ s,m88 (k + 1) = some s∧x = ⟨k,s,k + 1 + 1,k + 1 + 1 + 1,Int.tmod (k + 1 + 1 + 1 + 1) 3 == 0,Int.tmod (k + 1 + 1 + 1 + 1 + 1) 3 == 0⟩∧k' = k + 1 + 1 + 1 + 1 + 1 + 1
theorem Wn:∀ x k k',hOp x k k'→k≤k':=fun x k k' h=>by obtain ⟨_,_,_,rfl⟩:=h; omega
theorem gV:Mks m58 (MKL hOp) (few fun _=>True) (1048576 * 6):=
 gMk (F:=JE) (good:=fun _=>True) (by omega) FN (fun k i a x _ hx hi h0 hb hk hB=>by
  have hB:k + 6≤1152921504606846976:=hB
  obtain ⟨t,ht⟩:=bS (k + 1) (show _≤(1152921504606846976:Int) by omega)
  refine ⟨k + 1 + 1 + 1 + 1 + 1 + 1,⟨k,t,k + 1 + 1,k + 1 + 1 + 1,Int.tmod (k + 1 + 1 + 1 + 1) 3 == 0,Int.tmod (k + 1 + 1 + 1 + 1 + 1) 3 == 0⟩,?_,⟨t,ht,rfl,rfl⟩,by omega,by omega⟩
  unfold JE
  simp (disch:=omega) only [hi,decide_true,cond_true,hx,obs,F7,wiK,ht,A8 hx,A8 (A8 hx _),A8 (A8 (A8 hx _) _),A8 (A8 (A8 (A8 hx _) _) _),A8 (A8 (A8 (A8 (A8 hx _) _) _) _),List.set_set]) (fun k i a h=>by
  unfold JE
  simp only [h,decide_false,cond_false])
theorem jV:Hds m90 (MKL hOp):=
 gHd (F:=J8) Wn FN (fun xs k r i k' x hx hi h0 hb hk hB h=>by
  obtain ⟨s,ht,rfl,rfl⟩:=h
  have hB:k + 1 + 1 + 1 + 1 + 1 + 1≤1152921504606846976:=hB
  refine ⟨r,?_⟩
  unfold J8
  simp (disch:=omega) only [hi,decide_true,cond_true,hx,obs,bne_self_eq_false,cond_false,wiK,ht,beq_self_eq_true,Bool.not_true]) (fun xs k r i h=>by
  unfold J8
  simp only [h,decide_false,cond_false])
def Yl (x:Ah) (k k':Int):Prop:=x.Kind = k∧x.View = k + 1∧x.From = k + 1 + 1∧x.Slot = k + 1 + 1 + 1∧x.Value = k + 1 + 1 + 1 + 1∧∃ j,MKL Pu x.Certs (k + 1 + 1 + 1 + 1 + 1) j∧MKL Wp x.Refs j k'
theorem Wo:∀ x k k',Yl x k k'→k≤k':=fun x k k' h=>by
 obtain ⟨_,_,_,_,_,j,h1,h2⟩:=h
 have:=MKL.mono LA _ _ _ h1
 have:=MKL.mono L9 _ _ _ h2
 omega
abbrev cO (m:Ah):Prop:=m.Certs.length≤1048576∧m.Refs.length≤1048576
theorem bX:Mks m33 (MKL Yl) (few cO) (1048576 * 4194309):=
 gMk (F:=JH) (good:=cO) (by omega) FN (fun k i a x hg hx hi h0 hb hk hB=>by
  have hB:k + 4194309≤1152921504606846976:=hB
  obtain ⟨j,cs,q1,q2,q3,q4⟩:=XP x.Certs (k + 1 + 1 + 1 + 1 + 1) ⟨hg.1,fun _ _=>trivial⟩ (by omega) (show _≤(1152921504606846976:Int) by omega)
  obtain ⟨k',rs,p1,p2,p3,p4⟩:=ZJ x.Refs j ⟨hg.2,fun _ _=>trivial⟩ (by omega) (show _≤(1152921504606846976:Int) by omega)
  refine ⟨k',⟨k,k + 1,k + 1 + 1,k + 1 + 1 + 1,k + 1 + 1 + 1 + 1,cs,rs⟩,?_,⟨rfl,rfl,rfl,rfl,rfl,j,q2,p2⟩,by omega,by omega⟩
  unfold JH
  simp (disch:=omega) only [hi,decide_true,cond_true,hx,obs,F7,wiK,q1,p1,A8 hx,A8 (A8 hx _),A8 (A8 (A8 hx _) _),A8 (A8 (A8 (A8 hx _) _) _),A8 (A8 (A8 (A8 (A8 hx _) _) _) _),A8 (A8 (A8 (A8 (A8 (A8 hx _) _) _) _) _),List.set_set]) (fun k i a h=>by
  unfold JH
  simp only [h,decide_false,cond_false])
theorem cL:Hds m61 (MKL Yl):=
 gHd (F:=JB) Wo FN (fun xs k r i k' x hx hi h0 hb hk hB h=>by
  have hB:k'≤1152921504606846976:=hB
  obtain ⟨g1,g2,g3,g4,g5,j,q1,q2⟩:=h
  have m1:=MKL.mono LA _ _ _ q1
  have m2:=MKL.mono L9 _ _ _ q2
  have e1:=Yg _ _ _ q1 (by omega) (show _≤(1152921504606846976:Int) by omega)
  have e2:=ZP _ _ _ q2 (by omega) (show _≤(1152921504606846976:Int) by omega)
  have n1:¬ j < 0:=by omega
  have n2:¬ k' < 0:=by omega
  refine ⟨r,?_⟩
  unfold JB
  simp (disch:=omega) only [hi,decide_true,cond_true,hx,obs,g1,g2,g3,g4,g5,bne_self_eq_false,cond_false,wiK,e1,e2,n1,n2,decide_false]) (fun xs k r i h=>by
  unfold JB
  simp only [h,decide_false,cond_false])
def Yj (x:Af) (k k':Int):Prop:=x.Client = k∧x.Number = k + 1∧x.Time = k + 1 + 1∧MKL hOp x.Ops (k + 1 + 1 + 1) k'
theorem Wl:∀ x k k',Yj x k k'→k≤k':=fun x k k' h=>by
 obtain ⟨_,_,_,h1⟩:=h
 have:=MKL.mono Wn _ _ _ h1
 omega
abbrev cN (m:Af):Prop:=m.Ops.length≤1048576
theorem bU:Mks m34 (MKL Yj) (few cN) (1048576 * 6291459):=
 gMk (F:=JG) (good:=cN) (by omega) FN (fun k i a x hg hx hi h0 hb hk hB=>by
  have hB:k + 6291459≤1152921504606846976:=hB
  obtain ⟨j,cs,q1,q2,q3,q4⟩:=gV x.Ops (k + 1 + 1 + 1) ⟨hg,fun _ _=>trivial⟩ (by omega) (show _≤(1152921504606846976:Int) by omega)
  refine ⟨j,⟨k,k + 1,k + 1 + 1,cs⟩,?_,⟨rfl,rfl,rfl,q2⟩,by omega,by omega⟩
  unfold JG
  simp (disch:=omega) only [hi,decide_true,cond_true,hx,obs,F7,wiK,q1,A8 hx,A8 (A8 hx _),A8 (A8 (A8 hx _) _),List.set_set]) (fun k i a h=>by
  unfold JG
  simp only [h,decide_false,cond_false])
theorem cJ:Hds m62 (MKL Yj):=
 gHd (F:=JA) Wl FN (fun xs k r i k' x hx hi h0 hb hk hB h=>by
  have hB:k'≤1152921504606846976:=hB
  obtain ⟨g1,g2,g3,q1⟩:=h
  have m1:=MKL.mono Wn _ _ _ q1
  have e1:=jV _ _ _ q1 (by omega) (show _≤(1152921504606846976:Int) by omega)
  have n1:¬ k' < 0:=by omega
  refine ⟨r,?_⟩
  unfold JA
  simp (disch:=omega) only [hi,decide_true,cond_true,hx,obs,g1,g2,g3,bne_self_eq_false,cond_false,wiK,e1,n1,decide_false]) (fun xs k r i h=>by
  unfold JA
  simp only [h,decide_false,cond_false])
structure dO (c:Ae):Prop where
 bad:c.Bad.length≤1048576
 rep:c.Replicas.length≤1048576
 led:c.Ledger.length≤1048576
 msg:∀ m∈c.Ledger,cO m
 req:c.Requests.length≤1048576
 ops:∀ r∈c.Requests,cN r
def jX (c:Ae) (k k':Int):Prop:=∃ j1 j2 j3,MKL Wp c.Bad k j1∧MKL Yk c.Replicas j1 j2∧MKL Yl c.Ledger j2 j3∧MKL Yj c.Requests j3 k'
theorem ZK:Mks m10 jX dO 1125899906842624:=fun c k g hk hB=>by
 have hB:k + 1125899906842624≤1152921504606846976:=hB
 obtain ⟨j1,y1,q1,p1,a1,b1⟩:=ZJ c.Bad k ⟨g.bad,fun _ _=>trivial⟩ hk (show _≤(1152921504606846976:Int) by omega)
 obtain ⟨j2,y2,q2,p2,a2,b2⟩:=bW c.Replicas j1 ⟨g.rep,fun _ _=>trivial⟩ (by omega) (show _≤(1152921504606846976:Int) by omega)
 obtain ⟨j3,y3,q3,p3,a3,b3⟩:=bX c.Ledger j2 ⟨g.led,g.msg⟩ (by omega) (show _≤(1152921504606846976:Int) by omega)
 obtain ⟨j4,y4,q4,p4,a4,b4⟩:=bU c.Requests j3 ⟨g.req,g.ops⟩ (by omega) (show _≤(1152921504606846976:Int) by omega)
 refine ⟨j4,⟨c.F,y1,y2,y3,y4⟩,?_,⟨j1,j2,j3,p1,p2,p3,p4⟩,by omega,by omega⟩
 unfold m10
 simp only [q1,q2,q3,q4,obs,F7]
theorem jW:Hds m35 jX:=fun c k k' ⟨j1,j2,j3,p1,p2,p3,p4⟩ hk hB=>by
 have hB:k'≤1152921504606846976:=hB
 have m1:=MKL.mono L9 _ _ _ p1
 have m2:=MKL.mono Wm _ _ _ p2
 have m3:=MKL.mono Wo _ _ _ p3
 have m4:=MKL.mono Wl _ _ _ p4
 have n1:¬ j1 < 0:=by omega
 have n2:¬ j2 < 0:=by omega
 have n3:¬ j3 < 0:=by omega
 have n4:¬ k' < 0:=by omega
 unfold m35
 rw [ZP _ _ _ p1 hk (show _≤(1152921504606846976:Int) by omega)]
 simp only [obs,n1,decide_false,cond_false]
 rw [cK _ _ _ p2 (by omega) (show _≤(1152921504606846976:Int) by omega)]
 simp only [obs,n2,decide_false,cond_false]
 rw [cL _ _ _ p3 (by omega) (show _≤(1152921504606846976:Int) by omega)]
 simp only [obs,n3,decide_false,cond_false]
 rw [cJ _ _ _ p4 (by omega) (show _≤(1152921504606846976:Int) by omega)]
 simp only [obs,n4,decide_false,cond_false]
open Go Go.Rf
theorem bY (x:Aq) (g:dO x.Cluster):∃ k' x',m11 x 1 = some (k',x')∧m12 x' 1 = some k'∧0≤k':=by
 obtain ⟨k',y,h1,h2,h3,h4⟩:=ZK x.Cluster 1 g (by omega) (by decide)
 refine ⟨k',{ x with Cluster:=y },?_,?_,by omega⟩
 ·unfold m11
  rw [h1]; rfl
 ·unfold m12
  rw [jW y 1 k' h2 (by omega) (show k'≤(1152921504606846976:Int) by omega)]
  have:¬ k' < 0:=by omega
  simp only [obs,this,decide_false,cond_false]
open Go Go.Rf
theorem YA {α:Type} {b:Nat} {L ys:List α} (h:L.length + ys.length≤2097152) (hb:b≤1000):Bu b L ys = some (L++ys):=by
 unfold Bu
 rw [if_pos (Nat.le_trans (Nat.mul_le_mul h (show b + 1≤1001 by omega)) (by decide))]
theorem Kh {α:Type} {b:Nat} {ys:List α} (h:ys.length≤1048576) (hb:b≤1000):Bu b [] ys = some ys:=by
 rw [YA (by simp only [List.length_nil]; omega) hb]; rfl
theorem LM {α:Type} {f:Int×List α→Option (LO (Int×List α))} {xs:List α} {b:Nat} {e:Nat} (hl:xs.length≤1048576) (hb:b≤1000)
  (h1:∀ (i:Nat) (hi:i < xs.length) (s:List α),f ((i:Int),s) = (Bu b s [xs[i]]).bind fun z=>some (.norm (wi .i64 ((i:Int) + 1),z))) (h0:∀ s,f ((xs.length:Int),s) = some (.exit e ((xs.length:Int),s))) :
  Ar f NN (0,[]) = some (.exit e ((xs.length:Int),xs)):=by
 rw [Cf (f:=f) (s0:=(0,[])) (fun i=>((i:Int),xs.take i)) xs.length (.exit e ((xs.length:Int),xs.take xs.length)) (fun i hi=>?_) ?_ rfl (Be hl) rfl]
 ·rw [List.take_length]
 ·rw [h0]
 ·rw [h1 i hi,YA (by simp; omega) hb,obs,wi1 (show i≤1099511627776 by omega),List.take_succ_eq_append_getElem hi]
theorem Q6 (r:Af) (h:E7 r):Rc r = some r:=by
 unfold Rc
 rw [show V5 r.Ops = some r.Ops from Kh h (by decide)]; rfl
theorem WL (r:Af) (h:E7 r):m75 r = some r:=by
 unfold m75
 rw [Kh h (by decide)]; rfl
theorem KB (m:Ah) (h:AO m):ML m = some m:=by
 unfold ML
 rw [show Vv m.Certs = some m.Certs from Kh h.1 (by decide),obs,show MN m.Refs = some m.Refs from Kh h.2 (by decide)]; rfl
theorem No (m:Ah) (h:AO m):m77 m = some m:=by
 unfold m77
 rw [Kh h.1 (by decide),obs,Kh h.2 (by decide)]; rfl
theorem Q7 (xs:List Ah) (h:xs.length≤1048576) (g:∀ m∈xs,AO m):Re xs = some xs:=by
 unfold Re
 rw [LM (b:=88) h (by decide) (fun i hi s=>by
  have hc':(i:Int) < (xs.length:Int):=by omega
  unfold Jh
  simp only [hc',decide_true,cond_true,AS hi,obs,KB _ (g _ (List.getElem_mem hi))]) (fun s=>by
  unfold Jh
  simp only [Int.lt_irrefl,decide_false,cond_false]
  rfl)]
 rfl
theorem Np (xs:List Ah) (h:xs.length≤1048576) (g:∀ m∈xs,AO m):m74 xs = some xs:=by
 unfold m74
 rw [LM (b:=88) h (by decide) (fun i hi s=>by
  have hc':(i:Int) < (xs.length:Int):=by omega
  unfold Ls
  simp only [hc',decide_true,cond_true,AS hi,obs,No _ (g _ (List.getElem_mem hi))]) (fun s=>by
  unfold Ls
  simp only [Int.lt_irrefl,decide_false,cond_false]
  rfl)]
 rfl
theorem KC (c:Ae) (g:BJ c):m81 c = some c:=by
 unfold m81
 rw [show MN c.Bad = some c.Bad from Kh g.bad (by decide),obs,show VG c.Replicas = some c.Replicas from Kh g.rep (by decide),obs,Q7 _ g.led g.msg,obs]
 rw [LM (b:=48) g.req (by decide) (fun i hi s=>by
  have hc':(i:Int) < (c.Requests.length:Int):=by omega
  unfold Lr
  simp only [hc',decide_true,cond_true,AS hi,obs,Q6 _ (g.ops _ (List.getElem_mem hi))]) (fun s=>by
  unfold Lr
  simp only [Int.lt_irrefl,decide_false,cond_false]
  rfl)]
 rfl
theorem WM (c:Ae) (g:BJ c):m42 c = some c:=by
 unfold m42
 rw [Kh g.bad (by decide),obs,Kh g.rep (by decide),obs,Np _ g.led g.msg,obs]
 rw [LM (b:=48) g.req (by decide) (fun i hi s=>by
  have hc':(i:Int) < (c.Requests.length:Int):=by omega
  unfold Lu
  simp only [hc',decide_true,cond_true,AS hi,obs,WL _ (g.ops _ (List.getElem_mem hi))]) (fun s=>by
  unfold Lu
  simp only [Int.lt_irrefl,decide_false,cond_false]
  rfl)]
 rfl
theorem Ha:BJ (⟨0,[],[],[],[]⟩:Ae):=⟨by simp,by simp,by simp,by simp,by simp,by simp⟩
theorem j7 {c:Ae} (g:BJ c):dO c:=⟨g.bad,g.rep,g.led,g.msg,g.req,g.ops⟩
theorem Rr (x:Aq) (g:BJ x.Cluster):m8 x x = some true:=by
 unfold m8
 simp only [bne_self_eq_false,cond_false,Ni _ g,obs,Bool.not_true]
open Go Go.Rf
noncomputable def Fq (xs:List Ah) (m:Ah):List Ah×Int:=bif decide (atM xs m ≥ 0) then (xs,0) else bif (xs.length:Int) == 240 then ([],2) else (xs++[m],0)
theorem Uz (xs:List Ah) (m:Ah) (h:xs.length≤240) (g:∀ x∈xs,AO x) (gm:AO m):m43 xs m = some (Fq xs m):=by
 unfold m43 Fq
 have e:decide ((xs.length:Int) ≥ 240) = ((xs.length:Int) == 240):=by
  rw [Bool.eq_iff_iff]; simp; omega
 rw [Jo xs m (by omega) g,Np xs (by omega) g,No m gm,e]
 simp only [obs]
 rw [YA (show xs.length + [m].length≤2097152 by simp; omega) (by decide)]
 cases decide (atM xs m ≥ 0) <;> cases ((xs.length:Int) == 240) <;> rfl
theorem U0 (xs:List Ah) (m:Ah) (h:xs.length≤240) (g:∀ x∈xs,AO x) (gm:AO m):Ra xs m = some (bif Ck xs.length m then ([],4) else Fq xs m):=by
 unfold Ra Fq
 rw [Ii m xs.length gm,LS xs m (by omega) g,KB m gm,show cF xs = some xs from Kh (by omega) (by decide)]
 simp only [obs]
 rw [YA (show xs.length + [m].length≤2097152 by simp; omega) (by decide)]
 cases Ck xs.length m <;> cases decide (atM xs m ≥ 0) <;> cases ((xs.length:Int) == 240) <;> rfl
theorem U1 {xs:List Ah} {m:Ah} (h:xs.length≤240) (g:∀ x∈xs,AO x) (gm:AO m):(Fq xs m).1.length≤241∧∀ x∈(Fq xs m).1,AO x:=by
 unfold Fq
 cases decide (atM xs m ≥ 0)
 ·cases ((xs.length:Int) == 240)
  ·exact ⟨by show (xs++[m]).length≤241; simp; omega,fun x hx=>by
    rcases List.mem_append.1 (show x∈xs++[m] from hx) with h | h
    ·exact g x h
    ·rw [List.mem_singleton.1 h]; exact gm⟩
  ·exact ⟨Nat.zero_le _,fun x hx=>by cases hx⟩
 ·exact ⟨by show xs.length≤241; omega,g⟩
noncomputable def Qt (c:Ae) (m:Ah):Ae:=⟨c.F,c.Bad,c.Replicas,(Fq c.Ledger m).1,c.Requests⟩
theorem K4 {c:Ae} {m:Ah} (g:BJ c) (h:c.Ledger.length≤240) (gm:AO m):BJ (Qt c m):=
 have p:=U1 h g.msg gm
 ⟨g.bad,g.rep,Nat.le_trans p.1 (by omega),p.2,g.req,g.ops⟩
noncomputable def Ky (c:Ae) (m:Ah):Aq:=bif (Fq c.Ledger m).2 != 0 then ⟨(Fq c.Ledger m).2,⟨0,[],[],[],[]⟩⟩ else ⟨0,Qt c m⟩
theorem NI {c:Ae} {m:Ah} (g:BJ c) (h:c.Ledger.length≤240) (gm:AO m):BJ (Ky c m).Cluster:=by
 unfold Ky
 cases (Fq c.Ledger m).2 != 0
 ·exact K4 g h gm
 ·exact Ha
theorem Qj (c:Ae) (m:Ah) (g:BJ c) (h:c.Ledger.length≤240) (gm:AO m):m20 c m = some (Ky c m):=by
 unfold m20 Ky Qt
 rw [WM c g,Uz c.Ledger m h g.msg gm]
 simp only [obs]
 cases (Fq c.Ledger m).2 != 0 <;> rfl
theorem XD (c:Ae) (m:Ah) (g:BJ c) (h:c.Ledger.length≤240) (gm:AO m) (hr:Ck c.Ledger.length m = false):m85 c m = some ((Fq c.Ledger m).2,bif (Fq c.Ledger m).2 != 0 then c else Qt c m):=by
 unfold m85 Qt
 rw [U0 c.Ledger m h g.msg gm,hr]
 simp only [obs,cond_false,bne]
 cases ((Fq c.Ledger m).2 == 0) <;> rfl
theorem W9 {c:Ae} {m:Ah} (g:BJ c) (h:c.Ledger.length≤240) (gm:AO m):(bif (Fq c.Ledger m).2 != 0 then some (⟨(Fq c.Ledger m).2,(⟨0,[],[],[],[]⟩:Ae)⟩:Aq) else (m81 (bif (Fq c.Ledger m).2 != 0 then c else Qt c m)).bind fun y4=>some (⟨0,y4⟩:Aq)) = some (Ky c m):=by
 unfold Ky
 cases (Fq c.Ledger m).2 != 0
 ·simp only [cond_false,KC _ (K4 g h gm),obs]
 ·rfl
open Go Go.Rf
def Gc (m:Ah):List (Int×Int×Int):=m.Certs.map fun c=>(c.Slot,c.View,c.Value)
def Cv (s:Int) (x:Int×Int) (c:Int×Int×Int):Int×Int:=bif (c.1 == s) && decide (c.2.1 > x.1) then (c.2.1,c.2.2) else x
def bV (o:Option (Int×Int×Int)):Int×Int:=match o with
 | none=>(-1,0)
 | some c=>(c.2.1,c.2.2)
theorem bst (s:Int):∀ (cs:List (Int×Int×Int)) (st:(Int→Option (Int×Int×Int))×Int),(∀ c∈cs,0≤c.2.1)→cs.foldl (Cv s) (bV (st.1 s)) = bV ((cs.foldl BD st).1 s)
 | [],st,_=>rfl
 | c::cs,st,h=>by
  have h0:=h c (by simp)
  rw [List.foldl_cons,List.foldl_cons,← bst s cs (BD st c) (fun x hx=>h x (by simp [hx]))]
  congr 1
  unfold Cv BD Hn Jt
  by_cases e:c.1 = s
  ·subst e
   cases hs:st.1 c.1 with
   | none=>
    have:decide (c.2.1 > (bV none).1) = true:=decide_eq_true (by show c.2.1 > -1; omega)
    rw [this]
    simp [bV]
   | some o=>
    by_cases hn:c.2.1 > o.2.1
    ·simp [bV,hn]
    ·simp [bV,hn,hs]
  ·have e1:(c.1 == s) = false:=by simpa using e
   have e2:¬ s = c.1:=fun q=>e q.symm
   cases hs:st.1 c.1 with
   | none=>simp [e1,e2]
   | some o=>by_cases hn:c.2.1 > o.2.1 <;> simp [e1,e2,hn]
structure RO (st:(Int→Option (Int×Int×Int))×Int):Prop where
 lo:0≤st.2∧st.2≤30
 sm:∀ s c,st.1 s = some c→(1≤s∧s≤st.2)∧0≤c.2.1
 top:st.2 = 0∨(st.1 st.2).isSome = true
def Wq (c:Int×Int×Int):Prop:=(1≤c.1∧c.1≤30)∧0≤c.2.1
theorem Qx {st:(Int→Option (Int×Int×Int))×Int} {c:Int×Int×Int} (h:RO st) (hc:Wq c):RO (BD st c):=by
 obtain ⟨h1,h2,h3⟩:=h
 obtain ⟨c1,c2⟩:=hc
 have hsome:((BD st c).1 c.1).isSome = true:=by
  unfold BD Hn
  cases hs:st.1 c.1 with
  | none=>simp [Jt]
  | some o=>by_cases hn:c.2.1 > o.2.1 <;> simp [Jt,hn,hs]
 have e2:(BD st c).2 = if c.1 > st.2 then c.1 else st.2:=rfl
 refine ⟨by rw [e2]; split <;> omega,fun s x hx=>?_,?_⟩
 ·have hor:(s = c.1∧x = c)∨st.1 s = some x:=by
   unfold BD at hx
   cases hn:Hn st.1 c
   ·rw [hn] at hx; exact .inr hx
   ·rw [hn] at hx
    have hx:Jt st.1 c s = some x:=hx
    unfold Jt at hx
    by_cases e:s = c.1
    ·rw [if_pos e] at hx
     injection hx with hx
     exact .inl ⟨e,hx.symm⟩
    ·rw [if_neg e] at hx; exact .inr hx
  rw [e2]
  rcases hor with ⟨rfl,rfl⟩ | hx
  ·exact ⟨⟨c1.1,by split <;> omega⟩,c2⟩
  ·obtain ⟨⟨k1,k2⟩,k3⟩:=h2 s x hx
   exact ⟨⟨k1,by split <;> omega⟩,k3⟩
 ·rw [e2]
  by_cases e:c.1 > st.2
  ·rw [if_pos e]; exact .inr hsome
  ·rw [if_neg e]
   rcases h3 with h3 | h3
   ·exact .inl h3
   ·refine .inr ?_
    unfold BD
    cases Hn st.1 c
    ·exact h3
    ·show (Jt st.1 c st.2).isSome = true
     unfold Jt
     split
     ·rfl
     ·exact h3
theorem K7:∀ (cs:List (Int×Int×Int)) {st:(Int→Option (Int×Int×Int))×Int},(∀ c∈cs,Wq c)→RO st→RO (cs.foldl BD st)
 | [],st,_,h=>h
 | c::cs,st,hc,h=>K7 cs (fun x hx=>hc x (by simp [hx])) (Qx h (hc c (by simp)))
def Ld (b:Int→Option (Int×Int×Int)):Nat→Nat
 | 0=>0
 | i + 1=>bif (b ((i:Int) + 1)).isSome then i + 1 else Ld b i
theorem OB {st:(Int→Option (Int×Int×Int))×Int} (h:RO st):∀ k,Ld st.1 (st.2.toNat + k) = st.2.toNat
 | 0=>by
  have h0:=h.lo
  rw [Nat.add_zero]
  cases hm:st.2.toNat with
  | zero=>rfl
  | succ M=>
   rcases h.top with h3 | h3
   ·omega
   ·have e:((M:Int) + 1) = st.2:=by omega
    unfold Ld
    rw [e,h3]; rfl
 | k + 1=>by
  have ih:=OB h k
  have h0:=h.lo
  show (bif (st.1 (((st.2.toNat + k:Nat):Int) + 1)).isSome then st.2.toNat + k + 1 else Ld st.1 (st.2.toNat + k)) = _
  cases hs:st.1 (((st.2.toNat + k:Nat):Int) + 1) with
  | none=>exact ih
  | some c=>
   have:=(h.sm _ c hs).1.2
   omega
theorem N5 (b:Int→Option (Int×Int×Int)) {M n:Nat} (h:M≤n):(CQ b n).take M = CQ b M:=by
 unfold CQ
 rw [← List.map_take]
 congr 1
 apply List.ext_getElem?
 intro i
 rw [List.getElem?_take]
 by_cases hi:i < M
 ·rw [if_pos hi,List.getElem?_range (by omega),List.getElem?_range hi]
 ·rw [if_neg hi,List.getElem?_eq_none (by simp; omega)]
theorem Y5 (s:Int) (x:Ah) (p:Int×Int) (h:x.Certs.length≤1048576):Ar (Gr s x) NN (p.1,p.2,0) = some (.exit 2 (((Gc x).foldl (Cv s) p).1,((Gc x).foldl (Cv s) p).2,(x.Certs.length:Int))):=by
 have hlen:(Gc x).length = x.Certs.length:=by simp [Gc]
 rw [Cf (f:=Gr s x) (s0:=(p.1,p.2,0)) (fun i=>((((Gc x).take i).foldl (Cv s) p).1,(((Gc x).take i).foldl (Cv s) p).2,(i:Int))) x.Certs.length (.exit 2 (((Gc x).foldl (Cv s) p).1,((Gc x).foldl (Cv s) p).2,(x.Certs.length:Int))) (fun i hi=>?_) ?_ rfl (Be h) rfl]
 ·unfold Gr
  simp only [Int.lt_irrefl,decide_false,cond_false]
  rw [← hlen,List.take_length]
 ·have hc':(i:Int) < (x.Certs.length:Int):=by omega
  have e:((Gc x).take (i + 1)).foldl (Cv s) p = Cv s (((Gc x).take i).foldl (Cv s) p) (x.Certs[i].Slot,x.Certs[i].View,x.Certs[i].Value):=by
   rw [De (by omega),List.foldl_append]
   simp [Gc]
  rw [e]
  generalize ((Gc x).take i).foldl (Cv s) p = q
  unfold Gr Cv
  simp only [hc',decide_true,cond_true,AS hi,obs,wi1 (show i≤1099511627776 by omega)]
  cases x.Certs[i].Slot == s <;> cases decide (x.Certs[i].View > q.1) <;> rfl
def Cb (xs:List Ah) (rs:List Int):List (List (Int×Int×Int)):=rs.map fun r=>((Al xs r).map Gc).getD []
theorem RE (xs:List Ah) (rs:List Int) (s:Int) (hr:∀ r∈rs,∃ x,Al xs r = some x) (hx:∀ x∈xs,x.Certs.length≤1048576) (hl:rs.length≤1048576):QW xs rs s = some (((Cb xs rs).flatten.foldl (Cv s) (-1,0)).2,decide (((Cb xs rs).flatten.foldl (Cv s) (-1,0)).1 ≥ 0)):=by
 have hlen:(Cb xs rs).length = rs.length:=by simp [Cb]
 unfold QW
 rw [Cf (f:=HC xs rs s) (s0:=((-1),0,0)) (fun i=>((((Cb xs rs).take i).flatten.foldl (Cv s) (-1,0)).1,(((Cb xs rs).take i).flatten.foldl (Cv s) (-1,0)).2,(i:Int))) rs.length (.exit 0 (((Cb xs rs).flatten.foldl (Cv s) (-1,0)).1,((Cb xs rs).flatten.foldl (Cv s) (-1,0)).2,(rs.length:Int))) (fun i hi=>?_) ?_ rfl (Be hl) rfl]
 ·rfl
 ·unfold HC
  simp only [Int.lt_irrefl,decide_false,cond_false]
  rw [← hlen,List.take_length]
 ·have hc':(i:Int) < (rs.length:Int):=by omega
  obtain ⟨x,gx⟩:=hr _ (List.getElem_mem hi)
  have e:((Cb xs rs).take (i + 1)).flatten.foldl (Cv s) (-1,0) = (Gc x).foldl (Cv s) (((Cb xs rs).take i).flatten.foldl (Cv s) (-1,0)):=by
   rw [De (by omega),List.flatten_append,List.foldl_append]
   simp [Cb,gx]
  rw [e]
  generalize ((Cb xs rs).take i).flatten.foldl (Cv s) (-1,0) = q
  unfold HC
  simp only [hc',decide_true,cond_true,AS hi,gx,obs,Y5 s x q (hx x (C0 gx)),Ac,if_true,wi1 (show i≤1099511627776 by omega)]
structure Kj (xs:List Ah) (rs:List Int):Prop where
 get:∀ r∈rs,∃ x,Al xs r = some x
 len:rs.length≤1000
theorem HT {f:Int} {xs:List Ah} (H:Bv f xs) {rs:List Int} (R:Kj xs rs):(∀ cs∈Cb xs rs,cs.length≤1000∧∀ c∈cs,Wq c):=by
 intro cs hcs
 unfold Cb at hcs
 obtain ⟨r,hr,rfl⟩:=List.mem_map.1 hcs
 obtain ⟨x,gx⟩:=R.get r hr
 rw [gx]
 have M:=H.msg x (C0 gx)
 have hcl:=M.certsl
 refine ⟨by simp [Gc]; omega,fun c hc=>?_⟩
 simp only [Option.map_some,Option.getD_some,Gc] at hc
 obtain ⟨d,hd,rfl⟩:=List.mem_map.1 hc
 obtain ⟨k1,k2,k3⟩:=M.cert d hd
 exact ⟨k1,k2.1⟩
theorem UA {f:Int} {xs:List Ah} (H:Bv f xs) {rs:List Int} (R:Kj xs rs):RO (El (Cb xs rs)):=by
 refine K7 _ (fun c hc=>?_) ⟨⟨Int.le_refl _,by decide⟩,fun s c h=>(by cases h),.inl rfl⟩
 obtain ⟨cs,h1,h2⟩:=List.mem_flatten.1 hc
 exact (HT H R cs h1).2 c h2
theorem Q0 {f:Int} {xs:List Ah} (H:Bv f xs) {rs:List Int} (R:Kj xs rs):VQ xs rs = some (Ey (Cb xs rs)):=by
 have I:=UA H R
 have hlo:=I.lo
 have hbest:∀ s,QW xs rs s = some ((bV ((El (Cb xs rs)).1 s)).2,decide ((bV ((El (Cb xs rs)).1 s)).1 ≥ 0)):=fun s=>by
  have hb:(Cb xs rs).flatten.foldl (Cv s) (-1,0) = bV ((El (Cb xs rs)).1 s):=bst s _ (fun _=>none,0) (fun c hc=>by
   obtain ⟨cs,h1,h2⟩:=List.mem_flatten.1 hc
   exact ((HT H R cs h1).2 c h2).2)
  rw [RE xs rs s R.get (fun x hx=>Nat.le_trans (H.msg x hx).certsl (by omega)) (Nat.le_trans R.len (by omega)),hb]
 unfold VQ
 generalize hF:El (Cb xs rs) = F at I hlo hbest
 have hv:∀ i,(CQ F.1 i).length = i:=fun i=>by simp [CQ]
 rw [Cf (f:=Jk xs rs) (s0:=(0,1,[])) (fun i=>((Ld F.1 i:Int),(i:Int) + 1,CQ F.1 i)) 30 (.exit 0 ((Ld F.1 30:Int),31,CQ F.1 30)) (fun i hi=>?_) ?_ rfl (Be (by omega)) rfl]
 ·have htop:Ld F.1 30 = F.2.toNat:=by
   have:=OB I (30 - F.2.toNat)
   rwa [show F.2.toNat + (30 - F.2.toNat) = 30 by omega] at this
  simp only [obs,Ac,if_true,htop]
  rw [DF (by rw [hv]; omega),N5 F.1 (by omega)]
  unfold Ey
  rw [hF]; rfl
 ·rfl
 ·have hc:(i:Int) + 1≤30:=by omega
  have eval:CQ F.1 (i + 1) = CQ F.1 i++[(bV (F.1 ((i:Int) + 1))).2]:=by
   unfold CQ
   rw [List.range_succ,List.map_append]
   simp only [List.map_cons,List.map_nil]
   cases F.1 ((i:Int) + 1) <;> rfl
  have hap:Bu 8 (CQ F.1 i) [(bV (F.1 ((i:Int) + 1))).2] = some (CQ F.1 (i + 1)):=by
   rw [eval]; exact LU (by rw [hv]; omega)
  have eok:decide ((bV (F.1 ((i:Int) + 1))).1 ≥ 0) = (F.1 ((i:Int) + 1)).isSome:=by
   cases hs:F.1 ((i:Int) + 1) with
   | none=>rfl
   | some c=>exact decide_eq_true ((I.sm _ c hs).2)
  unfold Jk
  simp only [hc,decide_true,cond_true,hbest,obs,hap,eok,hv]
  rw [show wi .i64 (((i:Int) + 1) + 1) = ((i + 1:Nat):Int) + 1 from by rw [Cx (by omega) (by omega)]; omega]
  rw [show Ld F.1 (i + 1) = bif (F.1 ((i:Int) + 1)).isSome then i + 1 else Ld F.1 i from rfl]
  cases (F.1 ((i:Int) + 1)).isSome <;> simp [Ac]
theorem Nm {α β:Type} {f:α→Option β} {g:α→β}:∀ {xs:List α},(∀ x∈xs,f x = some (g x))→F9 f xs = some (xs.map g)
 | [],_=>rfl
 | x::xs,h=>by simp only [F9,h x (by simp),Nm (xs:=xs) (fun y hy=>h y (List.mem_cons_of_mem _ hy)),List.map_cons]
theorem Q1 {f:Int} {xs:List Ah} (H:Bv f xs) {rs:List Int} (R:Kj xs rs):Yb xs rs = some (Ey (Cb xs rs)):=by
 unfold Yb
 rw [Nm (g:=fun r=>((Al xs r).map Gc).getD []) (fun r hr=>by
  obtain ⟨x,gx⟩:=R.get r hr
  rw [gx]; rfl)]
 show K8 rs (some (Cb xs rs)) = _
 unfold K8
 dsimp only
 have hg:UH (Cb xs rs):=fun cs hcs=>⟨fun c hc=>by
  have:=((HT H R cs hcs).2 c hc).1
  omega,(HT H R cs hcs).1⟩
 rw [if_pos ⟨R.len,hg⟩]
theorem OF {f:Int} {xs:List Ah} (H:Bv f xs) {i:Int} {x:Ah} (hx:Al xs i = some x):Kj xs x.Refs:=by
 have M:=H.msg x (C0 hx)
 have hm:=CY H.f12
 have hf:=H.f12
 have hl:=H.len
 have hrl:=M.refsl
 obtain ⟨h0,h1,h2⟩:=Cn hx
 have hxe:xs[i.toNat] = x:=by
  rw [List.getElem?_eq_getElem h1] at h2
  injection h2
 refine ⟨fun r hr=>?_,by omega⟩
 have hr2:=H.refs i.toNat h1 r (by rw [hxe]; exact hr)
 have hr1:=M.ref r hr
 obtain ⟨q,rfl⟩:∃ q:Nat,r = q:=⟨r.toNat,by omega⟩
 exact ⟨_,AS (show q < xs.length by omega)⟩
def Ij (xs:List Ah) (st:Int):List Int:=((Al xs st).map (·.Refs)).getD []
def RY (xs:List Ah) (st s v:Int):Bool:=bif decide (s≤((Ey (Cb xs (Ij xs st))).length:Int)) then v == ((Al (Ey (Cb xs (Ij xs st))) (s - 1)).getD 0) else decide (v > 0)
def Mx (f:Int) (xs:List Ah) (m:Ah) (st:Int):Bool:=(m.Kind == 1) && ((m.From == Ex f m.View) && bif m.View == 0 then (st == -1) && decide (m.Value > 0) else G7 f xs st && ((CJ xs st == m.View) && RY xs st m.Slot m.Value))
def GA (f:Int) (xs:List Ah) (i st:Int):Bool:=match Al xs i with
 | some m=>Mx f xs m st
 | none=>false
theorem Pv {ys:List Int} {s:Int} (h1:1≤s∧s≤30) (h2:s≤(ys.length:Int)):Al ys (wi .i64 (s - 1)) = some ((Al ys (s - 1)).getD 0):=by
 rw [Cx (by omega) (by omega)]
 obtain ⟨q,hq⟩:∃ q:Nat,s - 1 = q:=⟨(s - 1).toNat,by omega⟩
 rw [hq,AS (show q < ys.length by omega)]; rfl
theorem Qv {f:Int} {xs:List Ah} (H:Bv f xs) (i st:Int):m83 f xs i st = some (GA f xs i st):=by
 unfold m83 GA
 rw [in2,LD H.len']
 cases hg:Al xs i with
 | none=>rfl
 | some m=>
  have M:=H.msg m (C0 hg)
  simp only [Option.isSome_some,Bool.not_true,cond_false,obs,Im H.f12]
  unfold Mx
  cases e1:m.Kind == 1
  ·have:(m.Kind != 1) = true:=by unfold bne; rw [e1]; rfl
   rw [this]; rfl
  have:(m.Kind != 1) = false:=by unfold bne; rw [e1]; rfl
  rw [this]
  have hk:m.Kind = 1:=by simpa using e1
  have hs:=M.slot (by omega)
  cases e2:m.From == Ex f m.View
  ·have:(m.From != Ex f m.View) = true:=by unfold bne; rw [e2]; rfl
   rw [this]; rfl
  have:(m.From != Ex f m.View) = false:=by unfold bne; rw [e2]; rfl
  rw [this]
  simp only [cond_false,obs,Ac,Bool.true_and]
  cases e3:m.View == 0
  rotate_left
  ·cases st == -1 <;> rfl
  simp only [cond_false,M8 H,obs]
  cases e4:G7 f xs st
  ·rfl
  obtain ⟨x,gx,_⟩:=Ho e4
  have ev:CJ xs st = x.View:=by simp [CJ,gx]
  have er:Ij xs st = x.Refs:=by simp [Ij,gx]
  rw [ev]
  cases e5:x.View == m.View
  ·have:(x.View != m.View) = true:=by unfold bne; rw [e5]; rfl
   simp only [gx,this,Bool.not_true,cond_false,cond_true,obs,Ac,Bool.false_and,Bool.and_false]
  have:(x.View != m.View) = false:=by unfold bne; rw [e5]; rfl
  unfold RY
  rw [er]
  simp only [gx,this,Bool.not_true,cond_false,obs,Ac,Q1 H (OF H gx),Bool.true_and]
  by_cases hl:m.Slot≤((Ey (Cb xs x.Refs)).length:Int)
  ·simp only [hl,decide_true,cond_true,Pv hs hl,obs]
  ·simp only [hl,decide_false,cond_false]
theorem Qu {f:Int} {xs:List Ah} (H:Bv f xs) (i st:Int):m40 f xs i st = some (GA f xs i st):=by
 unfold m40 GA
 rw [Wh H.len',obs]
 cases hg:Al xs i with
 | none=>rfl
 | some m=>
  have M:=H.msg m (C0 hg)
  dsimp only
  unfold Mx
  cases e1:m.Kind == 1
  ·rfl
  have hk:m.Kind = 1:=by simpa using e1
  have hs:=M.slot (by omega)
  simp only [Bool.not_true,cond_false,obs,K5 H.f12,Bool.true_and]
  cases e2:m.From == Ex f m.View
  ·rfl
  unfold m72 m73
  simp only [cond_true,obs,Bool.true_and]
  cases e3:m.View == 0
  rotate_left
  ·cases e4:st == -1
   ·rfl
   ·have:st = -1:=by simpa using e4
    subst this
    simp [Ac]
  simp only [cond_false,M7 H,obs]
  cases e4:G7 f xs st
  ·rfl
  obtain ⟨x,gx,_⟩:=Ho e4
  have h0:¬ st < 0:=by
   obtain ⟨h0,_⟩:=Cn gx
   omega
  have ev:CJ xs st = x.View:=by simp [CJ,gx]
  have er:Ij xs st = x.Refs:=by simp [Ij,gx]
  rw [ev]
  simp only [gx,cond_true,obs,Bool.true_and]
  cases e5:x.View == m.View
  ·rfl
  unfold RY
  rw [er]
  simp only [cond_true,h0,decide_false,cond_false,gx,obs,Q0 H (OF H gx),Bool.true_and]
  by_cases hl:m.Slot≤((Ey (Cb xs x.Refs)).length:Int)
  ·simp only [hl,decide_true,cond_true,Pv hs hl,obs,Ac]
  ·simp only [hl,decide_false,cond_false,obs,Ac]
open Go Go.Rf
theorem Y7 (c:Ae) (id:Int) (h:c.Replicas.length≤1048576):m39 c id = some (ixI (Uh c id)):=GV (f:=fun r:Ak=>some (r.Id == id)) (Be h) (B8 h) (fun _ _=>rfl)
theorem XA (c:Ae) (id:Int) (h:c.Replicas.length≤1048576):(Uh c id = none∧Oa c id = some none)∨∃ (i:Nat) (hi:i < c.Replicas.length),Uh c id = some i∧Oa c id = some (some (i:Int)):=by
 unfold Oa
 rw [show VF c.Replicas (fun x0_=>some (Oi x0_ id)) = some (ixI (Uh c id)) from GV (Be h) (B8 h) (fun x _=>rfl),obs]
 cases e:Uh c id with
 | none=>exact .inl ⟨rfl,rfl⟩
 | some i=>
  have hi:=(HN.1 e).1
  refine .inr ⟨i,hi,rfl,?_⟩
  have h1:¬ (ixI (some i) < 0):=by simp [ixI]
  simp only [h1,decide_false,cond_false]
  rw [show ixI (some i) = (i:Int) from rfl,AS hi]; rfl
def FS (r:Ak) (k s:Int) (m:Ah):Bool:=(m.From == r.Id) && ((m.Kind == k) && ((m.View == r.View) && (m.Slot == s)))
theorem Qi (xs:List Ah) (r:Ak) (k s:Int) (h:xs.length≤1048576):m84 r xs k s = some (xs.any (FS r k s)):=by
 unfold m84 Ya
 rw [show XT xs (fun x0_=>Oe x0_ r k s) = some (xs.any (FS r k s)) from I0 (Be h) (B8 h) (fun x _=>by
  unfold Oe VE FS
  cases x.From == r.Id <;> cases x.Kind == k <;> cases x.View == r.View <;> rfl)]
 rfl
theorem Kx (xs:List Ah) (r:Ak) (k s:Int) {i:Nat} (hi:i < xs.length) (hs:(s == 0) = false):Iu xs r k s (-1) (false,(i:Int)) = some (bif FS r k s xs[i] then .ret (true,(i:Int)) else .norm (false,wi .i64 ((i:Int) + 1))):=by
 have hc':(i:Int) < (xs.length:Int):=by omega
 unfold Iu FS
 simp only [hc',decide_true,cond_true,AS hi,obs,hs]
 cases xs[i].From == r.Id <;> cases xs[i].Kind == k <;> cases xs[i].View == r.View <;> cases xs[i].Slot == s <;> rfl
theorem Qh (xs:List Ah) (r:Ak) (k s:Int) (h:xs.length≤1048576) (hs:(s == 0) = false):m41 xs r k s (-1) = some (xs.any (FS r k s)):=by
 unfold m41
 rw [AG (f:=Iu xs r k s (-1)) (s0:=(false,0)) (fun i=>(false,(i:Int))) xs.length (pAt (FS r k s) xs) (fun i=>.ret (true,(i:Int))) (.exit 0 (false,(xs.length:Int))) (fun i hi _ hp=>?_) (fun i hi _ hp=>?_) (fun _=>?_) (Be h) rfl]
 ·rw [← Cc]
  cases BB (pAt (FS r k s) xs) xs.length <;> rfl
 ·rw [AK hi] at hp
  rw [Kx xs r k s hi hs,hp]
  simp only [cond_false,wi1 (show i≤1099511627776 by omega)]
 ·rw [AK hi] at hp
  rw [Kx xs r k s hi hs,hp]
  exact ⟨rfl,rfl⟩
 ·unfold Iu
  simp only [Int.lt_irrefl,decide_false,cond_false]
  exact ⟨trivial,rfl⟩
noncomputable def Ew (c:Ae) (r:Ak) (i:Int):Int:=bif !GA c.F c.Ledger i r.Start then 1 else match Al c.Ledger i with
 | some m=>bif m.View != r.View then 1 else bif c.Ledger.any (FS r 2 m.Slot) then 6 else 0
 | none=>1
theorem Il {f:Int} {xs:List Ah} {i st:Int} (h:GA f xs i st = true):∃ m,Al xs i = some m∧m.Kind = 1:=by
 unfold GA at h
 cases hg:Al xs i with
 | none=>rw [hg] at h; cases h
 | some m=>
  rw [hg] at h
  refine ⟨m,rfl,?_⟩
  have h:Mx f xs m st = true:=h
  unfold Mx at h
  simp only [Bool.and_eq_true,beq_iff_eq] at h
  exact h.1
theorem U2 {c:Ae} (H:Bv c.F c.Ledger) (r:Ak) (i:Int):m19 c.F c.Ledger r i = some (Ew c r i):=by
 have hl:=H.len
 unfold m19 Ew
 rw [Qu H]
 simp only [obs]
 cases hp:GA c.F c.Ledger i r.Start
 ·rfl
 obtain ⟨m,gm,hk⟩:=Il hp
 have hs:=(H.msg m (C0 gm)).slot (by omega)
 have hs0:(m.Slot == 0) = false:=by
  rw [beq_eq_false_iff_ne]; omega
 simp only [Bool.not_true,cond_false,gm,obs]
 cases m.View != r.View
 ·simp only [cond_false,obs,Ac,Qh c.Ledger r 2 m.Slot (by omega) hs0]
  cases c.Ledger.any (FS r 2 m.Slot) <;> rfl
 ·rfl
theorem U3 {c:Ae} (H:Bv c.F c.Ledger) (r:Ak) (i:Int):m51 r c.F c.Ledger i = some (Ew c r i):=by
 have hl:=H.len
 unfold m51 Ew
 rw [Qv H]
 simp only [obs]
 cases hp:GA c.F c.Ledger i r.Start
 ·rfl
 obtain ⟨m,gm,hk⟩:=Il hp
 simp only [Bool.not_true,cond_false,gm,obs]
 cases m.View != r.View
 ·simp only [cond_false,obs,Ac,Qi c.Ledger r 2 m.Slot (by omega)]
  cases c.Ledger.any (FS r 2 m.Slot) <;> rfl
 ·rfl
theorem XG {c:Ae} {r:Ak} {i:Int} (h:Ew c r i = 0):∃ m,Al c.Ledger i = some m:=by
 unfold Ew at h
 cases hp:GA c.F c.Ledger i r.Start
 ·rw [hp] at h; cases h
 ·obtain ⟨m,gm,_⟩:=Il hp
  exact ⟨m,gm⟩
theorem bK (c:Ae) (id i:Int) (g:BJ c):∃ y,m5 c id i = some y∧m7 c id i = some y∧BJ y.Cluster:=by
 obtain ⟨y,h1,h2,h3⟩:=Yz c g
 unfold m5 m7 m25 m47 m17 m26
 rw [h1,h2]
 simp only [obs]
 by_cases hy:y = 0
 rotate_left
 ·have e:(y != 0) = true:=by simpa using hy
  simp only [e,cond_true,obs]
  exact ⟨_,rfl,rfl,Ha⟩
 have O:=h3 hy
 have H:=O.led
 have hl:=H.len
 have e:(y != 0) = false:=by simpa using hy
 simp only [e,cond_false,Y7 c id g.rep,obs,KC c g]
 unfold m48 m49
 rcases XA c id g.rep with ⟨r1,r2⟩ | ⟨k,hk,r1,r2⟩
 ·rw [r1,r2]; exact ⟨_,rfl,rfl,Ha⟩
 have hid:c.Replicas[k].Id = id:=by
  have:=(HN.1 r1).2.2
  rw [AK hk] at this
  simpa using this
 rw [r1,r2]
 have h1:¬ (ixI (some k) < 0):=by simp [ixI]
 have e0:((0:Int) != 0) = false:=rfl
 simp only [h1,decide_false,cond_false,bO,e0,obs]
 rw [show ixI (some k) = (k:Int) from rfl,AS hk]
 unfold m50
 simp only [AS hk,obs,U2 H,U3 H]
 by_cases hc:Ew c c.Replicas[k] i = 0
 rotate_left
 ·have e:(Ew c c.Replicas[k] i != 0) = true:=by simpa using hc
  simp only [e,cond_true,obs]
  exact ⟨_,rfl,rfl,Ha⟩
 obtain ⟨m,gx⟩:=XG hc
 rw [hc]
 simp only [e0,cond_false,gx,obs]
 rw [show m52 c m.Value = decide (m.Value≤(c.Requests.length:Int)) from rfl]
 by_cases ho:m.Value≤(c.Requests.length:Int)
 rotate_left
 ·have ho':m.Value > (c.Requests.length:Int):=by omega
  simp only [ho,ho',decide_true,decide_false,cond_true,Bool.not_false,obs]
  exact ⟨_,rfl,rfl,Ha⟩
 have ho':¬ m.Value > (c.Requests.length:Int):=by omega
 unfold m53
 have gm:AO (⟨2,c.Replicas[k].View,id,m.Slot,m.Value,[],[]⟩:Ah):=⟨Nat.zero_le _,Nat.zero_le _⟩
 simp only [ho,ho',decide_true,decide_false,Bool.not_true,cond_false,AS hk,obs,hid,Qj c _ g hl gm,XD c _ g hl gm rfl]
 rw [W9 g hl gm]
 exact ⟨_,rfl,rfl,NI g hl gm⟩
theorem XF (c:Ae) (id i:Int) (h:ON c):m3 c id i = some true:=by
 unfold m3
 obtain ⟨y,h1,h2⟩:=Sy c h
 rw [h1,obs]
 by_cases hy:y < 0
 ·simp only [hy,decide_true,cond_true]
 have g:=h2 (by omega)
 obtain ⟨w,e1,e2,e3⟩:=bK c id i g
 obtain ⟨k,c',q1,_,q3,_⟩:=ZK c 1 (j7 g) (by omega) (by decide)
 obtain ⟨k2,w',p1,p2,p3⟩:=bY w (j7 e3)
 have hk:¬ k < 0:=by omega
 have hk2:¬ k2 < 0:=by omega
 simp only [hy,decide_false,cond_false,Sr c g,e1,e2,Rr w e3,Ni c g,q1,p1,p2,hk,hk2,obs,Bool.not_true,Ac,bne_self_eq_false]
end Go.Proofs.YtdlleiaejipncaaGreatDoor
