/- Marks on numbers; texts of marks. -/
import Derived.Test.YtifocmbeahpopaaGreatDoorClu
import Derived.Test.YtifocmbeahpopaaGreatDoorRh10
namespace Go.Proofs.YtifocmbeahpopaaGreatDoor
open Go Go.Rf
set_option linter.unusedVariables false
set_option linter.unusedSimpArgs false
theorem NN_20:1048576 < NN:=by rw [NN_eq]; omega
def hInt (x k k':Int):Prop:=x = k∧k' = k + 1
theorem hInt_m:∀ x k k',hInt x k k'→k≤k':=fun x k k' h=>by obtain ⟨_,rfl⟩:=h; omega
abbrev few {α:Type} (good:α→Prop) (xs:List α):Prop:=xs.length≤1048576∧∀ x∈xs,good x
theorem mkInt:Mks m39 (MKL hInt) (few fun _=>True) (1048576 * 1):=
 gMk (F:=ms39_0) (good:=fun _=>True) (by omega) NN_20 (fun k i a x _ hx hi h0 hb hk hB=>by
  have hB:k + 1≤1152921504606846976:=hB
  refine ⟨k + 1,k,?_,⟨rfl,rfl⟩,by omega,by omega⟩
  unfold ms39_0
  simp (disch:=omega) only [hi,decide_true,cond_true,hx,obs,letO_eq,wiK]) (fun k i a h=>by
  unfold ms39_0
  simp only [h,decide_false,cond_false])
theorem hdInt:Hds m86 (MKL hInt):=
 gHd (F:=ms86_0) hInt_m NN_20 (fun xs k r i k' x hx hi h0 hb hk hB h=>by
  obtain ⟨rfl,rfl⟩:=h
  have hB:x + 1≤1152921504606846976:=hB
  refine ⟨r,?_⟩
  unfold ms86_0
  simp (disch:=omega) only [hi,decide_true,cond_true,hx,obs,bne_self_eq_false,cond_false,wiK]) (fun xs k r i h=>by
  unfold ms86_0
  simp only [h,decide_false,cond_false])
open Go Go.Rf
set_option linter.unusedVariables false
set_option linter.unusedSimpArgs false
theorem mkText_loop:∀ (j:Nat) (k:Int) (s:Str) (N:Nat),k < 10 ^ j→j < N→s.length + j≤1000→∃ z s',loopO ms135_0 N (k,s) = some (.exit 0 (z,s'))∧s'.length≤s.length + j
 | 0,k,s,N,hk,hN,hs=>by
  obtain ⟨N,rfl⟩:∃ n,N = n + 1:=⟨N - 1,by omega⟩
  have h:¬ k > 0:=by simp at hk; omega
  refine ⟨k,s,?_,by omega⟩
  simp only [loopO]
  unfold ms135_0
  simp only [h,decide_false,cond_false,obs]
 | j + 1,k,s,N,hk,hN,hs=>by
  obtain ⟨N,rfl⟩:∃ n,N = n + 1:=⟨N - 1,by omega⟩
  by_cases h:k > 0
  ·have e1:Int.tdiv k 10 = k / 10:=Int.tdiv_eq_ediv_of_nonneg (by omega)
   have e2:(10:Int) ^ (j + 1) = 10 ^ j * 10:=Int.pow_succ ..
   have e3:wi .i64 (Int.tdiv k 10) < 10 ^ j:=by
    rw [e1]
    have:k / 10 < 10 ^ j:=by omega
    by_cases hb:k≤9223372036854775807
    ·rw [wi64 (by omega) (by omega)]; exact this
    ·refine Int.lt_of_le_of_lt ?_ this
     show IntKind.i64.wrap (k / 10)≤k / 10
     rw [IntKind.wrap_i64]; omega
   obtain ⟨z,s',q1,q2⟩:=mkText_loop j (wi .i64 (Int.tdiv k 10)) (([UInt8.ofNat (Int.toNat (wi .u8 (wi .i64 (48 + (Int.tmod k 10)))))]:Str)++s) N e3 (by omega) (by simp; omega)
   refine ⟨z,s',?_,by simp at q2; omega⟩
   simp only [loopO]
   rw [show ms135_0 (k,s) = some (LO.norm (wi .i64 (Int.tdiv k 10),([UInt8.ofNat (Int.toNat (wi .u8 (wi .i64 (48 + (Int.tmod k 10)))))]:Str)++s)) from by
    unfold ms135_0
    simp only [h,decide_true,cond_true]
    unfold catO
    rw [if_pos (by simp; omega)]; rfl]
   exact q1
  ·refine ⟨k,s,?_,by omega⟩
   simp only [loopO]
   unfold ms135_0
   simp only [h,decide_false,cond_false,obs]
theorem mkText (k:Int) (hk:k≤mB):∃ s,m135 k = some s:=by
 unfold m135
 by_cases h:k≤0
 ·simp only [h,decide_true,cond_true]; exact ⟨_,rfl⟩
 ·simp only [h,decide_false,cond_false]
  have hk:k≤1152921504606846976:=hk
  obtain ⟨z,s',q1,q2⟩:=mkText_loop 30 k [] NN (by simp; omega) (by rw [NN_eq]; omega) (by simp)
  rw [q1,obs]
  simp only [contO,if_true]
  unfold catO
  rw [if_pos (by simp at q2 ⊢; omega)]
  exact ⟨_,rfl⟩
open Go Go.Rf
set_option linter.unusedVariables false
set_option linter.unusedSimpArgs false
def hCert (x:TCert) (k k':Int):Prop:=x = ⟨k,k + 1,k + 1 + 1⟩∧k' = k + 1 + 1 + 1
theorem hCert_m:∀ x k k',hCert x k k'→k≤k':=fun x k k' h=>by obtain ⟨_,rfl⟩:=h; omega
theorem mkCerts:Mks m84 (MKL hCert) (few fun _=>True) (1048576 * 3):=
 gMk (F:=ms84_0) (good:=fun _=>True) (by omega) NN_20 (fun k i a x _ hx hi h0 hb hk hB=>by
  have hB:k + 3≤1152921504606846976:=hB
  refine ⟨k + 1 + 1 + 1,⟨k,k + 1,k + 1 + 1⟩,?_,⟨rfl,rfl⟩,by omega,by omega⟩
  unfold ms84_0
  simp (disch:=omega) only [hi,decide_true,cond_true,hx,obs,letO_eq,wiK,getI_set hx,getI_set (getI_set hx _),List.set_set]) (fun k i a h=>by
  unfold ms84_0
  simp only [h,decide_false,cond_false])
theorem hdCerts:Hds m136 (MKL hCert):=
 gHd (F:=ms136_0) hCert_m NN_20 (fun xs k r i k' x hx hi h0 hb hk hB h=>by
  obtain ⟨rfl,rfl⟩:=h
  have hB:k + 1 + 1 + 1≤1152921504606846976:=hB
  refine ⟨r,?_⟩
  unfold ms136_0
  simp (disch:=omega) only [hi,decide_true,cond_true,hx,obs,bne_self_eq_false,cond_false,wiK]) (fun xs k r i h=>by
  unfold ms136_0
  simp only [h,decide_false,cond_false])
def hRep (x:TReplica) (k k':Int):Prop:=x = ⟨k,k + 1,k + 1 + 1,k + 1 + 1 + 1⟩∧k' = k + 1 + 1 + 1 + 1
theorem hRep_m:∀ x k k',hRep x k k'→k≤k':=fun x k k' h=>by obtain ⟨_,rfl⟩:=h; omega
theorem mkReps:Mks m40 (MKL hRep) (few fun _=>True) (1048576 * 4):=
 gMk (F:=ms40_0) (good:=fun _=>True) (by omega) NN_20 (fun k i a x _ hx hi h0 hb hk hB=>by
  have hB:k + 4≤1152921504606846976:=hB
  refine ⟨k + 1 + 1 + 1 + 1,⟨k,k + 1,k + 1 + 1,k + 1 + 1 + 1⟩,?_,⟨rfl,rfl⟩,by omega,by omega⟩
  unfold ms40_0
  simp (disch:=omega) only [hi,decide_true,cond_true,hx,obs,letO_eq,wiK,getI_set hx,getI_set (getI_set hx _),getI_set (getI_set (getI_set hx _) _),List.set_set]) (fun k i a h=>by
  unfold ms40_0
  simp only [h,decide_false,cond_false])
theorem hdReps:Hds m87 (MKL hRep):=
 gHd (F:=ms87_0) hRep_m NN_20 (fun xs k r i k' x hx hi h0 hb hk hB h=>by
  obtain ⟨rfl,rfl⟩:=h
  have hB:k + 1 + 1 + 1 + 1≤1152921504606846976:=hB
  refine ⟨r,?_⟩
  unfold ms87_0
  simp (disch:=omega) only [hi,decide_true,cond_true,hx,obs,bne_self_eq_false,cond_false,wiK]) (fun xs k r i h=>by
  unfold ms87_0
  simp only [h,decide_false,cond_false])
def hOp (x:TOp) (k k':Int):Prop:=∃ s,m135 (k + 1) = some s∧x = ⟨k,s,k + 1 + 1,k + 1 + 1 + 1,Int.tmod (k + 1 + 1 + 1 + 1) 3 == 0,Int.tmod (k + 1 + 1 + 1 + 1 + 1) 3 == 0⟩∧k' = k + 1 + 1 + 1 + 1 + 1 + 1
theorem hOp_m:∀ x k k',hOp x k k'→k≤k':=fun x k k' h=>by obtain ⟨_,_,_,rfl⟩:=h; omega
theorem mkOps:Mks m85 (MKL hOp) (few fun _=>True) (1048576 * 6):=
 gMk (F:=ms85_0) (good:=fun _=>True) (by omega) NN_20 (fun k i a x _ hx hi h0 hb hk hB=>by
  have hB:k + 6≤1152921504606846976:=hB
  obtain ⟨t,ht⟩:=mkText (k + 1) (show _≤(1152921504606846976:Int) by omega)
  refine ⟨k + 1 + 1 + 1 + 1 + 1 + 1,⟨k,t,k + 1 + 1,k + 1 + 1 + 1,Int.tmod (k + 1 + 1 + 1 + 1) 3 == 0,Int.tmod (k + 1 + 1 + 1 + 1 + 1) 3 == 0⟩,?_,⟨t,ht,rfl,rfl⟩,by omega,by omega⟩
  unfold ms85_0
  simp (disch:=omega) only [hi,decide_true,cond_true,hx,obs,letO_eq,wiK,ht,getI_set hx,getI_set (getI_set hx _),getI_set (getI_set (getI_set hx _) _),getI_set (getI_set (getI_set (getI_set hx _) _) _),getI_set (getI_set (getI_set (getI_set (getI_set hx _) _) _) _),List.set_set]) (fun k i a h=>by
  unfold ms85_0
  simp only [h,decide_false,cond_false])
theorem hdOps:Hds m137 (MKL hOp):=
 gHd (F:=ms137_0) hOp_m NN_20 (fun xs k r i k' x hx hi h0 hb hk hB h=>by
  obtain ⟨s,ht,rfl,rfl⟩:=h
  have hB:k + 1 + 1 + 1 + 1 + 1 + 1≤1152921504606846976:=hB
  refine ⟨r,?_⟩
  unfold ms137_0
  simp (disch:=omega) only [hi,decide_true,cond_true,hx,obs,bne_self_eq_false,cond_false,wiK,ht,beq_self_eq_true,Bool.not_true]) (fun xs k r i h=>by
  unfold ms137_0
  simp only [h,decide_false,cond_false])
def hMsg (x:TMsg) (k k':Int):Prop:=x.Kind = k∧x.View = k + 1∧x.From = k + 1 + 1∧x.Slot = k + 1 + 1 + 1∧x.Value = k + 1 + 1 + 1 + 1∧∃ j,MKL hCert x.Certs (k + 1 + 1 + 1 + 1 + 1) j∧MKL hInt x.Refs j k'
theorem hMsg_m:∀ x k k',hMsg x k k'→k≤k':=fun x k k' h=>by
 obtain ⟨_,_,_,_,_,j,h1,h2⟩:=h
 have:=MKL.mono hCert_m _ _ _ h1
 have:=MKL.mono hInt_m _ _ _ h2
 omega
abbrev gMsg (m:TMsg):Prop:=m.Certs.length≤1048576∧m.Refs.length≤1048576
theorem mkMsgs:Mks m41 (MKL hMsg) (few gMsg) (1048576 * 4194309):=
 gMk (F:=ms41_0) (good:=gMsg) (by omega) NN_20 (fun k i a x hg hx hi h0 hb hk hB=>by
  have hB:k + 4194309≤1152921504606846976:=hB
  obtain ⟨j,cs,q1,q2,q3,q4⟩:=mkCerts x.Certs (k + 1 + 1 + 1 + 1 + 1) ⟨hg.1,fun _ _=>trivial⟩ (by omega) (show _≤(1152921504606846976:Int) by omega)
  obtain ⟨k',rs,p1,p2,p3,p4⟩:=mkInt x.Refs j ⟨hg.2,fun _ _=>trivial⟩ (by omega) (show _≤(1152921504606846976:Int) by omega)
  refine ⟨k',⟨k,k + 1,k + 1 + 1,k + 1 + 1 + 1,k + 1 + 1 + 1 + 1,cs,rs⟩,?_,⟨rfl,rfl,rfl,rfl,rfl,j,q2,p2⟩,by omega,by omega⟩
  unfold ms41_0
  simp (disch:=omega) only [hi,decide_true,cond_true,hx,obs,letO_eq,wiK,q1,p1,getI_set hx,getI_set (getI_set hx _),getI_set (getI_set (getI_set hx _) _),getI_set (getI_set (getI_set (getI_set hx _) _) _),getI_set (getI_set (getI_set (getI_set (getI_set hx _) _) _) _),getI_set (getI_set (getI_set (getI_set (getI_set (getI_set hx _) _) _) _) _),List.set_set]) (fun k i a h=>by
  unfold ms41_0
  simp only [h,decide_false,cond_false])
theorem hdMsgs:Hds m88 (MKL hMsg):=
 gHd (F:=ms88_0) hMsg_m NN_20 (fun xs k r i k' x hx hi h0 hb hk hB h=>by
  have hB:k'≤1152921504606846976:=hB
  obtain ⟨g1,g2,g3,g4,g5,j,q1,q2⟩:=h
  have m1:=MKL.mono hCert_m _ _ _ q1
  have m2:=MKL.mono hInt_m _ _ _ q2
  have e1:=hdCerts _ _ _ q1 (by omega) (show _≤(1152921504606846976:Int) by omega)
  have e2:=hdInt _ _ _ q2 (by omega) (show _≤(1152921504606846976:Int) by omega)
  have n1:¬ j < 0:=by omega
  have n2:¬ k' < 0:=by omega
  refine ⟨r,?_⟩
  unfold ms88_0
  simp (disch:=omega) only [hi,decide_true,cond_true,hx,obs,g1,g2,g3,g4,g5,bne_self_eq_false,cond_false,wiK,e1,e2,n1,n2,decide_false]) (fun xs k r i h=>by
  unfold ms88_0
  simp only [h,decide_false,cond_false])
def hReq (x:TRequest) (k k':Int):Prop:=x.Client = k∧x.Number = k + 1∧x.Time = k + 1 + 1∧MKL hOp x.Ops (k + 1 + 1 + 1) k'
theorem hReq_m:∀ x k k',hReq x k k'→k≤k':=fun x k k' h=>by
 obtain ⟨_,_,_,h1⟩:=h
 have:=MKL.mono hOp_m _ _ _ h1
 omega
abbrev gReq (m:TRequest):Prop:=m.Ops.length≤1048576
theorem mkReqs:Mks m42 (MKL hReq) (few gReq) (1048576 * 6291459):=
 gMk (F:=ms42_0) (good:=gReq) (by omega) NN_20 (fun k i a x hg hx hi h0 hb hk hB=>by
  have hB:k + 6291459≤1152921504606846976:=hB
  obtain ⟨j,cs,q1,q2,q3,q4⟩:=mkOps x.Ops (k + 1 + 1 + 1) ⟨hg,fun _ _=>trivial⟩ (by omega) (show _≤(1152921504606846976:Int) by omega)
  refine ⟨j,⟨k,k + 1,k + 1 + 1,cs⟩,?_,⟨rfl,rfl,rfl,q2⟩,by omega,by omega⟩
  unfold ms42_0
  simp (disch:=omega) only [hi,decide_true,cond_true,hx,obs,letO_eq,wiK,q1,getI_set hx,getI_set (getI_set hx _),getI_set (getI_set (getI_set hx _) _),List.set_set]) (fun k i a h=>by
  unfold ms42_0
  simp only [h,decide_false,cond_false])
theorem hdReqs:Hds m89 (MKL hReq):=
 gHd (F:=ms89_0) hReq_m NN_20 (fun xs k r i k' x hx hi h0 hb hk hB h=>by
  have hB:k'≤1152921504606846976:=hB
  obtain ⟨g1,g2,g3,q1⟩:=h
  have m1:=MKL.mono hOp_m _ _ _ q1
  have e1:=hdOps _ _ _ q1 (by omega) (show _≤(1152921504606846976:Int) by omega)
  have n1:¬ k' < 0:=by omega
  refine ⟨r,?_⟩
  unfold ms89_0
  simp (disch:=omega) only [hi,decide_true,cond_true,hx,obs,g1,g2,g3,bne_self_eq_false,cond_false,wiK,e1,n1,decide_false]) (fun xs k r i h=>by
  unfold ms89_0
  simp only [h,decide_false,cond_false])
structure GClu (c:TCluster):Prop where
 bad:c.Bad.length≤1048576
 rep:c.Replicas.length≤1048576
 led:c.Ledger.length≤1048576
 msg:∀ m∈c.Ledger,gMsg m
 req:c.Requests.length≤1048576
 ops:∀ r∈c.Requests,gReq r
def hClu (c:TCluster) (k k':Int):Prop:=∃ j1 j2 j3,MKL hInt c.Bad k j1∧MKL hRep c.Replicas j1 j2∧MKL hMsg c.Ledger j2 j3∧MKL hReq c.Requests j3 k'
theorem mkClu:Mks m14 hClu GClu 1125899906842624:=fun c k g hk hB=>by
 have hB:k + 1125899906842624≤1152921504606846976:=hB
 obtain ⟨j1,y1,q1,p1,a1,b1⟩:=mkInt c.Bad k ⟨g.bad,fun _ _=>trivial⟩ hk (show _≤(1152921504606846976:Int) by omega)
 obtain ⟨j2,y2,q2,p2,a2,b2⟩:=mkReps c.Replicas j1 ⟨g.rep,fun _ _=>trivial⟩ (by omega) (show _≤(1152921504606846976:Int) by omega)
 obtain ⟨j3,y3,q3,p3,a3,b3⟩:=mkMsgs c.Ledger j2 ⟨g.led,g.msg⟩ (by omega) (show _≤(1152921504606846976:Int) by omega)
 obtain ⟨j4,y4,q4,p4,a4,b4⟩:=mkReqs c.Requests j3 ⟨g.req,g.ops⟩ (by omega) (show _≤(1152921504606846976:Int) by omega)
 refine ⟨j4,⟨c.F,y1,y2,y3,y4⟩,?_,⟨j1,j2,j3,p1,p2,p3,p4⟩,by omega,by omega⟩
 unfold m14
 simp only [q1,q2,q3,q4,obs,letO_eq]
theorem hdClu:Hds m43 hClu:=fun c k k' ⟨j1,j2,j3,p1,p2,p3,p4⟩ hk hB=>by
 have hB:k'≤1152921504606846976:=hB
 have m1:=MKL.mono hInt_m _ _ _ p1
 have m2:=MKL.mono hRep_m _ _ _ p2
 have m3:=MKL.mono hMsg_m _ _ _ p3
 have m4:=MKL.mono hReq_m _ _ _ p4
 have n1:¬ j1 < 0:=by omega
 have n2:¬ j2 < 0:=by omega
 have n3:¬ j3 < 0:=by omega
 have n4:¬ k' < 0:=by omega
 unfold m43
 rw [hdInt _ _ _ p1 hk (show _≤(1152921504606846976:Int) by omega)]
 simp only [obs,n1,decide_false,cond_false]
 rw [hdReps _ _ _ p2 (by omega) (show _≤(1152921504606846976:Int) by omega)]
 simp only [obs,n2,decide_false,cond_false]
 rw [hdMsgs _ _ _ p3 (by omega) (show _≤(1152921504606846976:Int) by omega)]
 simp only [obs,n3,decide_false,cond_false]
 rw [hdReqs _ _ _ p4 (by omega) (show _≤(1152921504606846976:Int) by omega)]
 simp only [obs,n4,decide_false,cond_false]
open Go Go.Rf
set_option linter.unusedVariables false
set_option linter.unusedSimpArgs false
theorem mkCluR (x:TClusterResult) (g:GClu x.Cluster):∃ k' x',m15 x 1 = some (k',x')∧m16 x' 1 = some k'∧0≤k':=by
 obtain ⟨k',y,h1,h2,h3,h4⟩:=mkClu x.Cluster 1 g (by omega) (by decide)
 refine ⟨k',{ x with Cluster:=y },?_,?_,by omega⟩
 ·unfold m15
  rw [h1]; rfl
 ·unfold m16
  rw [hdClu y 1 k' h2 (by omega) (show k'≤(1152921504606846976:Int) by omega)]
  have:¬ k' < 0:=by omega
  simp only [obs,this,decide_false,cond_false]
open Go Go.Rf
set_option linter.unusedVariables false
set_option linter.unusedSimpArgs false
theorem appN {α:Type} {b:Nat} {L ys:List α} (h:L.length + ys.length≤2097152) (hb:b≤1000):appO b L ys = some (L++ys):=by
 unfold appO
 rw [if_pos (Nat.le_trans (Nat.mul_le_mul h (show b + 1≤1001 by omega)) (by decide))]
theorem app0 {α:Type} {b:Nat} {ys:List α} (h:ys.length≤1048576) (hb:b≤1000):appO b [] ys = some ys:=by
 rw [appN (by simp only [List.length_nil]; omega) hb]; rfl
theorem cpLoop {α:Type} {f:Int×List α→Option (LO (Int×List α))} {xs:List α} {b:Nat} {e:Nat} (hl:xs.length≤1048576) (hb:b≤1000)
  (h1:∀ (i:Nat) (hi:i < xs.length) (s:List α),f ((i:Int),s) = (appO b s [xs[i]]).bind fun z=>some (.norm (wi .i64 ((i:Int) + 1),z))) (h0:∀ s,f ((xs.length:Int),s) = some (.exit e ((xs.length:Int),s))) :
  loopO f NN (0,[]) = some (.exit e ((xs.length:Int),xs)):=by
 rw [loop_all (f:=f) (s0:=(0,[])) (fun i=>((i:Int),xs.take i)) xs.length (.exit e ((xs.length:Int),xs.take xs.length)) (fun i hi=>?_) ?_ rfl (NN_l hl) rfl]
 ·rw [List.take_length]
 ·rw [h0]
 ·rw [h1 i hi,appN (by simp; omega) hb,obs,wi1 (show i≤1099511627776 by omega),List.take_succ_eq_append_getElem hi]
theorem ownReq_ok (r:TRequest) (h:goodReq r):m182 r = some r:=by
 unfold m182
 rw [show m212 r.Ops = some r.Ops from app0 h (by decide)]; rfl
theorem cpReq_ok (r:TRequest) (h:goodReq r):m128 r = some r:=by
 unfold m128
 rw [app0 h (by decide)]; rfl
theorem ownMsg_ok (m:TMsg) (h:goodMsg m):m186 m = some m:=by
 unfold m186
 rw [show m213 m.Certs = some m.Certs from app0 h.1 (by decide),obs,show m179 m.Refs = some m.Refs from app0 h.2 (by decide)]; rfl
theorem cpMsg_ok (m:TMsg) (h:goodMsg m):m130 m = some m:=by
 unfold m130
 rw [app0 h.1 (by decide),obs,app0 h.2 (by decide)]; rfl
theorem ownLed_ok (xs:List TMsg) (h:xs.length≤1048576) (g:∀ m∈xs,goodMsg m):m181 xs = some xs:=by
 unfold m181
 rw [cpLoop (b:=88) h (by decide) (fun i hi s=>by
  have hc':(i:Int) < (xs.length:Int):=by omega
  unfold ms181_0
  simp only [hc',decide_true,cond_true,getN hi,obs,ownMsg_ok _ (g _ (List.getElem_mem hi))]) (fun s=>by
  unfold ms181_0
  simp only [Int.lt_irrefl,decide_false,cond_false]
  rfl)]
 rfl
theorem cpLed_ok (xs:List TMsg) (h:xs.length≤1048576) (g:∀ m∈xs,goodMsg m):m127 xs = some xs:=by
 unfold m127
 rw [cpLoop (b:=88) h (by decide) (fun i hi s=>by
  have hc':(i:Int) < (xs.length:Int):=by omega
  unfold ms127_0
  simp only [hc',decide_true,cond_true,getN hi,obs,cpMsg_ok _ (g _ (List.getElem_mem hi))]) (fun s=>by
  unfold ms127_0
  simp only [Int.lt_irrefl,decide_false,cond_false]
  rfl)]
 rfl
theorem ownClu_ok (c:TCluster) (g:GoodClu c):m131 c = some c:=by
 unfold m131
 rw [show m179 c.Bad = some c.Bad from app0 g.bad (by decide),obs,show m180 c.Replicas = some c.Replicas from app0 g.rep (by decide),obs,ownLed_ok _ g.led g.msg,obs]
 rw [cpLoop (b:=48) g.req (by decide) (fun i hi s=>by
  have hc':(i:Int) < (c.Requests.length:Int):=by omega
  unfold ms131_0
  simp only [hc',decide_true,cond_true,getN hi,obs,ownReq_ok _ (g.ops _ (List.getElem_mem hi))]) (fun s=>by
  unfold ms131_0
  simp only [Int.lt_irrefl,decide_false,cond_false]
  rfl)]
 rfl
theorem cpClu_ok (c:TCluster) (g:GoodClu c):m76 c = some c:=by
 unfold m76
 rw [app0 g.bad (by decide),obs,app0 g.rep (by decide),obs,cpLed_ok _ g.led g.msg,obs]
 rw [cpLoop (b:=48) g.req (by decide) (fun i hi s=>by
  have hc':(i:Int) < (c.Requests.length:Int):=by omega
  unfold ms76_0
  simp only [hc',decide_true,cond_true,getN hi,obs,cpReq_ok _ (g.ops _ (List.getElem_mem hi))]) (fun s=>by
  unfold ms76_0
  simp only [Int.lt_irrefl,decide_false,cond_false]
  rfl)]
 rfl
theorem zeroClu:GoodClu (⟨0,[],[],[],[]⟩:TCluster):=⟨by simp,by simp,by simp,by simp,by simp,by simp⟩
theorem gclu {c:TCluster} (g:GoodClu c):GClu c:=⟨g.bad,g.rep,g.led,g.msg,g.req,g.ops⟩
theorem eqCluR_ok (x:TClusterResult) (g:GoodClu x.Cluster):m13 x x = some true:=by
 unfold m13
 simp only [bne_self_eq_false,cond_false,eqClu_ok _ g,obs,Bool.not_true]
open Go Go.Rf
set_option linter.unusedVariables false
set_option linter.unusedSimpArgs false
noncomputable def putL (xs:List TMsg) (m:TMsg):List TMsg×Int:=bif decide (atM xs m ≥ 0) then (xs,0) else bif (xs.length:Int) == 240 then ([],2) else (xs++[m],0)
theorem put_spec (xs:List TMsg) (m:TMsg) (h:xs.length≤240) (g:∀ x∈xs,goodMsg x) (gm:goodMsg m):m77 xs m = some (putL xs m):=by
 unfold m77 putL
 have e:decide ((xs.length:Int) ≥ 240) = ((xs.length:Int) == 240):=by
  rw [Bool.eq_iff_iff]; simp; omega
 rw [at_spec xs m (by omega) g,cpLed_ok xs (by omega) g,cpMsg_ok m gm,e]
 simp only [obs]
 rw [appN (show xs.length + [m].length≤2097152 by simp; omega) (by decide)]
 cases decide (atM xs m ≥ 0) <;> cases ((xs.length:Int) == 240) <;> rfl
theorem put_impl (xs:List TMsg) (m:TMsg) (h:xs.length≤240) (g:∀ x∈xs,goodMsg x) (gm:goodMsg m):m134 xs m = some (bif refsBad xs.length m then ([],4) else putL xs m):=by
 unfold m134 putL
 rw [refs_impl m xs.length gm,at_impl xs m (by omega) g,ownMsg_ok m gm,show m185 xs = some xs from app0 (by omega) (by decide)]
 simp only [obs]
 rw [appN (show xs.length + [m].length≤2097152 by simp; omega) (by decide)]
 cases refsBad xs.length m <;> cases decide (atM xs m ≥ 0) <;> cases ((xs.length:Int) == 240) <;> rfl
theorem put_good {xs:List TMsg} {m:TMsg} (h:xs.length≤240) (g:∀ x∈xs,goodMsg x) (gm:goodMsg m):(putL xs m).1.length≤241∧∀ x∈(putL xs m).1,goodMsg x:=by
 unfold putL
 cases decide (atM xs m ≥ 0)
 ·cases ((xs.length:Int) == 240)
  ·exact ⟨by show (xs++[m]).length≤241; simp; omega,fun x hx=>by
    rcases List.mem_append.1 (show x∈xs++[m] from hx) with h | h
    ·exact g x h
    ·rw [List.mem_singleton.1 h]; exact gm⟩
  ·exact ⟨Nat.zero_le _,fun x hx=>by cases hx⟩
 ·exact ⟨by show xs.length≤241; omega,g⟩
noncomputable def putC (c:TCluster) (m:TMsg):TCluster:=⟨c.F,c.Bad,c.Replicas,(putL c.Ledger m).1,c.Requests⟩
theorem putC_good {c:TCluster} {m:TMsg} (g:GoodClu c) (h:c.Ledger.length≤240) (gm:goodMsg m):GoodClu (putC c m):=
 have p:=put_good h g.msg gm
 ⟨g.bad,g.rep,Nat.le_trans p.1 (by omega),p.2,g.req,g.ops⟩
noncomputable def sendR (c:TCluster) (m:TMsg):TClusterResult:=bif (putL c.Ledger m).2 != 0 then ⟨(putL c.Ledger m).2,⟨0,[],[],[],[]⟩⟩ else ⟨0,putC c m⟩
theorem send_spec (c:TCluster) (m:TMsg) (g:GoodClu c) (h:c.Ledger.length≤240) (gm:goodMsg m):m36 c m = some (sendR c m):=by
 unfold m36 sendR putC
 rw [cpClu_ok c g,put_spec c.Ledger m h g.msg gm]
 simp only [obs]
 cases (putL c.Ledger m).2 != 0 <;> rfl
theorem put_clu (c:TCluster) (m:TMsg) (g:GoodClu c) (h:c.Ledger.length≤240) (gm:goodMsg m) (hr:refsBad c.Ledger.length m = false):m83 c m = some ((putL c.Ledger m).2,bif (putL c.Ledger m).2 != 0 then c else putC c m):=by
 unfold m83 putC
 rw [put_impl c.Ledger m h g.msg gm,hr]
 simp only [obs,cond_false,bne]
 cases ((putL c.Ledger m).2 == 0) <;> rfl
open Go Go.Rf
set_option linter.unusedVariables false
set_option linter.unusedSimpArgs false
theorem at12_ok (c:TCluster) (id:Int) (h:c.Replicas.length≤1048576):m72 c id = some (ixI (repI c id)):=gIF_ok (f:=fun r:TReplica=>some (r.Id == id)) (NN_l h) (big_l h) (fun _ _=>rfl)
theorem rep2_ok (c:TCluster) (id:Int) (h:c.Replicas.length≤1048576):(repI c id = none∧m132c c id = some none)∨∃ (i:Nat) (hi:i < c.Replicas.length),repI c id = some i∧m132c c id = some (some (i:Int)):=by
 unfold m132c
 rw [show m183 c.Replicas (fun x0_=>some (m184 x0_ id)) = some (ixI (repI c id)) from gIF_ok (NN_l h) (big_l h) (fun x _=>rfl),obs]
 cases e:repI c id with
 | none=>exact .inl ⟨rfl,rfl⟩
 | some i=>
  have hi:=(fst_some_iff.1 e).1
  refine .inr ⟨i,hi,rfl,?_⟩
  have h1:¬ (ixI (some i) < 0):=by simp [ixI]
  simp only [h1,decide_false,cond_false]
  rw [show ixI (some i) = (i:Int) from rfl,getN hi]; rfl
def takeB (id s v:Int) (m:TMsg):Bool:=(m.Kind == 3) && ((m.From == id) && ((m.Slot == s) && decide (m.View < v)))
def bestS (id s v:Int) (b:Int×Int) (m:TMsg):Int×Int:=bif takeB id s v m && decide (m.View > b.1) then (m.View,m.Value) else b
def bestL (xs:List TMsg) (id s v:Int):Int×Int:=xs.foldl (bestS id s v) (-1,0)
theorem best_inv {id s v:Int}:∀ (xs:List TMsg) (b:Int×Int),(∀ m∈xs,0≤m.View)→(b = (-1,0)∨0≤b.1)→(xs.foldl (bestS id s v) b = (-1,0)∨0≤(xs.foldl (bestS id s v) b).1)
 | [],b,_,hb=>hb
 | m::xs,b,h,hb=>by
  rw [List.foldl_cons]
  refine best_inv xs _ (fun y hy=>h y (by simp [hy])) ?_
  unfold bestS
  cases takeB id s v m && decide (m.View > b.1)
  ·exact hb
  ·exact .inr (h m (by simp))
theorem bestL_succ (xs:List TMsg) (id s v:Int) {i:Nat} (h:i < xs.length):bestL (xs.take (i + 1)) id s v = bestS id s v (bestL (xs.take i) id s v) xs[i]:=by
 unfold bestL
 rw [take_snoc' h,List.foldl_append]; rfl
def stI (s:Int) (b:Int×Int) (i:Nat):Bool×Int×Int×Int×Int:=bif decide (b.1 ≥ 0) then (true,(i:Int),s,b.1,b.2) else (false,(i:Int),0,0,0)
theorem in_spec (xs:List TMsg) (id v:Int) (s1:Int×List TCert) (h:xs.length≤1048576):loopO (ms75_0 xs id v s1) NN (0,(-1),0) = some (.exit 2 ((xs.length:Int),(bestL xs id s1.1 v).1,(bestL xs id s1.1 v).2)):=by
 rw [loop_all (f:=ms75_0 xs id v s1) (s0:=(0,(-1),0)) (fun i=>((i:Int),(bestL (xs.take i) id s1.1 v).1,(bestL (xs.take i) id s1.1 v).2)) xs.length (.exit 2 ((xs.length:Int),(bestL xs id s1.1 v).1,(bestL xs id s1.1 v).2)) (fun i hi=>?_) ?_ rfl (NN_l h) rfl]
 ·unfold ms75_0
  simp only [Int.lt_irrefl,decide_false,cond_false,List.take_length]
 ·have hc':(i:Int) < (xs.length:Int):=by omega
  unfold ms75_0
  simp only [hc',decide_true,cond_true,getN hi,obs,bestL_succ xs id s1.1 v hi,wi1 (show i≤1099511627776 by omega)]
  unfold bestS takeB
  cases xs[i].Kind == 3 <;> cases xs[i].From == id <;> cases xs[i].Slot == s1.1 <;> cases decide (xs[i].View < v) <;> cases decide (xs[i].View > (bestL (xs.take i) id s1.1 v).1) <;> rfl
theorem in_impl (xs:List TMsg) (id v:Int) (s1:Int×List TCert) (h:xs.length≤1048576) (hv:∀ m∈xs,0≤m.View):loopO (ms133_0 xs id v s1) NN (false,0,0,0,0) = some (.exit 2 (stI s1.1 (bestL xs id s1.1 v) xs.length)):=by
 rw [loop_all (f:=ms133_0 xs id v s1) (s0:=(false,0,0,0,0)) (fun i=>stI s1.1 (bestL (xs.take i) id s1.1 v) i) xs.length (.exit 2 (stI s1.1 (bestL xs id s1.1 v) xs.length)) (fun i hi=>?_) ?_ rfl (NN_l h) rfl]
 ·unfold ms133_0 stI
  rw [List.take_length]
  cases decide ((bestL xs id s1.1 v).1 ≥ 0) <;> simp only [cond_true,cond_false,Int.lt_irrefl,decide_false]
 ·have hc':(i:Int) < (xs.length:Int):=by omega
  have h0:=hv _ (List.getElem_mem hi)
  rw [bestL_succ xs id s1.1 v hi]
  rcases best_inv (id:=id) (s:=s1.1) (v:=v) (xs.take i) (-1,0) (fun m hm=>hv m (List.mem_of_mem_take hm)) (.inl rfl) with hb | hb
  ·have hb:bestL (xs.take i) id s1.1 v = (-1,0):=hb
   rw [hb]
   have e1:decide (xs[i].View > (-1:Int)) = true:=decide_eq_true (by omega)
   have e2:decide (xs[i].View ≥ 0) = true:=decide_eq_true h0
   unfold ms133_0 bestS takeB stI
   simp only [show decide ((-1:Int) ≥ 0) = false from rfl,cond_false,hc',decide_true,cond_true,getN hi,obs,wi1 (show i≤1099511627776 by omega),e1]
   cases xs[i].Kind == 3 <;> cases xs[i].From == id <;> cases xs[i].Slot == s1.1 <;> cases decide (xs[i].View < v) <;> simp [e2,contO]
  ·have hb:0≤(bestL (xs.take i) id s1.1 v).1:=hb
   generalize bestL (xs.take i) id s1.1 v = b at hb
   have e2:decide (b.1 ≥ 0) = true:=decide_eq_true hb
   have e3:decide (xs[i].View ≥ 0) = true:=decide_eq_true h0
   unfold ms133_0 bestS takeB stI
   simp only [e2,cond_true,hc',decide_true,getN hi,obs,wi1 (show i≤1099511627776 by omega),Bool.not_true,cond_false]
   cases xs[i].Kind == 3 <;> cases xs[i].From == id <;> cases xs[i].Slot == s1.1 <;> cases decide (xs[i].View < v) <;> cases decide (xs[i].View > b.1) <;> simp [e2,e3,contO]
def certsN (xs:List TMsg) (id v:Int):Nat→List TCert
 | 0=>[]
 | i + 1=>certsN xs id v i++(bif decide ((bestL xs id ((i:Int) + 1) v).1 ≥ 0) then [(⟨(i:Int) + 1,(bestL xs id ((i:Int) + 1) v).1,(bestL xs id ((i:Int) + 1) v).2⟩:TCert)] else [])
theorem certsN_len (xs:List TMsg) (id v:Int):∀ i,(certsN xs id v i).length≤i
 | 0=>Nat.le_refl _
 | i + 1=>by
  have:=certsN_len xs id v i
  unfold certsN
  cases decide ((bestL xs id ((i:Int) + 1) v).1 ≥ 0) <;> simp <;> omega
theorem appC {L:List TCert} {k:TCert} (h:L.length≤1000):appO 24 L [k] = some (L++[k]):=by
 unfold appO; rw [if_pos (by simp; omega)]
theorem certs_spec (xs:List TMsg) (id v:Int) (h:xs.length≤1048576):m75 xs id v = some (certsN xs id v 30):=by
 unfold m75
 rw [loop_all (f:=ms75_1 xs id v) (s0:=(1,[])) (fun i=>((i:Int) + 1,certsN xs id v i)) 30 (.exit 0 (31,certsN xs id v 30)) (fun i hi=>?_) ?_ rfl (NN_l (by omega)) rfl]
 ·rfl
 ·rfl
 ·have hc:(i:Int) + 1≤30:=by omega
  have hl:=certsN_len xs id v i
  unfold ms75_1
  simp only [hc,decide_true,cond_true,in_spec xs id v _ h,obs,contO,if_true,appC (show (certsN xs id v i).length≤1000 by omega),wi_next (show i≤1048576 by omega)]
  show _ = some (LO.norm (_,certsN xs id v i++_))
  cases decide ((bestL xs id ((i:Int) + 1) v).1 ≥ 0) <;> simp [contO]
theorem certs_impl (xs:List TMsg) (id v:Int) (h:xs.length≤1048576) (hv:∀ m∈xs,0≤m.View):m133 xs id v = some (certsN xs id v 30):=by
 unfold m133
 rw [loop_all (f:=ms133_1 xs id v) (s0:=(1,[])) (fun i=>((i:Int) + 1,certsN xs id v i)) 30 (.exit 0 (31,certsN xs id v 30)) (fun i hi=>?_) ?_ rfl (NN_l (by omega)) rfl]
 ·rfl
 ·rfl
 ·have hc:(i:Int) + 1≤30:=by omega
  have hl:=certsN_len xs id v i
  unfold ms133_1
  simp only [hc,decide_true,cond_true,in_impl xs id v _ h hv,obs,contO,if_true,wi_next (show i≤1048576 by omega)]
  show _ = some (LO.norm (_,certsN xs id v i++_))
  unfold stI
  cases decide ((bestL xs id ((i:Int) + 1) v).1 ≥ 0)
  ·simp [contO]
  ·simp only [cond_true,appC (show (certsN xs id v i).length≤1000 by omega),obs,contO]
noncomputable def chgM (c:TCluster) (r:TReplica) (v:Int):TMsgResult:=bif !inR v 0 20 then ⟨3,⟨0,0,0,0,0,[],[]⟩⟩ else bif decide (v≤r.View) then ⟨8,⟨0,0,0,0,0,[],[]⟩⟩ else ⟨0,⟨4,v,r.Id,0,0,certsN c.Ledger r.Id v 30,[]⟩⟩
theorem chg_spec {c:TCluster} (O:CluOk c) (r:TReplica) (hr:repCode c.F c.Ledger r = 0) (g:GoodClu c) (v:Int) (hc:codeL c.F c.Ledger = 0):m35 c.F c.Ledger r v = some (chgM c r v):=by
 unfold m35 m73 chgM
 rw [led_spec _ _ g.led g.msg,hc]
 simp only [obs,bne_self_eq_false,cond_false,rep_spec O.led,hr,certs_spec c.Ledger r.Id v g.led,in1]
 cases inR v 0 20 <;> cases decide (v≤r.View) <;> rfl
theorem chg_impl {c:TCluster} (O:CluOk c) (r:TReplica) (g:GoodClu c) (v:Int):m82 r c.Ledger v = some (chgM c r v):=by
 unfold m82 chgM
 rw [view_in,certs_impl c.Ledger r.Id v g.led fun m hm=>(O.led.msg m hm).view.1]
 cases inR v 0 20 <;> cases decide (v≤r.View) <;> rfl
theorem chg_good (c:TCluster) (r:TReplica) (v:Int):goodMsg (chgM c r v).Msg∧refsBad c.Ledger.length (chgM c r v).Msg = false:=by
 have:=certsN_len c.Ledger r.Id v 30
 unfold chgM
 cases inR v 0 20
 ·exact ⟨⟨Nat.zero_le _,Nat.zero_le _⟩,rfl⟩
 ·cases decide (v≤r.View)
  ·exact ⟨⟨Nat.le_trans this (by omega),Nat.zero_le _⟩,rfl⟩
  ·exact ⟨⟨Nat.zero_le _,Nat.zero_le _⟩,rfl⟩
theorem led0 (c:TCluster) (g:GoodClu c) (h:m21 c = some 0):codeL c.F c.Ledger = 0:=by
 unfold m21 at h
 rw [led_spec _ _ g.led g.msg] at h
 simp only [obs] at h
 by_cases hl:codeL c.F c.Ledger = 0
 ·exact hl
 ·have e:(codeL c.F c.Ledger != 0) = true:=by simpa using hl
  rw [e,cond_true] at h
  injection h
theorem chg_eq (c:TCluster) (id v:Int) (g:GoodClu c):∃ y,m11 c id v = some y∧m12 c id v = some y∧GoodClu y.Cluster:=by
 obtain ⟨y,h1,h2,h3⟩:=clu_eq2 c g
 unfold m11 m12 m37 m78 m33 m38
 rw [h1,h2]
 simp only [obs]
 by_cases hy:y = 0
 rotate_left
 ·have e:(y != 0) = true:=by simpa using hy
  simp only [e,cond_true,obs]
  exact ⟨_,rfl,rfl,zeroClu⟩
 have O:=h3 hy
 have H:=O.led
 have hl:=H.len
 have hc0:=led0 c g (by rw [h1,hy])
 have e:(y != 0) = false:=by simpa using hy
 simp only [e,cond_false,at12_ok c id g.rep,obs,ownClu_ok c g]
 unfold m79 m80
 rcases rep2_ok c id g.rep with ⟨r1,r2⟩ | ⟨k,hk,r1,r2⟩
 ·rw [r1,r2]; exact ⟨_,rfl,rfl,zeroClu⟩
 rw [r1,r2]
 have h1:¬ (ixI (some k) < 0):=by simp [ixI]
 have e0:((0:Int) != 0) = false:=rfl
 have hr:=O.reps _ (List.getElem_mem hk)
 simp only [h1,decide_false,cond_false,optO,e0,obs]
 rw [show ixI (some k) = (k:Int) from rfl,getN hk]
 unfold m81
 simp only [getN hk,obs,chg_spec O _ hr g v hc0,chg_impl O _ g v]
 obtain ⟨gm,hrf⟩:=chg_good c c.Replicas[k] v
 cases hc:(chgM c c.Replicas[k] v).Code != 0
 rotate_left
 ·simp only [cond_true,obs,hc]
  exact ⟨_,rfl,rfl,zeroClu⟩
 simp only [cond_false,obs,send_spec c _ g hl gm,put_clu c _ g hl gm hrf]
 unfold sendR
 have gp:=putC_good (m:=(chgM c c.Replicas[k] v).Msg) g hl gm
 cases hp:(putL c.Ledger (chgM c c.Replicas[k] v).Msg).2 != 0
 rotate_left
 ·have hp':((putL c.Ledger (chgM c c.Replicas[k] v).Msg).2 == 0) = false:=by
   rw [bne] at hp
   simpa using hp
  simp only [cond_true,obs,hp',cond_false,contO,hp]
  exact ⟨_,rfl,rfl,zeroClu⟩
 have er:(putC c (chgM c c.Replicas[k] v).Msg).Replicas = c.Replicas:=rfl
 have hg:getI c.Replicas (k:Int) = some c.Replicas[k]:=getN hk
 have g2:GoodClu (⟨(putC c (chgM c c.Replicas[k] v).Msg).F,(putC c (chgM c c.Replicas[k] v).Msg).Bad,(c.Replicas.set k { c.Replicas[k] with View:=v }).set k { { c.Replicas[k] with View:=v } with Start:=-1 },(putC c (chgM c c.Replicas[k] v).Msg).Ledger,(putC c (chgM c c.Replicas[k] v).Msg).Requests⟩:TCluster):=⟨gp.bad,by simp only [List.length_set]; exact g.rep,gp.led,gp.msg,gp.req,gp.ops⟩
 have hs:getI (c.Replicas.set k { c.Replicas[k] with View:=v }) (k:Int) = some { c.Replicas[k] with View:=v }:=getI_set (i:=(k:Int)) hg _
 simp only [cond_false,beq_self_eq_true,cond_true,er,hg,hs,letO_eq,obs,Int.toNat_natCast,contO,e0,ownClu_ok _ g2]
 exact ⟨_,rfl,rfl,g2⟩
theorem chg_law (c:TCluster) (id v:Int) (h:okClu c):m4 c id v = some true:=by
 unfold m4
 obtain ⟨y,h1,h2⟩:=szClu_ok c h
 rw [h1,obs]
 by_cases hy:y < 0
 ·simp only [hy,decide_true,cond_true]
 have g:=h2 (by omega)
 obtain ⟨w,e1,e2,e3⟩:=chg_eq c id v g
 obtain ⟨k,c',q1,_,q3,_⟩:=mkClu c 1 (gclu g) (by omega) (by decide)
 obtain ⟨k2,w',p1,p2,p3⟩:=mkCluR w (gclu e3)
 have hk:¬ k < 0:=by omega
 have hk2:¬ k2 < 0:=by omega
 simp only [hy,decide_false,cond_false,toClu_ok c g,e1,e2,eqCluR_ok w e3,eqClu_ok c g,q1,p1,p2,hk,hk2,obs,Bool.not_true,contO,bne_self_eq_false]
end Go.Proofs.YtifocmbeahpopaaGreatDoor
