/- Marks on numbers; texts of marks. -/
import Derived.Test.YtmjibndicekcaaaGreatDoorClu
import Derived.Test.YtmjibndicekcaaaGreatDoorRh10
namespace Go.Proofs.YtmjibndicekcaaaGreatDoor
open Go Go.Rf
set_option linter.unusedVariables false
set_option linter.unusedSimpArgs false
theorem NN_20:1048576 < NN:=by rw [NN_eq]; omega
def hInt (x k k':Int):Prop:=x = k∧k' = k + 1
theorem hInt_m:∀ x k k',hInt x k k'→k≤k':=fun x k k' h=>by obtain ⟨_,rfl⟩:=h; omega
abbrev few {α:Type} (good:α→Prop) (xs:List α):Prop:=xs.length≤1048576∧∀ x∈xs,good x
theorem mkInt:Mks m32 (MKL hInt) (few fun _=>True) (1048576 * 1):=
 gMk (F:=ms32_0) (good:=fun _=>True) (by omega) NN_20 (fun k i a x _ hx hi h0 hb hk hB=>by
  have hB:k + 1≤1152921504606846976:=hB
  refine ⟨k + 1,k,?_,⟨rfl,rfl⟩,by omega,by omega⟩
  unfold ms32_0
  simp (disch:=omega) only [hi,decide_true,cond_true,hx,obs,letO_eq,wiK]) (fun k i a h=>by
  unfold ms32_0
  simp only [h,decide_false,cond_false])
theorem hdInt:Hds m62 (MKL hInt):=
 gHd (F:=ms62_0) hInt_m NN_20 (fun xs k r i k' x hx hi h0 hb hk hB h=>by
  obtain ⟨rfl,rfl⟩:=h
  have hB:x + 1≤1152921504606846976:=hB
  refine ⟨r,?_⟩
  unfold ms62_0
  simp (disch:=omega) only [hi,decide_true,cond_true,hx,obs,bne_self_eq_false,cond_false,wiK]) (fun xs k r i h=>by
  unfold ms62_0
  simp only [h,decide_false,cond_false])
open Go Go.Rf
set_option linter.unusedVariables false
set_option linter.unusedSimpArgs false
theorem mkText_loop:∀ (j:Nat) (k:Int) (s:Str) (N:Nat),k < 10 ^ j→j < N→s.length + j≤1000→∃ z s',loopO ms92_0 N (k,s) = some (.exit 0 (z,s'))∧s'.length≤s.length + j
 | 0,k,s,N,hk,hN,hs=>by
  obtain ⟨N,rfl⟩:∃ n,N = n + 1:=⟨N - 1,by omega⟩
  have h:¬ k > 0:=by simp at hk; omega
  refine ⟨k,s,?_,by omega⟩
  simp only [loopO]
  unfold ms92_0
  simp only [h,decide_false,cond_false,obs]
 | j + 1,k,s,N,hk,hN,hs=>by
  obtain ⟨N,rfl⟩:∃ n,N = n + 1:=⟨N - 1,by omega⟩
  by_cases h:k > 0
  ·have e1:Int.tdiv k 10 = k / 10:=Int.tdiv_eq_ediv_of_nonneg (by omega)
   have e2:(10:Int) ^ (j + 1) = 10 ^ j * 10:=Int.pow_succ ..
   have e3:wi .i64 (Int.tdiv k 10) < 10 ^ j:=by
    rw [e1]
    have:k / 10 < 10 ^ j:=by omega
    by_cases hb:k≤9223372036854775807
    ·rw [wi64 (by omega) (by omega)]; exact this
    ·refine Int.lt_of_le_of_lt ?_ this
     show IntKind.i64.wrap (k / 10)≤k / 10
     rw [IntKind.wrap_i64]; omega
   obtain ⟨z,s',q1,q2⟩:=mkText_loop j (wi .i64 (Int.tdiv k 10)) (([UInt8.ofNat (Int.toNat (wi .u8 (wi .i64 (48 + (Int.tmod k 10)))))]:Str)++s) N e3 (by omega) (by simp; omega)
   refine ⟨z,s',?_,by simp at q2; omega⟩
   simp only [loopO]
   rw [show ms92_0 (k,s) = some (LO.norm (wi .i64 (Int.tdiv k 10),([UInt8.ofNat (Int.toNat (wi .u8 (wi .i64 (48 + (Int.tmod k 10)))))]:Str)++s)) from by
    unfold ms92_0
    simp only [h,decide_true,cond_true]
    unfold catO
    rw [if_pos (by simp; omega)]; rfl]
   exact q1
  ·refine ⟨k,s,?_,by omega⟩
   simp only [loopO]
   unfold ms92_0
   simp only [h,decide_false,cond_false,obs]
theorem mkText (k:Int) (hk:k≤mB):∃ s,m92 k = some s:=by
 unfold m92
 by_cases h:k≤0
 ·simp only [h,decide_true,cond_true]; exact ⟨_,rfl⟩
 ·simp only [h,decide_false,cond_false]
  have hk:k≤1152921504606846976:=hk
  obtain ⟨z,s',q1,q2⟩:=mkText_loop 30 k [] NN (by simp; omega) (by rw [NN_eq]; omega) (by simp)
  rw [q1,obs]
  simp only [contO,if_true]
  unfold catO
  rw [if_pos (by simp at q2 ⊢; omega)]
  exact ⟨_,rfl⟩
open Go Go.Rf
set_option linter.unusedVariables false
set_option linter.unusedSimpArgs false
def hCert (x:TCert) (k k':Int):Prop:=x = ⟨k,k + 1,k + 1 + 1⟩∧k' = k + 1 + 1 + 1
theorem hCert_m:∀ x k k',hCert x k k'→k≤k':=fun x k k' h=>by obtain ⟨_,rfl⟩:=h; omega
theorem mkCerts:Mks m60 (MKL hCert) (few fun _=>True) (1048576 * 3):=
 gMk (F:=ms60_0) (good:=fun _=>True) (by omega) NN_20 (fun k i a x _ hx hi h0 hb hk hB=>by
  have hB:k + 3≤1152921504606846976:=hB
  refine ⟨k + 1 + 1 + 1,⟨k,k + 1,k + 1 + 1⟩,?_,⟨rfl,rfl⟩,by omega,by omega⟩
  unfold ms60_0
  simp (disch:=omega) only [hi,decide_true,cond_true,hx,obs,letO_eq,wiK,getI_set hx,getI_set (getI_set hx _),List.set_set]) (fun k i a h=>by
  unfold ms60_0
  simp only [h,decide_false,cond_false])
theorem hdCerts:Hds m93 (MKL hCert):=
 gHd (F:=ms93_0) hCert_m NN_20 (fun xs k r i k' x hx hi h0 hb hk hB h=>by
  obtain ⟨rfl,rfl⟩:=h
  have hB:k + 1 + 1 + 1≤1152921504606846976:=hB
  refine ⟨r,?_⟩
  unfold ms93_0
  simp (disch:=omega) only [hi,decide_true,cond_true,hx,obs,bne_self_eq_false,cond_false,wiK]) (fun xs k r i h=>by
  unfold ms93_0
  simp only [h,decide_false,cond_false])
def hRep (x:TReplica) (k k':Int):Prop:=x = ⟨k,k + 1,k + 1 + 1,k + 1 + 1 + 1⟩∧k' = k + 1 + 1 + 1 + 1
theorem hRep_m:∀ x k k',hRep x k k'→k≤k':=fun x k k' h=>by obtain ⟨_,rfl⟩:=h; omega
theorem mkReps:Mks m33 (MKL hRep) (few fun _=>True) (1048576 * 4):=
 gMk (F:=ms33_0) (good:=fun _=>True) (by omega) NN_20 (fun k i a x _ hx hi h0 hb hk hB=>by
  have hB:k + 4≤1152921504606846976:=hB
  refine ⟨k + 1 + 1 + 1 + 1,⟨k,k + 1,k + 1 + 1,k + 1 + 1 + 1⟩,?_,⟨rfl,rfl⟩,by omega,by omega⟩
  unfold ms33_0
  simp (disch:=omega) only [hi,decide_true,cond_true,hx,obs,letO_eq,wiK,getI_set hx,getI_set (getI_set hx _),getI_set (getI_set (getI_set hx _) _),List.set_set]) (fun k i a h=>by
  unfold ms33_0
  simp only [h,decide_false,cond_false])
theorem hdReps:Hds m63 (MKL hRep):=
 gHd (F:=ms63_0) hRep_m NN_20 (fun xs k r i k' x hx hi h0 hb hk hB h=>by
  obtain ⟨rfl,rfl⟩:=h
  have hB:k + 1 + 1 + 1 + 1≤1152921504606846976:=hB
  refine ⟨r,?_⟩
  unfold ms63_0
  simp (disch:=omega) only [hi,decide_true,cond_true,hx,obs,bne_self_eq_false,cond_false,wiK]) (fun xs k r i h=>by
  unfold ms63_0
  simp only [h,decide_false,cond_false])
def hOp (x:TOp) (k k':Int):Prop:=∃ s,m92 (k + 1) = some s∧x = ⟨k,s,k + 1 + 1,k + 1 + 1 + 1,Int.tmod (k + 1 + 1 + 1 + 1) 3 == 0,Int.tmod (k + 1 + 1 + 1 + 1 + 1) 3 == 0⟩∧k' = k + 1 + 1 + 1 + 1 + 1 + 1
theorem hOp_m:∀ x k k',hOp x k k'→k≤k':=fun x k k' h=>by obtain ⟨_,_,_,rfl⟩:=h; omega
theorem mkOps:Mks m61 (MKL hOp) (few fun _=>True) (1048576 * 6):=
 gMk (F:=ms61_0) (good:=fun _=>True) (by omega) NN_20 (fun k i a x _ hx hi h0 hb hk hB=>by
  have hB:k + 6≤1152921504606846976:=hB
  obtain ⟨t,ht⟩:=mkText (k + 1) (show _≤(1152921504606846976:Int) by omega)
  refine ⟨k + 1 + 1 + 1 + 1 + 1 + 1,⟨k,t,k + 1 + 1,k + 1 + 1 + 1,Int.tmod (k + 1 + 1 + 1 + 1) 3 == 0,Int.tmod (k + 1 + 1 + 1 + 1 + 1) 3 == 0⟩,?_,⟨t,ht,rfl,rfl⟩,by omega,by omega⟩
  unfold ms61_0
  simp (disch:=omega) only [hi,decide_true,cond_true,hx,obs,letO_eq,wiK,ht,getI_set hx,getI_set (getI_set hx _),getI_set (getI_set (getI_set hx _) _),getI_set (getI_set (getI_set (getI_set hx _) _) _),getI_set (getI_set (getI_set (getI_set (getI_set hx _) _) _) _),List.set_set]) (fun k i a h=>by
  unfold ms61_0
  simp only [h,decide_false,cond_false])
theorem hdOps:Hds m94 (MKL hOp):=
 gHd (F:=ms94_0) hOp_m NN_20 (fun xs k r i k' x hx hi h0 hb hk hB h=>by
  obtain ⟨s,ht,rfl,rfl⟩:=h
  have hB:k + 1 + 1 + 1 + 1 + 1 + 1≤1152921504606846976:=hB
  refine ⟨r,?_⟩
  unfold ms94_0
  simp (disch:=omega) only [hi,decide_true,cond_true,hx,obs,bne_self_eq_false,cond_false,wiK,ht,beq_self_eq_true,Bool.not_true]) (fun xs k r i h=>by
  unfold ms94_0
  simp only [h,decide_false,cond_false])
def hMsg (x:TMsg) (k k':Int):Prop:=x.Kind = k∧x.View = k + 1∧x.From = k + 1 + 1∧x.Slot = k + 1 + 1 + 1∧x.Value = k + 1 + 1 + 1 + 1∧∃ j,MKL hCert x.Certs (k + 1 + 1 + 1 + 1 + 1) j∧MKL hInt x.Refs j k'
theorem hMsg_m:∀ x k k',hMsg x k k'→k≤k':=fun x k k' h=>by
 obtain ⟨_,_,_,_,_,j,h1,h2⟩:=h
 have:=MKL.mono hCert_m _ _ _ h1
 have:=MKL.mono hInt_m _ _ _ h2
 omega
abbrev gMsg (m:TMsg):Prop:=m.Certs.length≤1048576∧m.Refs.length≤1048576
theorem mkMsgs:Mks m34 (MKL hMsg) (few gMsg) (1048576 * 4194309):=
 gMk (F:=ms34_0) (good:=gMsg) (by omega) NN_20 (fun k i a x hg hx hi h0 hb hk hB=>by
  have hB:k + 4194309≤1152921504606846976:=hB
  obtain ⟨j,cs,q1,q2,q3,q4⟩:=mkCerts x.Certs (k + 1 + 1 + 1 + 1 + 1) ⟨hg.1,fun _ _=>trivial⟩ (by omega) (show _≤(1152921504606846976:Int) by omega)
  obtain ⟨k',rs,p1,p2,p3,p4⟩:=mkInt x.Refs j ⟨hg.2,fun _ _=>trivial⟩ (by omega) (show _≤(1152921504606846976:Int) by omega)
  refine ⟨k',⟨k,k + 1,k + 1 + 1,k + 1 + 1 + 1,k + 1 + 1 + 1 + 1,cs,rs⟩,?_,⟨rfl,rfl,rfl,rfl,rfl,j,q2,p2⟩,by omega,by omega⟩
  unfold ms34_0
  simp (disch:=omega) only [hi,decide_true,cond_true,hx,obs,letO_eq,wiK,q1,p1,getI_set hx,getI_set (getI_set hx _),getI_set (getI_set (getI_set hx _) _),getI_set (getI_set (getI_set (getI_set hx _) _) _),getI_set (getI_set (getI_set (getI_set (getI_set hx _) _) _) _),getI_set (getI_set (getI_set (getI_set (getI_set (getI_set hx _) _) _) _) _),List.set_set]) (fun k i a h=>by
  unfold ms34_0
  simp only [h,decide_false,cond_false])
theorem hdMsgs:Hds m64 (MKL hMsg):=
 gHd (F:=ms64_0) hMsg_m NN_20 (fun xs k r i k' x hx hi h0 hb hk hB h=>by
  have hB:k'≤1152921504606846976:=hB
  obtain ⟨g1,g2,g3,g4,g5,j,q1,q2⟩:=h
  have m1:=MKL.mono hCert_m _ _ _ q1
  have m2:=MKL.mono hInt_m _ _ _ q2
  have e1:=hdCerts _ _ _ q1 (by omega) (show _≤(1152921504606846976:Int) by omega)
  have e2:=hdInt _ _ _ q2 (by omega) (show _≤(1152921504606846976:Int) by omega)
  have n1:¬ j < 0:=by omega
  have n2:¬ k' < 0:=by omega
  refine ⟨r,?_⟩
  unfold ms64_0
  simp (disch:=omega) only [hi,decide_true,cond_true,hx,obs,g1,g2,g3,g4,g5,bne_self_eq_false,cond_false,wiK,e1,e2,n1,n2,decide_false]) (fun xs k r i h=>by
  unfold ms64_0
  simp only [h,decide_false,cond_false])
def hReq (x:TRequest) (k k':Int):Prop:=x.Client = k∧x.Number = k + 1∧x.Time = k + 1 + 1∧MKL hOp x.Ops (k + 1 + 1 + 1) k'
theorem hReq_m:∀ x k k',hReq x k k'→k≤k':=fun x k k' h=>by
 obtain ⟨_,_,_,h1⟩:=h
 have:=MKL.mono hOp_m _ _ _ h1
 omega
abbrev gReq (m:TRequest):Prop:=m.Ops.length≤1048576
theorem mkReqs:Mks m35 (MKL hReq) (few gReq) (1048576 * 6291459):=
 gMk (F:=ms35_0) (good:=gReq) (by omega) NN_20 (fun k i a x hg hx hi h0 hb hk hB=>by
  have hB:k + 6291459≤1152921504606846976:=hB
  obtain ⟨j,cs,q1,q2,q3,q4⟩:=mkOps x.Ops (k + 1 + 1 + 1) ⟨hg,fun _ _=>trivial⟩ (by omega) (show _≤(1152921504606846976:Int) by omega)
  refine ⟨j,⟨k,k + 1,k + 1 + 1,cs⟩,?_,⟨rfl,rfl,rfl,q2⟩,by omega,by omega⟩
  unfold ms35_0
  simp (disch:=omega) only [hi,decide_true,cond_true,hx,obs,letO_eq,wiK,q1,getI_set hx,getI_set (getI_set hx _),getI_set (getI_set (getI_set hx _) _),List.set_set]) (fun k i a h=>by
  unfold ms35_0
  simp only [h,decide_false,cond_false])
theorem hdReqs:Hds m65 (MKL hReq):=
 gHd (F:=ms65_0) hReq_m NN_20 (fun xs k r i k' x hx hi h0 hb hk hB h=>by
  have hB:k'≤1152921504606846976:=hB
  obtain ⟨g1,g2,g3,q1⟩:=h
  have m1:=MKL.mono hOp_m _ _ _ q1
  have e1:=hdOps _ _ _ q1 (by omega) (show _≤(1152921504606846976:Int) by omega)
  have n1:¬ k' < 0:=by omega
  refine ⟨r,?_⟩
  unfold ms65_0
  simp (disch:=omega) only [hi,decide_true,cond_true,hx,obs,g1,g2,g3,bne_self_eq_false,cond_false,wiK,e1,n1,decide_false]) (fun xs k r i h=>by
  unfold ms65_0
  simp only [h,decide_false,cond_false])
structure GClu (c:TCluster):Prop where
 bad:c.Bad.length≤1048576
 rep:c.Replicas.length≤1048576
 led:c.Ledger.length≤1048576
 msg:∀ m∈c.Ledger,gMsg m
 req:c.Requests.length≤1048576
 ops:∀ r∈c.Requests,gReq r
def hClu (c:TCluster) (k k':Int):Prop:=∃ j1 j2 j3,MKL hInt c.Bad k j1∧MKL hRep c.Replicas j1 j2∧MKL hMsg c.Ledger j2 j3∧MKL hReq c.Requests j3 k'
theorem mkClu:Mks m10 hClu GClu 1125899906842624:=fun c k g hk hB=>by
 have hB:k + 1125899906842624≤1152921504606846976:=hB
 obtain ⟨j1,y1,q1,p1,a1,b1⟩:=mkInt c.Bad k ⟨g.bad,fun _ _=>trivial⟩ hk (show _≤(1152921504606846976:Int) by omega)
 obtain ⟨j2,y2,q2,p2,a2,b2⟩:=mkReps c.Replicas j1 ⟨g.rep,fun _ _=>trivial⟩ (by omega) (show _≤(1152921504606846976:Int) by omega)
 obtain ⟨j3,y3,q3,p3,a3,b3⟩:=mkMsgs c.Ledger j2 ⟨g.led,g.msg⟩ (by omega) (show _≤(1152921504606846976:Int) by omega)
 obtain ⟨j4,y4,q4,p4,a4,b4⟩:=mkReqs c.Requests j3 ⟨g.req,g.ops⟩ (by omega) (show _≤(1152921504606846976:Int) by omega)
 refine ⟨j4,⟨c.F,y1,y2,y3,y4⟩,?_,⟨j1,j2,j3,p1,p2,p3,p4⟩,by omega,by omega⟩
 unfold m10
 simp only [q1,q2,q3,q4,obs,letO_eq]
theorem hdClu:Hds m36 hClu:=fun c k k' ⟨j1,j2,j3,p1,p2,p3,p4⟩ hk hB=>by
 have hB:k'≤1152921504606846976:=hB
 have m1:=MKL.mono hInt_m _ _ _ p1
 have m2:=MKL.mono hRep_m _ _ _ p2
 have m3:=MKL.mono hMsg_m _ _ _ p3
 have m4:=MKL.mono hReq_m _ _ _ p4
 have n1:¬ j1 < 0:=by omega
 have n2:¬ j2 < 0:=by omega
 have n3:¬ j3 < 0:=by omega
 have n4:¬ k' < 0:=by omega
 unfold m36
 rw [hdInt _ _ _ p1 hk (show _≤(1152921504606846976:Int) by omega)]
 simp only [obs,n1,decide_false,cond_false]
 rw [hdReps _ _ _ p2 (by omega) (show _≤(1152921504606846976:Int) by omega)]
 simp only [obs,n2,decide_false,cond_false]
 rw [hdMsgs _ _ _ p3 (by omega) (show _≤(1152921504606846976:Int) by omega)]
 simp only [obs,n3,decide_false,cond_false]
 rw [hdReqs _ _ _ p4 (by omega) (show _≤(1152921504606846976:Int) by omega)]
 simp only [obs,n4,decide_false,cond_false]
open Go Go.Rf
set_option linter.unusedVariables false
set_option linter.unusedSimpArgs false
theorem mkCluR (x:TClusterResult) (g:GClu x.Cluster):∃ k' x',m11 x 1 = some (k',x')∧m12 x' 1 = some k'∧0≤k':=by
 obtain ⟨k',y,h1,h2,h3,h4⟩:=mkClu x.Cluster 1 g (by omega) (by decide)
 refine ⟨k',{ x with Cluster:=y },?_,?_,by omega⟩
 ·unfold m11
  rw [h1]; rfl
 ·unfold m12
  rw [hdClu y 1 k' h2 (by omega) (show k'≤(1152921504606846976:Int) by omega)]
  have:¬ k' < 0:=by omega
  simp only [obs,this,decide_false,cond_false]
open Go Go.Rf
set_option linter.unusedVariables false
set_option linter.unusedSimpArgs false
theorem appN {α:Type} {b:Nat} {L ys:List α} (h:L.length + ys.length≤2097152) (hb:b≤1000):appO b L ys = some (L++ys):=by
 unfold appO
 rw [if_pos (Nat.le_trans (Nat.mul_le_mul h (show b + 1≤1001 by omega)) (by decide))]
theorem app0 {α:Type} {b:Nat} {ys:List α} (h:ys.length≤1048576) (hb:b≤1000):appO b [] ys = some ys:=by
 rw [appN (by simp only [List.length_nil]; omega) hb]; rfl
theorem cpLoop {α:Type} {f:Int×List α→Option (LO (Int×List α))} {xs:List α} {b:Nat} {e:Nat} (hl:xs.length≤1048576) (hb:b≤1000)
  (h1:∀ (i:Nat) (hi:i < xs.length) (s:List α),f ((i:Int),s) = (appO b s [xs[i]]).bind fun z=>some (.norm (wi .i64 ((i:Int) + 1),z))) (h0:∀ s,f ((xs.length:Int),s) = some (.exit e ((xs.length:Int),s))) :
  loopO f NN (0,[]) = some (.exit e ((xs.length:Int),xs)):=by
 rw [loop_all (f:=f) (s0:=(0,[])) (fun i=>((i:Int),xs.take i)) xs.length (.exit e ((xs.length:Int),xs.take xs.length)) (fun i hi=>?_) ?_ rfl (NN_l hl) rfl]
 ·rw [List.take_length]
 ·rw [h0]
 ·rw [h1 i hi,appN (by simp; omega) hb,obs,wi1 (show i≤1099511627776 by omega),List.take_succ_eq_append_getElem hi]
theorem ownReq_ok (r:TRequest) (h:goodReq r):m121 r = some r:=by
 unfold m121
 rw [show m157 r.Ops = some r.Ops from app0 h (by decide)]; rfl
theorem cpReq_ok (r:TRequest) (h:goodReq r):m77 r = some r:=by
 unfold m77
 rw [app0 h (by decide)]; rfl
theorem ownMsg_ok (m:TMsg) (h:goodMsg m):m129 m = some m:=by
 unfold m129
 rw [show m165 m.Certs = some m.Certs from app0 h.1 (by decide),obs,show m118 m.Refs = some m.Refs from app0 h.2 (by decide)]; rfl
theorem cpMsg_ok (m:TMsg) (h:goodMsg m):m78 m = some m:=by
 unfold m78
 rw [app0 h.1 (by decide),obs,app0 h.2 (by decide)]; rfl
theorem ownLed_ok (xs:List TMsg) (h:xs.length≤1048576) (g:∀ m∈xs,goodMsg m):m120 xs = some xs:=by
 unfold m120
 rw [cpLoop (b:=88) h (by decide) (fun i hi s=>by
  have hc':(i:Int) < (xs.length:Int):=by omega
  unfold ms120_0
  simp only [hc',decide_true,cond_true,getN hi,obs,ownMsg_ok _ (g _ (List.getElem_mem hi))]) (fun s=>by
  unfold ms120_0
  simp only [Int.lt_irrefl,decide_false,cond_false]
  rfl)]
 rfl
theorem cpLed_ok (xs:List TMsg) (h:xs.length≤1048576) (g:∀ m∈xs,goodMsg m):m76 xs = some xs:=by
 unfold m76
 rw [cpLoop (b:=88) h (by decide) (fun i hi s=>by
  have hc':(i:Int) < (xs.length:Int):=by omega
  unfold ms76_0
  simp only [hc',decide_true,cond_true,getN hi,obs,cpMsg_ok _ (g _ (List.getElem_mem hi))]) (fun s=>by
  unfold ms76_0
  simp only [Int.lt_irrefl,decide_false,cond_false]
  rfl)]
 rfl
theorem ownClu_ok (c:TCluster) (g:GoodClu c):m82 c = some c:=by
 unfold m82
 rw [show m118 c.Bad = some c.Bad from app0 g.bad (by decide),obs,show m119 c.Replicas = some c.Replicas from app0 g.rep (by decide),obs,ownLed_ok _ g.led g.msg,obs]
 rw [cpLoop (b:=48) g.req (by decide) (fun i hi s=>by
  have hc':(i:Int) < (c.Requests.length:Int):=by omega
  unfold ms82_0
  simp only [hc',decide_true,cond_true,getN hi,obs,ownReq_ok _ (g.ops _ (List.getElem_mem hi))]) (fun s=>by
  unfold ms82_0
  simp only [Int.lt_irrefl,decide_false,cond_false]
  rfl)]
 rfl
theorem cpClu_ok (c:TCluster) (g:GoodClu c):m45 c = some c:=by
 unfold m45
 rw [app0 g.bad (by decide),obs,app0 g.rep (by decide),obs,cpLed_ok _ g.led g.msg,obs]
 rw [cpLoop (b:=48) g.req (by decide) (fun i hi s=>by
  have hc':(i:Int) < (c.Requests.length:Int):=by omega
  unfold ms45_0
  simp only [hc',decide_true,cond_true,getN hi,obs,cpReq_ok _ (g.ops _ (List.getElem_mem hi))]) (fun s=>by
  unfold ms45_0
  simp only [Int.lt_irrefl,decide_false,cond_false]
  rfl)]
 rfl
theorem zeroClu:GoodClu (⟨0,[],[],[],[]⟩:TCluster):=⟨by simp,by simp,by simp,by simp,by simp,by simp⟩
theorem gclu {c:TCluster} (g:GoodClu c):GClu c:=⟨g.bad,g.rep,g.led,g.msg,g.req,g.ops⟩
theorem eqCluR_ok (x:TClusterResult) (g:GoodClu x.Cluster):m8 x x = some true:=by
 unfold m8
 simp only [bne_self_eq_false,cond_false,eqClu_ok _ g,obs,Bool.not_true]
open Go Go.Rf
set_option linter.unusedVariables false
set_option linter.unusedSimpArgs false
noncomputable def putL (xs:List TMsg) (m:TMsg):List TMsg×Int:=bif decide (atM xs m ≥ 0) then (xs,0) else bif (xs.length:Int) == 240 then ([],2) else (xs++[m],0)
theorem put_spec (xs:List TMsg) (m:TMsg) (h:xs.length≤240) (g:∀ x∈xs,goodMsg x) (gm:goodMsg m):m46 xs m = some (putL xs m):=by
 unfold m46 putL
 have e:decide ((xs.length:Int) ≥ 240) = ((xs.length:Int) == 240):=by
  rw [Bool.eq_iff_iff]; simp; omega
 rw [at_spec xs m (by omega) g,cpLed_ok xs (by omega) g,cpMsg_ok m gm,e]
 simp only [obs]
 rw [appN (show xs.length + [m].length≤2097152 by simp; omega) (by decide)]
 cases decide (atM xs m ≥ 0) <;> cases ((xs.length:Int) == 240) <;> rfl
theorem put_impl (xs:List TMsg) (m:TMsg) (h:xs.length≤240) (g:∀ x∈xs,goodMsg x) (gm:goodMsg m):m86 xs m = some (bif refsBad xs.length m then ([],4) else putL xs m):=by
 unfold m86 putL
 rw [refs_impl m xs.length gm,at_impl xs m (by omega) g,ownMsg_ok m gm,show m128 xs = some xs from app0 (by omega) (by decide)]
 simp only [obs]
 rw [appN (show xs.length + [m].length≤2097152 by simp; omega) (by decide)]
 cases refsBad xs.length m <;> cases decide (atM xs m ≥ 0) <;> cases ((xs.length:Int) == 240) <;> rfl
theorem put_good {xs:List TMsg} {m:TMsg} (h:xs.length≤240) (g:∀ x∈xs,goodMsg x) (gm:goodMsg m):(putL xs m).1.length≤241∧∀ x∈(putL xs m).1,goodMsg x:=by
 unfold putL
 cases decide (atM xs m ≥ 0)
 ·cases ((xs.length:Int) == 240)
  ·exact ⟨by show (xs++[m]).length≤241; simp; omega,fun x hx=>by
    rcases List.mem_append.1 (show x∈xs++[m] from hx) with h | h
    ·exact g x h
    ·rw [List.mem_singleton.1 h]; exact gm⟩
  ·exact ⟨Nat.zero_le _,fun x hx=>by cases hx⟩
 ·exact ⟨by show xs.length≤241; omega,g⟩
noncomputable def putC (c:TCluster) (m:TMsg):TCluster:=⟨c.F,c.Bad,c.Replicas,(putL c.Ledger m).1,c.Requests⟩
theorem putC_good {c:TCluster} {m:TMsg} (g:GoodClu c) (h:c.Ledger.length≤240) (gm:goodMsg m):GoodClu (putC c m):=
 have p:=put_good h g.msg gm
 ⟨g.bad,g.rep,Nat.le_trans p.1 (by omega),p.2,g.req,g.ops⟩
noncomputable def sendR (c:TCluster) (m:TMsg):TClusterResult:=bif (putL c.Ledger m).2 != 0 then ⟨(putL c.Ledger m).2,⟨0,[],[],[],[]⟩⟩ else ⟨0,putC c m⟩
theorem send_spec (c:TCluster) (m:TMsg) (g:GoodClu c) (h:c.Ledger.length≤240) (gm:goodMsg m):m20 c m = some (sendR c m):=by
 unfold m20 sendR putC
 rw [cpClu_ok c g,put_spec c.Ledger m h g.msg gm]
 simp only [obs]
 cases (putL c.Ledger m).2 != 0 <;> rfl
theorem put_clu (c:TCluster) (m:TMsg) (g:GoodClu c) (h:c.Ledger.length≤240) (gm:goodMsg m) (hr:refsBad c.Ledger.length m = false):m55 c m = some ((putL c.Ledger m).2,bif (putL c.Ledger m).2 != 0 then c else putC c m):=by
 unfold m55 putC
 rw [put_impl c.Ledger m h g.msg gm,hr]
 simp only [obs,cond_false,bne]
 cases ((putL c.Ledger m).2 == 0) <;> rfl
open Go Go.Rf
set_option linter.unusedVariables false
set_option linter.unusedSimpArgs false
theorem at12_ok (c:TCluster) (id:Int) (h:c.Replicas.length≤1048576):m40 c id = some (ixI (repI c id)):=gIF_ok (f:=fun r:TReplica=>some (r.Id == id)) (NN_l h) (big_l h) (fun _ _=>rfl)
theorem rep2_ok (c:TCluster) (id:Int) (h:c.Replicas.length≤1048576):(repI c id = none∧m83c c id = some none)∨∃ (i:Nat) (hi:i < c.Replicas.length),repI c id = some i∧m83c c id = some (some (i:Int)):=by
 unfold m83c
 rw [show m122 c.Replicas (fun x0_=>some (m123 x0_ id)) = some (ixI (repI c id)) from gIF_ok (NN_l h) (big_l h) (fun x _=>rfl),obs]
 cases e:repI c id with
 | none=>exact .inl ⟨rfl,rfl⟩
 | some i=>
  have hi:=(fst_some_iff.1 e).1
  refine .inr ⟨i,hi,rfl,?_⟩
  have h1:¬ (ixI (some i) < 0):=by simp [ixI]
  simp only [h1,decide_false,cond_false]
  rw [show ixI (some i) = (i:Int) from rfl,getN hi]; rfl
theorem led0 (c:TCluster) (g:GoodClu c) (h:m39 c = some 0):codeL c.F c.Ledger = 0:=by
 unfold m39 at h
 rw [led_spec _ _ g.led g.msg] at h
 simp only [obs] at h
 by_cases hl:codeL c.F c.Ledger = 0
 ·exact hl
 ·have e:(codeL c.F c.Ledger != 0) = true:=by simpa using hl
  rw [e,cond_true] at h
  injection h
def chNB (f:Int) (xs:List TMsg) (v:Int) (L:List Int) (i:Nat):Bool:=decide ((L.length:Int) < needI f) && ((viewAt xs i == v) && (!decide (fromAt xs i∈L.map (fromAt xs)) && changeB f xs i))
def chN (f:Int) (xs:List TMsg) (v:Int):Nat→List Int
 | 0=>[]
 | i + 1=>bif chNB f xs v (chN f xs v i) i then chN f xs v i++[(i:Int)] else chN f xs v i
theorem chN_len (f:Int) (xs:List TMsg) (v:Int):∀ i,(chN f xs v i).length≤i
 | 0=>Nat.le_refl _
 | i + 1=>by
  have:=chN_len f xs v i
  unfold chN
  cases chNB f xs v (chN f xs v i) i
  ·exact Nat.le_succ_of_le this
  ·simp; omega
theorem chN_mem (f:Int) (xs:List TMsg) (v:Int):∀ i,∀ r∈chN f xs v i,0≤r∧r < i
 | 0,r,h=>by cases h
 | i + 1,r,h=>by
  have ih:=chN_mem f xs v i
  unfold chN at h
  cases hc:chNB f xs v (chN f xs v i) i
  ·rw [hc] at h
   have:=ih r h
   omega
  ·rw [hc] at h
   rcases List.mem_append.1 (show r∈chN f xs v i++[(i:Int)] from h) with h | h
   ·have:=ih r h; omega
   ·rw [List.mem_singleton.1 h]; omega
theorem chN_stop {f:Int} {xs:List TMsg} {v:Int} {i:Nat} (h:needI f≤(chN f xs v i).length):∀ k,chN f xs v (i + k) = chN f xs v i
 | 0=>rfl
 | k + 1=>by
  have ih:=chN_stop h k
  show (bif chNB f xs v (chN f xs v (i + k)) (i + k) then _ else chN f xs v (i + k)) = _
  have hn:¬ ((chN f xs v i).length:Int) < needI f:=by omega
  rw [ih]
  unfold chNB
  rw [decide_eq_false hn]
  rfl
theorem ch_impl {f:Int} {xs:List TMsg} (H:LedOk f xs) (v:Int):m85 f xs v = some (chN f xs v xs.length):=by
 have hl:=H.len
 unfold m85
 rw [loop_all (f:=ms85_0 f xs v) (s0:=(0,[],[])) (fun i=>((i:Int),(chN f xs v i).map (fromAt xs),chN f xs v i)) xs.length (.exit 0 ((xs.length:Int),(chN f xs v xs.length).map (fromAt xs),chN f xs v xs.length)) (fun i hi=>?_) ?_ rfl (NN_l (by omega)) rfl]
 ·rfl
 ·unfold ms85_0
  simp only [Int.lt_irrefl,decide_false,cond_false]
 ·have hc':(i:Int) < (xs.length:Int):=by omega
  have e1:viewAt xs (i:Int) = xs[i].View:=by simp [viewAt,getN hi]
  have e2:fromAt xs (i:Int) = xs[i].From:=by simp [fromAt,getN hi]
  have hL:=chN_len f xs v i
  have hfl:((chN f xs v i).map (fromAt xs)).length≤1000:=by simp; omega
  have hL':(chN f xs v i).length≤1000:=by omega
  have es:chN f xs v (i + 1) = bif chNB f xs v (chN f xs v i) i then chN f xs v i++[(i:Int)] else chN f xs v i:=rfl
  have hco:m125 ((chN f xs v i).map (fromAt xs)) xs[i].From = some (decide (xs[i].From∈(chN f xs v i).map (fromAt xs))):=gCo_ok (NN_l (by omega)) (big_l (by omega))
  rw [es]
  unfold ms85_0
  simp only [hc',decide_true,cond_true,getN hi,obs,change_impl H,hco,wi1 (show i≤1099511627776 by omega)]
  rw [show decide (((chN f xs v i).length:Int) < wi .i64 ((wi .i64 (2 * f)) + 1)) = decide (((chN f xs v i).length:Int) < needI f) from rfl]
  unfold chNB
  rw [e1,e2]
  have a1:appO 8 (chN f xs v i) [(i:Int)] = some (chN f xs v i++[(i:Int)]):=appI hL'
  have a2:appO 8 ((chN f xs v i).map (fromAt xs)) [xs[i].From] = some ((chN f xs v i).map (fromAt xs)++[xs[i].From]):=appI hfl
  have e3:(chN f xs v i).map (fromAt xs)++[xs[i].From] = (chN f xs v i++[(i:Int)]).map (fromAt xs):=by rw [List.map_append,List.map_cons,e2]; rfl
  rw [e3] at a2
  cases decide (((chN f xs v i).length:Int) < needI f)
  ·rfl
  cases xs[i].View == v
  ·rfl
  cases decide (xs[i].From∈(chN f xs v i).map (fromAt xs))
  rotate_left
  ·rfl
  cases changeB f xs i
  ·rfl
  simp only [cond_true,Bool.not_false,obs,contO,a1,a2,Bool.and_self]
theorem ch_spec {f:Int} {xs:List TMsg} (H:LedOk f xs) (v:Int):m43 f xs v = some (chN f xs v xs.length):=by
 have hl:=H.len
 unfold m43
 obtain ⟨o,h1,j,rfl⟩:=loop_idx (f:=ms43_0 f xs v) (fun i t=>t = ((i:Int),chN f xs v i)) xs.length (fun o=>∃ j:Int,o = .exit 0 (j,chN f xs v xs.length)) (fun i t hi ht=>by
  subst ht
  have hL:=chN_len f xs v i
  unfold ms43_0
  dsimp only
  rw [show m44 f = needI f from rfl]
  by_cases hc:i < xs.length
  rotate_left
  ·have e:i = xs.length:=by omega
   subst e
   simp only [Int.lt_irrefl,decide_false,cond_false,obs,contO]
   exact .inr (.inl ⟨_,_,rfl,_,rfl⟩)
  have hc':(i:Int) < (xs.length:Int):=by omega
  by_cases hn:((chN f xs v i).length:Int) < needI f
  rotate_left
  ·have e:chN f xs v xs.length = chN f xs v i:=by
    obtain ⟨k,hk⟩:∃ k,xs.length = i + k:=⟨xs.length - i,by omega⟩
    rw [hk]; exact chN_stop (by omega) k
   simp only [hc',hn,decide_true,decide_false,cond_true,cond_false,obs,contO]
   exact .inr (.inl ⟨_,_,rfl,_,by rw [e]⟩)
  refine .inl ⟨hc,_,?_,rfl⟩
  have e1:viewAt xs (i:Int) = xs[i].View:=by simp [viewAt,getN hc]
  have e2:fromAt xs (i:Int) = xs[i].From:=by simp [fromAt,getN hc]
  have es:chN f xs v (i + 1) = bif chNB f xs v (chN f xs v i) i then chN f xs v i++[(i:Int)] else chN f xs v i:=rfl
  have hfr:=from_spec (xs:=xs) (rs:=chN f xs v i) (by omega) (fun r hr=>by
   obtain ⟨r1,r2⟩:=chN_mem f xs v i r hr
   obtain ⟨q,rfl⟩:∃ q:Nat,r = q:=⟨r.toNat,by omega⟩
   exact ⟨_,getN (show q < xs.length by omega)⟩) xs[i].From
  have a1:appO 8 (chN f xs v i) [(i:Int)] = some (chN f xs v i++[(i:Int)]):=appI (by omega)
  rw [es]
  simp only [hc',hn,decide_true,cond_true,obs,contO,getN hc,change_spec H,hfr,wi1 (show i≤1099511627776 by omega)]
  unfold chNB
  rw [e1,e2,decide_eq_true hn]
  cases xs[i].View == v
  ·rfl
  cases changeB f xs i
  ·simp only [cond_true,cond_false,obs,contO,Bool.and_false,Bool.true_and]
  cases decide (xs[i].From∈(chN f xs v i).map (fromAt xs))
  ·simp only [cond_true,cond_false,Bool.not_false,obs,contO,a1,Bool.and_self,Bool.true_and]
  ·simp only [cond_true,cond_false,Bool.not_true,obs,contO,Bool.and_false,Bool.false_and]) NN 0 (0,[]) (by omega) (NN_l (by omega)) rfl
 rw [h1]
 rfl
noncomputable def newR (c:TCluster) (r:TReplica):TMsgResult:=bif (r.View == 0) || ((r.Id != primI c.F r.View) || (r.Start != (-1))) then ⟨8,⟨0,0,0,0,0,[],[]⟩⟩ else bif decide (((chN c.F c.Ledger r.View c.Ledger.length).length:Int) < needI c.F) then ⟨10,⟨0,0,0,0,0,[],[]⟩⟩ else ⟨0,⟨5,r.View,r.Id,0,0,[],chN c.F c.Ledger r.View c.Ledger.length⟩⟩
theorem nw_spec {c:TCluster} (O:CluOk c) (r:TReplica) (hr:repCode c.F c.Ledger r = 0) (g:GoodClu c) (hc:codeL c.F c.Ledger = 0):m19 c.F c.Ledger r = some (newR c r):=by
 unfold m19 m41 newR
 rw [led_spec _ _ g.led g.msg,hc]
 simp only [obs,bne_self_eq_false,cond_false,rep_spec O.led,hr,prim_spec O.led.f12,tr_new,contO,ch_spec O.led]
 rw [show m44 c.F = needI c.F from rfl]
 cases ((r.View == 0) || ((r.Id != primI c.F r.View) || (r.Start != (-1))))
 ·cases decide (((chN c.F c.Ledger r.View c.Ledger.length).length:Int) < needI c.F) <;> rfl
 ·rfl
theorem nw_impl {c:TCluster} (O:CluOk c) (r:TReplica):m54 r c.F c.Ledger = some (newR c r):=by
 unfold m54 newR
 simp only [obs,prim_impl O.led.f12,tr_new,contO,ch_impl O.led]
 rw [show decide (((chN c.F c.Ledger r.View c.Ledger.length).length:Int) < wi .i64 ((wi .i64 (2 * c.F)) + 1)) = decide (((chN c.F c.Ledger r.View c.Ledger.length).length:Int) < needI c.F) from rfl]
 cases ((r.View == 0) || ((r.Id != primI c.F r.View) || (r.Start != (-1))))
 ·cases decide (((chN c.F c.Ledger r.View c.Ledger.length).length:Int) < needI c.F) <;> rfl
 ·rfl
theorem nw_good {c:TCluster} (O:CluOk c) (r:TReplica):goodMsg (newR c r).Msg∧refsBad c.Ledger.length (newR c r).Msg = false:=by
 have hl:=O.led.len
 have:=chN_len c.F c.Ledger r.View c.Ledger.length
 unfold newR
 cases ((r.View == 0) || ((r.Id != primI c.F r.View) || (r.Start != (-1))))
 ·cases decide (((chN c.F c.Ledger r.View c.Ledger.length).length:Int) < needI c.F)
  ·refine ⟨⟨Nat.zero_le _,by show (chN c.F c.Ledger r.View c.Ledger.length).length≤_; omega⟩,?_⟩
   show refsBad c.Ledger.length (⟨5,r.View,r.Id,0,0,[],chN c.F c.Ledger r.View c.Ledger.length⟩:TMsg) = false
   unfold refsBad
   rw [List.any_eq_false]
   intro q hq
   have:=chN_mem _ _ _ _ q hq
   simp; omega
  ·exact ⟨⟨Nat.zero_le _,Nat.zero_le _⟩,rfl⟩
 ·exact ⟨⟨Nat.zero_le _,Nat.zero_le _⟩,rfl⟩
theorem nwc_eq (c:TCluster) (id:Int) (g:GoodClu c):∃ y,m5 c id = some y∧m7 c id = some y∧GoodClu y.Cluster:=by
 obtain ⟨y,h1,h2,h3⟩:=clu_eq2 c g
 unfold m5 m7 m26 m51 m17
 rw [h1,h2]
 simp only [obs]
 by_cases hy:y = 0
 rotate_left
 ·have e:(y != 0) = true:=by simpa using hy
  simp only [e,cond_true,obs]
  exact ⟨_,rfl,rfl,zeroClu⟩
 have O:=h3 hy
 have H:=O.led
 have hl:=H.len
 have hc0:=led0 c g (by rw [h1,hy])
 have e:(y != 0) = false:=by simpa using hy
 simp only [e,cond_false,at12_ok c id g.rep,obs,ownClu_ok c g]
 unfold m52 m53
 rcases rep2_ok c id g.rep with ⟨r1,r2⟩ | ⟨k,hk,r1,r2⟩
 ·rw [r1,r2]; exact ⟨_,rfl,rfl,zeroClu⟩
 rw [r1,r2]
 have h1:¬ (ixI (some k) < 0):=by simp [ixI]
 have e0:((0:Int) != 0) = false:=rfl
 have hr:=O.reps _ (List.getElem_mem hk)
 simp only [h1,decide_false,cond_false,optO,e0,obs]
 rw [show ixI (some k) = (k:Int) from rfl,getN hk]
 unfold m27
 simp only [getN hk,obs,nw_spec O _ hr g hc0,nw_impl O _]
 obtain ⟨gm,hrf⟩:=nw_good O c.Replicas[k]
 cases hc:(newR c c.Replicas[k]).Code != 0
 rotate_left
 ·simp only [cond_true,obs,hc]
  exact ⟨_,rfl,rfl,zeroClu⟩
 simp only [cond_false,obs,send_spec c _ g hl gm,put_clu c _ g hl gm hrf]
 unfold sendR
 have gp:=putC_good (m:=(newR c c.Replicas[k]).Msg) g hl gm
 cases hp:(putL c.Ledger (newR c c.Replicas[k]).Msg).2 != 0
 rotate_left
 ·have hp':((putL c.Ledger (newR c c.Replicas[k]).Msg).2 == 0) = false:=by
   rw [bne] at hp
   simpa using hp
  simp only [cond_true,obs,hp',cond_false,contO,hp]
  exact ⟨_,rfl,rfl,zeroClu⟩
 have er:(putC c (newR c c.Replicas[k]).Msg).Replicas = c.Replicas:=rfl
 have hg:getI c.Replicas (k:Int) = some c.Replicas[k]:=getN hk
 have hat1:=at_spec (putC c (newR c c.Replicas[k]).Msg).Ledger (newR c c.Replicas[k]).Msg gp.led gp.msg
 have hat2:=at_impl (putC c (newR c c.Replicas[k]).Msg).Ledger (newR c c.Replicas[k]).Msg gp.led gp.msg
 have g2:GoodClu (⟨(putC c (newR c c.Replicas[k]).Msg).F,(putC c (newR c c.Replicas[k]).Msg).Bad,c.Replicas.set k { c.Replicas[k] with Start:=atM (putC c (newR c c.Replicas[k]).Msg).Ledger (newR c c.Replicas[k]).Msg },(putC c (newR c c.Replicas[k]).Msg).Ledger,(putC c (newR c c.Replicas[k]).Msg).Requests⟩:TCluster):=⟨gp.bad,by simp only [List.length_set]; exact g.rep,gp.led,gp.msg,gp.req,gp.ops⟩
 simp only [cond_false,beq_self_eq_true,cond_true,er,hg,letO_eq,obs,Int.toNat_natCast,contO,e0,hat1,hat2,ownClu_ok _ g2]
 exact ⟨_,rfl,rfl,g2⟩
theorem nwc_law (c:TCluster) (id:Int) (h:okClu c):m3 c id = some true:=by
 unfold m3
 obtain ⟨y,h1,h2⟩:=szClu_ok c h
 rw [h1,obs]
 by_cases hy:y < 0
 ·simp only [hy,decide_true,cond_true]
 have g:=h2 (by omega)
 obtain ⟨w,e1,e2,e3⟩:=nwc_eq c id g
 obtain ⟨k,c',q1,_,q3,_⟩:=mkClu c 1 (gclu g) (by omega) (by decide)
 obtain ⟨k2,w',p1,p2,p3⟩:=mkCluR w (gclu e3)
 have hk:¬ k < 0:=by omega
 have hk2:¬ k2 < 0:=by omega
 simp only [hy,decide_false,cond_false,toClu_ok c g,e1,e2,eqCluR_ok w e3,eqClu_ok c g,q1,p1,p2,hk,hk2,obs,Bool.not_true,contO,bne_self_eq_false]
end Go.Proofs.YtmjibndicekcaaaGreatDoor
