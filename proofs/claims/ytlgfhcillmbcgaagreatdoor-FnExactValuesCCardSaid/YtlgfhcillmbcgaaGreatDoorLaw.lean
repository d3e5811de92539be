/- Marks on numbers; texts of marks. -/
import Derived.Test.YtlgfhcillmbcgaaGreatDoorClu
import Derived.Test.YtlgfhcillmbcgaaGreatDoorRh10
namespace Go.Proofs.YtlgfhcillmbcgaaGreatDoor
open Go Go.Rf
set_option linter.unusedVariables false
set_option linter.unusedSimpArgs false
theorem NN_20:1048576 < NN:=by rw [NN_eq]; omega
def hInt (x k k':Int):Prop:=x = k∧k' = k + 1
theorem hInt_m:∀ x k k',hInt x k k'→k≤k':=fun x k k' h=>by obtain ⟨_,rfl⟩:=h; omega
abbrev few {α:Type} (good:α→Prop) (xs:List α):Prop:=xs.length≤1048576∧∀ x∈xs,good x
theorem mkInt:Mks m62 (MKL hInt) (few fun _=>True) (1048576 * 1):=
 gMk (F:=ms62_0) (good:=fun _=>True) (by omega) NN_20 (fun k i a x _ hx hi h0 hb hk hB=>by
  have hB:k + 1≤1152921504606846976:=hB
  refine ⟨k + 1,k,?_,⟨rfl,rfl⟩,by omega,by omega⟩
  unfold ms62_0
  simp (disch:=omega) only [hi,decide_true,cond_true,hx,obs,letO_eq,wiK]) (fun k i a h=>by
  unfold ms62_0
  simp only [h,decide_false,cond_false])
theorem hdInt:Hds m66 (MKL hInt):=
 gHd (F:=ms66_0) hInt_m NN_20 (fun xs k r i k' x hx hi h0 hb hk hB h=>by
  obtain ⟨rfl,rfl⟩:=h
  have hB:x + 1≤1152921504606846976:=hB
  refine ⟨r,?_⟩
  unfold ms66_0
  simp (disch:=omega) only [hi,decide_true,cond_true,hx,obs,bne_self_eq_false,cond_false,wiK]) (fun xs k r i h=>by
  unfold ms66_0
  simp only [h,decide_false,cond_false])
open Go Go.Rf
set_option linter.unusedVariables false
set_option linter.unusedSimpArgs false
theorem mkText_loop:∀ (j:Nat) (k:Int) (s:Str) (N:Nat),k < 10 ^ j→j < N→s.length + j≤1000→∃ z s',loopO ms133_0 N (k,s) = some (.exit 0 (z,s'))∧s'.length≤s.length + j
 | 0,k,s,N,hk,hN,hs=>by
  obtain ⟨N,rfl⟩:∃ n,N = n + 1:=⟨N - 1,by omega⟩
  have h:¬ k > 0:=by simp at hk; omega
  refine ⟨k,s,?_,by omega⟩
  simp only [loopO]
  unfold ms133_0
  simp only [h,decide_false,cond_false,obs]
 | j + 1,k,s,N,hk,hN,hs=>by
  obtain ⟨N,rfl⟩:∃ n,N = n + 1:=⟨N - 1,by omega⟩
  by_cases h:k > 0
  ·have e1:Int.tdiv k 10 = k / 10:=Int.tdiv_eq_ediv_of_nonneg (by omega)
   have e2:(10:Int) ^ (j + 1) = 10 ^ j * 10:=Int.pow_succ ..
   have e3:wi .i64 (Int.tdiv k 10) < 10 ^ j:=by
    rw [e1]
    have:k / 10 < 10 ^ j:=by omega
    by_cases hb:k≤9223372036854775807
    ·rw [wi64 (by omega) (by omega)]; exact this
    ·refine Int.lt_of_le_of_lt ?_ this
     show IntKind.i64.wrap (k / 10)≤k / 10
     rw [IntKind.wrap_i64]; omega
   obtain ⟨z,s',q1,q2⟩:=mkText_loop j (wi .i64 (Int.tdiv k 10)) (([UInt8.ofNat (Int.toNat (wi .u8 (wi .i64 (48 + (Int.tmod k 10)))))]:Str)++s) N e3 (by omega) (by simp; omega)
   refine ⟨z,s',?_,by simp at q2; omega⟩
   simp only [loopO]
   rw [show ms133_0 (k,s) = some (LO.norm (wi .i64 (Int.tdiv k 10),([UInt8.ofNat (Int.toNat (wi .u8 (wi .i64 (48 + (Int.tmod k 10)))))]:Str)++s)) from by
    unfold ms133_0
    simp only [h,decide_true,cond_true]
    unfold catO
    rw [if_pos (by simp; omega)]; rfl]
   exact q1
  ·refine ⟨k,s,?_,by omega⟩
   simp only [loopO]
   unfold ms133_0
   simp only [h,decide_false,cond_false,obs]
theorem mkText (k:Int) (hk:k≤mB):∃ s,m133 k = some s:=by
 unfold m133
 by_cases h:k≤0
 ·simp only [h,decide_true,cond_true]; exact ⟨_,rfl⟩
 ·simp only [h,decide_false,cond_false]
  have hk:k≤1152921504606846976:=hk
  obtain ⟨z,s',q1,q2⟩:=mkText_loop 30 k [] NN (by simp; omega) (by rw [NN_eq]; omega) (by simp)
  rw [q1,obs]
  simp only [contO,if_true]
  unfold catO
  rw [if_pos (by simp at q2 ⊢; omega)]
  exact ⟨_,rfl⟩
open Go Go.Rf
set_option linter.unusedVariables false
set_option linter.unusedSimpArgs false
def hCert (x:TCert) (k k':Int):Prop:=x = ⟨k,k + 1,k + 1 + 1⟩∧k' = k + 1 + 1 + 1
theorem mkCerts:Mks m99 (MKL hCert) (few fun _=>True) (1048576 * 3):=
 gMk (F:=ms99_0) (good:=fun _=>True) (by omega) NN_20 (fun k i a x _ hx hi h0 hb hk hB=>by
  have hB:k + 3≤1152921504606846976:=hB
  refine ⟨k + 1 + 1 + 1,⟨k,k + 1,k + 1 + 1⟩,?_,⟨rfl,rfl⟩,by omega,by omega⟩
  unfold ms99_0
  simp (disch:=omega) only [hi,decide_true,cond_true,hx,obs,letO_eq,wiK,getI_set hx,getI_set (getI_set hx _),List.set_set]) (fun k i a h=>by
  unfold ms99_0
  simp only [h,decide_false,cond_false])
def hRep (x:TReplica) (k k':Int):Prop:=x = ⟨k,k + 1,k + 1 + 1,k + 1 + 1 + 1⟩∧k' = k + 1 + 1 + 1 + 1
theorem mkReps:Mks m63 (MKL hRep) (few fun _=>True) (1048576 * 4):=
 gMk (F:=ms63_0) (good:=fun _=>True) (by omega) NN_20 (fun k i a x _ hx hi h0 hb hk hB=>by
  have hB:k + 4≤1152921504606846976:=hB
  refine ⟨k + 1 + 1 + 1 + 1,⟨k,k + 1,k + 1 + 1,k + 1 + 1 + 1⟩,?_,⟨rfl,rfl⟩,by omega,by omega⟩
  unfold ms63_0
  simp (disch:=omega) only [hi,decide_true,cond_true,hx,obs,letO_eq,wiK,getI_set hx,getI_set (getI_set hx _),getI_set (getI_set (getI_set hx _) _),List.set_set]) (fun k i a h=>by
  unfold ms63_0
  simp only [h,decide_false,cond_false])
def hOp (x:TOp) (k k':Int):Prop:=∃ s,m133 (k + 1) = some s∧x = ⟨k,s,k + 1 + 1,k + 1 + 1 + 1,Int.tmod (k + 1 + 1 + 1 + 1) 3 == 0,Int.tmod (k + 1 + 1 + 1 + 1 + 1) 3 == 0⟩∧k' = k + 1 + 1 + 1 + 1 + 1 + 1
theorem mkOps:Mks m84 (MKL hOp) (few fun _=>True) (1048576 * 6):=
 gMk (F:=ms84_0) (good:=fun _=>True) (by omega) NN_20 (fun k i a x _ hx hi h0 hb hk hB=>by
  have hB:k + 6≤1152921504606846976:=hB
  obtain ⟨t,ht⟩:=mkText (k + 1) (show _≤(1152921504606846976:Int) by omega)
  refine ⟨k + 1 + 1 + 1 + 1 + 1 + 1,⟨k,t,k + 1 + 1,k + 1 + 1 + 1,Int.tmod (k + 1 + 1 + 1 + 1) 3 == 0,Int.tmod (k + 1 + 1 + 1 + 1 + 1) 3 == 0⟩,?_,⟨t,ht,rfl,rfl⟩,by omega,by omega⟩
  unfold ms84_0
  simp (disch:=omega) only [hi,decide_true,cond_true,hx,obs,letO_eq,wiK,ht,getI_set hx,getI_set (getI_set hx _),getI_set (getI_set (getI_set hx _) _),getI_set (getI_set (getI_set (getI_set hx _) _) _),getI_set (getI_set (getI_set (getI_set (getI_set hx _) _) _) _),List.set_set]) (fun k i a h=>by
  unfold ms84_0
  simp only [h,decide_false,cond_false])
def hMsg (x:TMsg) (k k':Int):Prop:=x.Kind = k∧x.View = k + 1∧x.From = k + 1 + 1∧x.Slot = k + 1 + 1 + 1∧x.Value = k + 1 + 1 + 1 + 1∧∃ j,MKL hCert x.Certs (k + 1 + 1 + 1 + 1 + 1) j∧MKL hInt x.Refs j k'
abbrev gMsg (m:TMsg):Prop:=m.Certs.length≤1048576∧m.Refs.length≤1048576
theorem mkMsgs:Mks m64 (MKL hMsg) (few gMsg) (1048576 * 4194309):=
 gMk (F:=ms64_0) (good:=gMsg) (by omega) NN_20 (fun k i a x hg hx hi h0 hb hk hB=>by
  have hB:k + 4194309≤1152921504606846976:=hB
  obtain ⟨j,cs,q1,q2,q3,q4⟩:=mkCerts x.Certs (k + 1 + 1 + 1 + 1 + 1) ⟨hg.1,fun _ _=>trivial⟩ (by omega) (show _≤(1152921504606846976:Int) by omega)
  obtain ⟨k',rs,p1,p2,p3,p4⟩:=mkInt x.Refs j ⟨hg.2,fun _ _=>trivial⟩ (by omega) (show _≤(1152921504606846976:Int) by omega)
  refine ⟨k',⟨k,k + 1,k + 1 + 1,k + 1 + 1 + 1,k + 1 + 1 + 1 + 1,cs,rs⟩,?_,⟨rfl,rfl,rfl,rfl,rfl,j,q2,p2⟩,by omega,by omega⟩
  unfold ms64_0
  simp (disch:=omega) only [hi,decide_true,cond_true,hx,obs,letO_eq,wiK,q1,p1,getI_set hx,getI_set (getI_set hx _),getI_set (getI_set (getI_set hx _) _),getI_set (getI_set (getI_set (getI_set hx _) _) _),getI_set (getI_set (getI_set (getI_set (getI_set hx _) _) _) _),getI_set (getI_set (getI_set (getI_set (getI_set (getI_set hx _) _) _) _) _),List.set_set]) (fun k i a h=>by
  unfold ms64_0
  simp only [h,decide_false,cond_false])
abbrev gReq (m:TRequest):Prop:=m.Ops.length≤1048576
def hReq (x:TRequest) (k k':Int):Prop:=x.Client = k∧x.Number = k + 1∧x.Time = k + 1 + 1∧MKL hOp x.Ops (k + 1 + 1 + 1) k'
theorem mkReqs:Mks m65 (MKL hReq) (few gReq) (1048576 * 6291459):=
 gMk (F:=ms65_0) (good:=gReq) (by omega) NN_20 (fun k i a x hg hx hi h0 hb hk hB=>by
  have hB:k + 6291459≤1152921504606846976:=hB
  obtain ⟨j,cs,q1,q2,q3,q4⟩:=mkOps x.Ops (k + 1 + 1 + 1) ⟨hg,fun _ _=>trivial⟩ (by omega) (show _≤(1152921504606846976:Int) by omega)
  refine ⟨j,⟨k,k + 1,k + 1 + 1,cs⟩,?_,⟨rfl,rfl,rfl,q2⟩,by omega,by omega⟩
  unfold ms65_0
  simp (disch:=omega) only [hi,decide_true,cond_true,hx,obs,letO_eq,wiK,q1,getI_set hx,getI_set (getI_set hx _),getI_set (getI_set (getI_set hx _) _),List.set_set]) (fun k i a h=>by
  unfold ms65_0
  simp only [h,decide_false,cond_false])
structure GClu (c:TCluster):Prop where
 bad:c.Bad.length≤1048576
 rep:c.Replicas.length≤1048576
 led:c.Ledger.length≤1048576
 msg:∀ m∈c.Ledger,gMsg m
 req:c.Requests.length≤1048576
 ops:∀ r∈c.Requests,gReq r
def hClu (c:TCluster) (k k':Int):Prop:=∃ j1 j2 j3,MKL hInt c.Bad k j1∧MKL hRep c.Replicas j1 j2∧MKL hMsg c.Ledger j2 j3∧MKL hReq c.Requests j3 k'
theorem mkClu:Mks m17 hClu GClu 1125899906842624:=fun c k g hk hB=>by
 have hB:k + 1125899906842624≤1152921504606846976:=hB
 obtain ⟨j1,y1,q1,p1,a1,b1⟩:=mkInt c.Bad k ⟨g.bad,fun _ _=>trivial⟩ hk (show _≤(1152921504606846976:Int) by omega)
 obtain ⟨j2,y2,q2,p2,a2,b2⟩:=mkReps c.Replicas j1 ⟨g.rep,fun _ _=>trivial⟩ (by omega) (show _≤(1152921504606846976:Int) by omega)
 obtain ⟨j3,y3,q3,p3,a3,b3⟩:=mkMsgs c.Ledger j2 ⟨g.led,g.msg⟩ (by omega) (show _≤(1152921504606846976:Int) by omega)
 obtain ⟨j4,y4,q4,p4,a4,b4⟩:=mkReqs c.Requests j3 ⟨g.req,g.ops⟩ (by omega) (show _≤(1152921504606846976:Int) by omega)
 refine ⟨j4,⟨c.F,y1,y2,y3,y4⟩,?_,⟨j1,j2,j3,p1,p2,p3,p4⟩,by omega,by omega⟩
 unfold m17
 simp only [q1,q2,q3,q4,obs,letO_eq]
open Go Go.Rf
set_option linter.unusedVariables false
set_option linter.unusedSimpArgs false
theorem eqL_self (xs:List Int) (h:xs.length≤1048576):m58 xs xs = some true:=by
 unfold m58
 simp only [bne_self_eq_false,cond_false]
 obtain ⟨o,h1,s,rfl⟩:=loop_idx (f:=ms58_0 xs xs) (fun i s=>s.2 = (i:Int)) xs.length (fun o=>∃ s,o = .exit 0 s)
  (fun i s hi hs=>by
   unfold ms58_0
   rw [hs]
   by_cases hc:i < xs.length
   ·have hc':(i:Int) < (xs.length:Int):=by omega
    simp only [hc',decide_true,cond_true,getN hc,obs,bne_self_eq_false,cond_false]
    exact .inl ⟨hc,_,rfl,wi1 (by omega)⟩
   ·have hc':¬ (i:Int) < (xs.length:Int):=by omega
    simp only [hc',decide_false,cond_false]
    exact .inr (.inl ⟨_,_,rfl,_,rfl⟩)) NN 0 (false,0) (Nat.zero_le _) (by rw [NN_eq]; omega) rfl
 rw [h1]; rfl
theorem eqIs_self (x:TIntsResult) (h:x.List.length≤1048576):m15 x x = some true:=by
 unfold m15
 simp only [bne_self_eq_false,cond_false,eqL_self _ h,obs,Bool.not_true]
theorem mkInts (x:TIntsResult) (h:x.List.length≤1048576):∃ k' x',m18 x 1 = some (k',x')∧m19 x' 1 = some k'∧0≤k':=by
 obtain ⟨k',y,h1,h2,h3,h4⟩:=mkInt x.List 1 ⟨h,fun _ _=>trivial⟩ (by omega) (by decide)
 refine ⟨k',{ x with List:=y },?_,?_,by omega⟩
 ·unfold m18
  rw [h1]; rfl
 ·unfold m19
  have h4:k'≤1 + 1048576 * 1:=h4
  rw [hdInt y 1 k' h2 (by omega) (show k'≤(1152921504606846976:Int) by omega)]
  have:¬ k' < 0:=by omega
  simp only [obs,this,decide_false,cond_false]
theorem at12_ok (c:TCluster) (id:Int) (h:c.Replicas.length≤1048576):m120 c id = some (ixI (repI c id)):=gIF_ok (f:=fun r:TReplica=>some (r.Id == id)) (NN_l h) (big_l h) (fun _ _=>rfl)
theorem gclu {c:TCluster} (g:GoodClu c):GClu c:=⟨g.bad,g.rep,g.led,g.msg,g.req,g.ops⟩
theorem rep_done {f:Int} {xs:List TMsg} {r:TReplica} (h:repCode f xs r = 0):(0≤r.Done∧r.Done≤30)∧(r.Done≤((logL f xs).length:Int)):=by
 unfold repCode at h
 cases h1:repBad f r
 rotate_left
 ·rw [h1] at h; cases h
 cases h2:startBad f xs r
 rotate_left
 ·rw [h1,h2] at h; cases h
 cases h3:decide (r.Done > ((logL f xs).length:Int))
 rotate_left
 ·rw [h1,h2,h3] at h; cases h
 unfold repBad at h1
 simp only [Bool.or_eq_false_iff,Bool.not_eq_false',inR_t] at h1
 rw [decide_eq_false_iff_not] at h3
 exact ⟨h1.2.2,by omega⟩
theorem vals_ok (c:TCluster) (H:LedOk c.F c.Ledger) (i:Nat) (hi:i < c.Replicas.length) (hr:repCode c.F c.Ledger c.Replicas[i] = 0):m68 c (i:Int) = some ((logL c.F c.Ledger).take c.Replicas[i].Done.toNat):=by
 obtain ⟨h1,h2⟩:=rep_done hr
 unfold m68
 rw [log_spec H,obs,getN hi,obs]
 have e:m121 c.Replicas[i].Done ((logL c.F c.Ledger).length:Int) = (c.Replicas[i].Done.toNat:Int):=by
  unfold m121
  by_cases h:c.Replicas[i].Done < ((logL c.F c.Ledger).length:Int)
  ·simp only [h,decide_true,cond_true]; omega
  ·simp only [h,decide_false,cond_false]; omega
 rw [e,sub_take (by omega)]
 rfl
theorem vals_impl (c:TCluster) (H:LedOk c.F c.Ledger) {r:TReplica} (hr:repCode c.F c.Ledger r = 0):m71 c r = some ((logL c.F c.Ledger).take r.Done.toNat):=by
 obtain ⟨h1,h2⟩:=rep_done hr
 unfold m71
 rw [log_impl H,obs,show r.Done = (r.Done.toNat:Int) by omega,sub_take (by omega)]
 rfl
theorem vals_eq (c:TCluster) (id:Int) (g:GoodClu c):∃ y,m20 c id = some y∧m21 c id = some y∧y.List.length≤1048576:=by
 obtain ⟨y,h1,h2,h3⟩:=clu_eq2 c g
 unfold m20 m21 m67 m69
 rw [h1,h2]
 simp only [obs]
 by_cases hy:y = 0
 rotate_left
 ·have e:(y != 0) = true:=by simpa using hy
  simp only [e,cond_true,obs]
  exact ⟨_,rfl,rfl,by simp⟩
 have O:=h3 hy
 have H:=O.led
 have e:(y != 0) = false:=by simpa using hy
 simp only [e,cond_false,at12_ok c id g.rep,obs]
 rcases replica_ok c id g.rep with ⟨r1,r2⟩ | ⟨k,hk,r1,r2⟩
 ·rw [r1,r2]; exact ⟨_,rfl,rfl,by simp⟩
 ·rw [r1,r2]
  have h1:¬ (ixI (some k) < 0):=by simp [ixI]
  have e0:((0:Int) != 0) = false:=rfl
  have hr:=O.reps _ (List.getElem_mem hk)
  have hlog:=log_len c.F c.Ledger
  have hap:appO 8 ([]:List Int) ((logL c.F c.Ledger).take c.Replicas[k].Done.toNat) = some ((logL c.F c.Ledger).take c.Replicas[k].Done.toNat):=by
   unfold appO
   rw [if_pos (by rw [List.length_take]; simp only [List.length_nil]; omega)]; rfl
  simp only [h1,decide_false,cond_false,obs,optO,e0]
  rw [show ixI (some k) = (k:Int) from rfl,vals_ok c H k hk hr,vals_impl c H hr]
  simp only [obs]
  rw [show m70 ((logL c.F c.Ledger).take c.Replicas[k].Done.toNat) = _ from hap,hap]
  exact ⟨_,rfl,rfl,by show (List.take _ _).length≤_; rw [List.length_take]; omega⟩
theorem vals_law (c:TCluster) (id:Int) (h:okClu c):m4 c id = some true:=by
 unfold m4
 obtain ⟨y,h1,h2⟩:=szClu_ok c h
 rw [h1,obs]
 by_cases hy:y < 0
 ·simp only [hy,decide_true,cond_true]
 have g:=h2 (by omega)
 obtain ⟨w,e1,e2,e3⟩:=vals_eq c id g
 obtain ⟨k,c',q1,_,q3,_⟩:=mkClu c 1 (gclu g) (by omega) (by decide)
 obtain ⟨k2,w',p1,p2,p3⟩:=mkInts w e3
 have hk:¬ k < 0:=by omega
 have hk2:¬ k2 < 0:=by omega
 simp only [hy,decide_false,cond_false,toClu_ok c g,e1,e2,eqIs_self w e3,eqClu_ok c g,q1,p1,p2,hk,hk2,obs,Bool.not_true,contO,bne_self_eq_false]
end Go.Proofs.YtlgfhcillmbcgaaGreatDoor
