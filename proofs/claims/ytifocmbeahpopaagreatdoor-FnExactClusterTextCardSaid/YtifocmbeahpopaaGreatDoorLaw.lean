/- Numbers as texts. -/
import Derived.Test.YtifocmbeahpopaaGreatDoorClu
import Derived.Test.YtifocmbeahpopaaGreatDoorRh11
namespace Go.Proofs.YtifocmbeahpopaaGreatDoor
open Go Go.Rf
set_option linter.unusedVariables false
set_option linter.unusedSimpArgs false
theorem wi8 {x:Int} (h1:0≤x) (h2:x < 256):wi .u8 x = x:=by
 show IntKind.u8.wrap x = x
 rw [IntKind.wrap_u8]; omega
theorem catS {a b:Str} (h:a.length + b.length≤4611686018427387904):catO a b = some (a++b):=by
 unfold catO; rw [if_pos h]
theorem dig_byte {k:Nat} (h:k < 10):UInt8.ofNat (Int.toNat (wi .u8 (wi .i64 (48 + (k:Int))))) = UInt8.ofNat (48 + k):=by
 rw [wi64 (by omega) (by omega),wi8 (by omega) (by omega)]
 congr 1
theorem decLen:∀ (j k:Nat),k < 10 ^ (j + 1)→(Lib.decDigits k).length≤j + 1
 | 0,k,h=>by rw [Lib.decDigits,dif_pos (by simpa using h)]; simp
 | j + 1,k,h=>by
  by_cases hk:k < 10
  ·rw [Lib.decDigits,dif_pos hk]; simp
  ·rw [Lib.decDigits,dif_neg hk,List.length_append]
   have e:(10:Nat) ^ (j + 1 + 1) = 10 ^ (j + 1) * 10:=Nat.pow_succ ..
   have:=decLen j (k / 10) (by omega)
   simp only [List.length_singleton]; omega
theorem dig_nat:∀ (j k n:Nat),k < 10 ^ (j + 1)→j < n→j≤17→m52 n (k:Int) = some (Lib.decDigits k)
 | j,k,n,hk,hn,hj=>by
  obtain ⟨n,rfl⟩:∃ q,n = q + 1:=⟨n - 1,by omega⟩
  show m52F (m52 n) (k:Int) = _
  unfold m52F
  have h0:¬ (k:Int) < 0:=by omega
  simp only [h0,decide_false,cond_false]
  have hb:k < 10 ^ 18:=Nat.lt_of_lt_of_le hk (Nat.pow_le_pow_right (by omega) (by omega))
  by_cases h1:k < 10
  ·have h1':(k:Int) < 10:=by omega
   simp only [h1',decide_true,cond_true]
   rw [dig_byte h1,Lib.decDigits,dif_pos h1]
  ·have h1':¬ (k:Int) < 10:=by omega
   simp only [h1',decide_false,cond_false]
   obtain ⟨j,rfl⟩:∃ q,j = q + 1:=⟨j - 1,by
    cases j with
    | zero=>simp at hk; omega
    | succ j=>omega⟩
   have e:(10:Nat) ^ (j + 1 + 1) = 10 ^ (j + 1) * 10:=Nat.pow_succ ..
   have e1:wi .i64 (Int.tdiv (k:Int) 10) = ((k / 10:Nat):Int):=by
    rw [Int.tdiv_eq_ediv_of_nonneg (by omega),wi64 (by omega) (by omega)]; omega
   have e2:Int.tmod (k:Int) 10 = ((k % 10:Nat):Int):=by
    rw [Int.tmod_eq_emod_of_nonneg (by omega)]; omega
   have hl:=decLen j (k / 10) (by omega)
   rw [e1,dig_nat j (k / 10) n (by omega) (by omega) (by omega),obs,e2,dig_byte (by omega),catS (by simp; omega),obs]
   conv=>rhs; rw [Lib.decDigits,dif_neg h1]
theorem digits (n:Int) (h1:-100000000000000000≤n) (h2:n≤100000000000000000):m52 64 n = some (Lib.itoa n)∧(Lib.itoa n).length≤20:=by
 by_cases h0:n < 0
 ·have e:wi .i64 (0 - n) = ((n.natAbs:Nat):Int):=by rw [wi64 (by omega) (by omega)]; omega
  have hl:=decLen 17 n.natAbs (by omega)
  have ei:Lib.itoa n = 45::Lib.decDigits n.natAbs:=by unfold Lib.itoa; rw [if_pos h0]
  refine ⟨?_,by rw [ei,List.length_cons]; omega⟩
  show m52F (m52 63) n = _
  unfold m52F
  simp only [h0,decide_true,cond_true]
  rw [e,dig_nat 17 n.natAbs 63 (by omega) (by omega) (by omega),obs,catS (by simp; omega),obs,ei]
  rfl
 ·obtain ⟨k,rfl⟩:∃ k:Nat,n = k:=⟨n.toNat,by omega⟩
  have hl:=decLen 17 k (by omega)
  have ei:Lib.itoa (k:Int) = Lib.decDigits k:=by unfold Lib.itoa; rw [if_neg h0]; simp
  rw [ei]
  exact ⟨dig_nat 17 k 64 (by omega) (by omega) (by omega),by omega⟩
theorem decimal (n:Int) (h1:-9223372036854775808≤n) (h2:n≤9223372036854775807):m66 n = some (Lib.itoa n):=by
 unfold m66 m121 fmtO
 rw [if_pos ⟨rfl,decide_eq_true ⟨h1,h2⟩⟩]; rfl
open Go Go.Rf
set_option linter.unusedVariables false
set_option linter.unusedSimpArgs false
theorem rep_done {f:Int} {xs:List TMsg} {r:TReplica} (h:repCode f xs r = 0):(0≤r.Done∧r.Done≤30)∧(r.Done≤((logL f xs).length:Int)):=by
 unfold repCode at h
 cases h1:repBad f r
 rotate_left
 ·rw [h1] at h; cases h
 cases h2:startBad f xs r
 rotate_left
 ·rw [h1,h2] at h; cases h
 cases h3:decide (r.Done > ((logL f xs).length:Int))
 rotate_left
 ·rw [h1,h2,h3] at h; cases h
 unfold repBad at h1
 simp only [Bool.or_eq_false_iff,Bool.not_eq_false',inR_t] at h1
 rw [decide_eq_false_iff_not] at h3
 exact ⟨h1.2.2,by omega⟩
theorem rep_view {f:Int} {xs:List TMsg} {r:TReplica} (h:repCode f xs r = 0):0≤r.View∧r.View≤20:=by
 unfold repCode at h
 cases h1:repBad f r
 rotate_left
 ·rw [h1] at h; cases h
 unfold repBad at h1
 simp only [Bool.or_eq_false_iff,Bool.not_eq_false',inR_t] at h1
 exact h1.2.1
theorem rep_id {f:Int} {xs:List TMsg} {r:TReplica} (h:repCode f xs r = 0):1≤r.Id∧r.Id≤manyI f:=by
 unfold repCode at h
 cases h1:repBad f r
 rotate_left
 ·rw [h1] at h; cases h
 unfold repBad at h1
 simp only [Bool.or_eq_false_iff,Bool.not_eq_false',inR_t] at h1
 exact h1.1
theorem log_val {f:Int} {xs:List TMsg}:∀ v∈logL f xs,0≤v∧v≤12:=by
 have h0:∀ s,0≤(valuesL f xs s).headD 0∧(valuesL f xs s).headD 0≤12:=fun s=>by
  cases e:valuesL f xs s with
  | nil=>exact ⟨Int.le_refl _,by decide⟩
  | cons a r=>
   have:a∈valuesL f xs s:=by rw [e]; simp
   unfold valuesL at this
   have:=(from0_mem _ _).1 (List.mem_filter.1 this).1
   simp only [List.headD_cons]
   omega
 have h1:∀ i,∀ v∈hdsL f xs i,0≤v∧v≤12:=fun i v hv=>by
  unfold hdsL at hv
  obtain ⟨s,_,rfl⟩:=List.mem_map.1 hv
  exact h0 s
 intro v hv
 unfold logL at hv
 cases e:fstN (noneAt f xs) 30 with
 | none=>rw [e] at hv; exact h1 _ v hv
 | some i=>rw [e] at hv; exact h1 _ v hv
noncomputable def repT (r:TReplica):Str:=[114,101,112,108,105,99,97,32]++Lib.itoa r.Id++[32]++Lib.itoa r.View++(bif m51 r then [32,105,110,32] else [32,111,117,116,32])++Lib.itoa r.Done++[10]
noncomputable def repsT (rs:List TReplica):Str:=(rs.map repT).flatten
noncomputable def logT (l:List Int):Str:=(l.map fun v=>[32]++Lib.itoa v).flatten
def smallR (r:TReplica):Prop:=(0≤r.Id∧r.Id≤100)∧(0≤r.View∧r.View≤100)∧(0≤r.Done∧r.Done≤100)
theorem itoaL {n:Int} (h:0≤n∧n≤100):(Lib.itoa n).length≤20:=(digits n (by omega) (by omega)).2
theorem repT_len {r:TReplica} (h:smallR r):(repT r).length≤100:=by
 have h1:=itoaL h.1
 have h2:=itoaL h.2.1
 have h3:=itoaL h.2.2
 unfold repT
 cases m51 r <;> simp <;> omega
theorem flat_len {α:Type} {g:α→Str}:∀ {l:List α},(∀ x∈l,(g x).length≤100)→((l.map g).flatten).length≤100 * l.length
 | [],_=>by simp
 | x::l,h=>by
  have h1:=h x (by simp)
  have h2:=flat_len (l:=l) fun y hy=>h y (by simp [hy])
  simp only [List.map_cons,List.flatten_cons,List.length_append,List.length_cons]
  omega
theorem flat_snoc {α:Type} {g:α→Str} {l:List α} {i:Nat} (h:i < l.length):((l.take (i + 1)).map g).flatten = ((l.take i).map g).flatten++g l[i]:=by
 rw [take_snoc' h,List.map_append,List.flatten_append]
 simp
theorem catN {a b:Str} (ha:a.length≤1000000000) (hb:b.length≤1000000):catO a b = some (a++b):=catS (by omega)
theorem repsT_len {rs:List TReplica} (h:∀ r∈rs,smallR r) (hl:rs.length≤1048576) (i:Nat):(repsT (rs.take i)).length≤104857600:=by
 have:=flat_len (g:=repT) (l:=rs.take i) fun r hr=>repT_len (h r (List.mem_of_mem_take hr))
 unfold repsT
 have:(rs.take i).length≤rs.length:=List.length_take_le' _ _
 omega
theorem logT_len {l:List Int} (h:∀ v∈l,0≤v∧v≤12) (hl:l.length≤30) (i:Nat):(logT (l.take i)).length≤3000:=by
 have:=flat_len (g:=fun v=>[32]++Lib.itoa v) (l:=l.take i) fun v hv=>by
  have:=itoaL (n:=v) (by have:=h v (List.mem_of_mem_take hv); omega)
  simp; omega
 unfold logT
 have:(l.take i).length≤l.length:=List.length_take_le' _ _
 omega
theorem spec_reps (c:TCluster) (h:∀ r∈c.Replicas,smallR r) (hl:c.Replicas.length≤1048576):loopO (ms22_0 c) NN (([]:Str),0) = some (.exit 0 (repsT c.Replicas,(c.Replicas.length:Int))):=by
 rw [loop_all (f:=ms22_0 c) (s0:=(([]:Str),0)) (fun i=>(repsT (c.Replicas.take i),(i:Int))) c.Replicas.length (.exit 0 (repsT c.Replicas,(c.Replicas.length:Int))) (fun i hi=>?_) ?_ rfl (NN_l hl) rfl]
 ·unfold ms22_0
  simp only [Int.lt_irrefl,decide_false,cond_false,List.take_length]
 ·have hc':(i:Int) < (c.Replicas.length:Int):=by omega
  have sm:=h _ (List.getElem_mem hi)
  obtain ⟨d1,l1⟩:=digits c.Replicas[i].Id (by have:=sm.1; omega) (by have:=sm.1; omega)
  obtain ⟨d2,l2⟩:=digits c.Replicas[i].View (by have:=sm.2.1; omega) (by have:=sm.2.1; omega)
  obtain ⟨d3,l3⟩:=digits c.Replicas[i].Done (by have:=sm.2.2; omega) (by have:=sm.2.2; omega)
  have hr:=repsT_len h hl i
  have e:repsT (c.Replicas.take (i + 1)) = repsT (c.Replicas.take i)++repT c.Replicas[i]:=flat_snoc hi
  unfold ms22_0
  simp only [hc',decide_true,cond_true,getN hi,obs,d1,d2,d3]
  rw [e]
  unfold repT
  cases m51 c.Replicas[i] <;>
  ·simp only [cond_true,cond_false,obs,contO]
   simp (disch:=(first | omega | (simp only [List.length_append,List.length_cons,List.length_nil] <;> omega))) only [catN,obs,contO,wi1 (show i≤1099511627776 by omega)]
   simp
theorem impl_reps (c:TCluster) (h:∀ r∈c.Replicas,smallR r) (hl:c.Replicas.length≤1048576):loopO (ms28_0 c) NN (([]:Str),0) = some (.exit 0 (repsT c.Replicas,(c.Replicas.length:Int))):=by
 rw [loop_all (f:=ms28_0 c) (s0:=(([]:Str),0)) (fun i=>(repsT (c.Replicas.take i),(i:Int))) c.Replicas.length (.exit 0 (repsT c.Replicas,(c.Replicas.length:Int))) (fun i hi=>?_) ?_ rfl (NN_l hl) rfl]
 ·unfold ms28_0
  simp only [Int.lt_irrefl,decide_false,cond_false,List.take_length]
 ·have hc':(i:Int) < (c.Replicas.length:Int):=by omega
  have sm:=h _ (List.getElem_mem hi)
  have l1:=itoaL sm.1
  have l2:=itoaL sm.2.1
  have l3:=itoaL sm.2.2
  have d1:=decimal c.Replicas[i].Id (by have:=sm.1; omega) (by have:=sm.1; omega)
  have d2:=decimal c.Replicas[i].View (by have:=sm.2.1; omega) (by have:=sm.2.1; omega)
  have d3:=decimal c.Replicas[i].Done (by have:=sm.2.2; omega) (by have:=sm.2.2; omega)
  have hr:=repsT_len h hl i
  have e:repsT (c.Replicas.take (i + 1)) = repsT (c.Replicas.take i)++repT c.Replicas[i]:=flat_snoc hi
  unfold ms28_0
  simp only [hc',decide_true,cond_true,getN hi,obs,d1,d2,d3,show m65 c.Replicas[i] = m51 c.Replicas[i] from rfl]
  rw [e]
  unfold repT
  cases m51 c.Replicas[i] <;>
  ·simp only [cond_true,cond_false,obs,contO]
   simp (disch:=(first | omega | (simp only [List.length_append,List.length_cons,List.length_nil] <;> omega))) only [catN,obs,contO,wi1 (show i≤1099511627776 by omega)]
   simp
theorem spec_log (l:List Int) (a:Str) (h:∀ v∈l,0≤v∧v≤12) (hl:l.length≤30) (ha:a.length≤200000000):loopO (ms22_1 l) NN (a,0) = some (.exit 2 (a++logT l,(l.length:Int))):=by
 rw [loop_all (f:=ms22_1 l) (s0:=(a,0)) (fun i=>(a++logT (l.take i),(i:Int))) l.length (.exit 2 (a++logT l,(l.length:Int))) (fun i hi=>?_) ?_ rfl (NN_l (by omega)) (by simp [logT])]
 ·unfold ms22_1
  simp only [Int.lt_irrefl,decide_false,cond_false,List.take_length]
 ·have hc':(i:Int) < (l.length:Int):=by omega
  have sm:=h _ (List.getElem_mem hi)
  obtain ⟨d1,l1⟩:=digits l[i] (by omega) (by omega)
  have hr:=logT_len h hl i
  have e:logT (l.take (i + 1)) = logT (l.take i)++([32]++Lib.itoa l[i]):=flat_snoc hi
  unfold ms22_1
  simp only [hc',decide_true,cond_true,getN hi,obs,d1]
  simp (disch:=(first | omega | (simp only [List.length_append,List.length_cons,List.length_nil] <;> omega))) only [catN,obs,contO,wi1 (show i≤1099511627776 by omega)]
  rw [e]
  simp
theorem nums_ok (l:List Int) (h:∀ v∈l,0≤v∧v≤12) (hl:l.length≤30):m68 l = some (l.map Lib.itoa):=by
 unfold m68
 rw [loop_all (f:=ms68_0 l) (s0:=(0,[])) (fun i=>((i:Int),(l.take i).map Lib.itoa)) l.length (.exit 0 ((l.length:Int),l.map Lib.itoa)) (fun i hi=>?_) ?_ rfl (NN_l (by omega)) rfl]
 ·rfl
 ·unfold ms68_0
  simp only [Int.lt_irrefl,decide_false,cond_false,List.take_length]
 ·have hc':(i:Int) < (l.length:Int):=by omega
  have sm:=h _ (List.getElem_mem hi)
  unfold ms68_0
  simp only [hc',decide_true,cond_true,getN hi,obs,decimal l[i] (by omega) (by omega),wi1 (show i≤1099511627776 by omega)]
  rw [show appO 16 ((l.take i).map Lib.itoa) [Lib.itoa l[i]] = some ((l.take i).map Lib.itoa++[Lib.itoa l[i]]) from by
   unfold appO; rw [if_pos (by simp; omega)]]
  rw [take_snoc' hi,List.map_append]
  rfl
theorem join_log (a:Str):∀ l:List Int,Lib.join (a::l.map Lib.itoa) [32] = a++logT l
 | []=>by simp [Lib.join,logT,List.intercalate]
 | v::l=>by
  have ih:=join_log (Lib.itoa v) l
  unfold Lib.join at ih ⊢
  simp only [List.intercalate,List.map_cons,List.intersperse_cons_cons,List.flatten_cons] at ih ⊢
  rw [ih]
  simp [logT]
theorem txt_eq (c:TCluster) (g:GoodClu c):∃ y,m6 c = some y∧m8 c = some y:=by
 obtain ⟨y,h1,h2,h3⟩:=clu_eq2 c g
 unfold m6 m8
 rw [h1,h2]
 simp only [obs]
 by_cases hy:y = 0
 rotate_left
 ·have e:(y != 0) = true:=by simpa using hy
  simp only [e,cond_true]
  exact ⟨_,rfl,rfl⟩
 have O:=h3 hy
 have H:=O.led
 have e:(y != 0) = false:=by simpa using hy
 have sm:∀ r∈c.Replicas,smallR r:=fun r hr=>by
  have k:=O.reps r hr
  have k1:=rep_id k
  have k2:=rep_view k
  have k3:=(rep_done k).1
  rw [many_val H.f12] at k1
  have:=H.f12
  exact ⟨by omega,by omega,by omega⟩
 have hl:=log_len c.F c.Ledger
 have hv:=log_val (f:=c.F) (xs:=c.Ledger)
 have hr:=repsT_len sm g.rep c.Replicas.length
 rw [List.take_length] at hr
 have hL:=logT_len hv hl (logL c.F c.Ledger).length
 rw [List.take_length] at hL
 have hj:m67 ([[108,111,103]]++(logL c.F c.Ledger).map Lib.itoa) [32] = some ([108,111,103]++logT (logL c.F c.Ledger)):=by
  unfold m67 joinO
  rw [List.singleton_append,join_log,if_pos ⟨by simp [joinMost]; omega,by simp [joinMost]; omega⟩]
 simp only [e,cond_false]
 unfold m22 m28
 rw [spec_reps c sm g.rep,impl_reps c sm g.rep]
 simp only [obs,contO,if_true,log_spec H,log_impl H,nums_ok _ hv hl]
 rw [catN (by omega) (by simp),show appO 16 [([108,111,103]:Str)] ((logL c.F c.Ledger).map Lib.itoa) = some ([[108,111,103]]++(logL c.F c.Ledger).map Lib.itoa) from by
  unfold appO; rw [if_pos (by simp; omega)]]
 simp only [obs,spec_log _ _ hv hl (show (repsT c.Replicas++[108,111,103]:Str).length≤200000000 by simp; omega),hj,if_true,contO]
 rw [catN (show (repsT c.Replicas++[108,111,103]++logT (logL c.F c.Ledger):Str).length≤1000000000 by simp; omega) (by simp),catN (show (repsT c.Replicas:Str).length≤1000000000 by omega) (show ([108,111,103]++logT (logL c.F c.Ledger):Str).length≤1000000 by simp; omega)]
 simp only [obs]
 rw [catN (show (repsT c.Replicas++([108,111,103]++logT (logL c.F c.Ledger)):Str).length≤1000000000 by simp; omega) (by simp)]
 simp only [obs]
 exact ⟨_,rfl,by simp⟩
theorem txt_law (c:TCluster) (h:okClu c):m3 c = some true:=by
 unfold m3
 obtain ⟨y,h1,h2⟩:=szClu_ok c h
 rw [h1,obs]
 by_cases hy:y < 0
 ·simp only [hy,decide_true,cond_true]
 have g:=h2 (by omega)
 obtain ⟨w,e1,e2⟩:=txt_eq c g
 have e3:m9 w w = true:=by simp [m9]
 simp only [hy,decide_false,cond_false,toClu_ok c g,e1,e2,e3,eqClu_ok c g,obs,Bool.not_true]
end Go.Proofs.YtifocmbeahpopaaGreatDoor
