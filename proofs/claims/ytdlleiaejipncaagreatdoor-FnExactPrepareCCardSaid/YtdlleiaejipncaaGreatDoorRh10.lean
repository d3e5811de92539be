/- Marks: what a marking loop leaves, a reading loop finds. -/
import Derived.Test.YtdlleiaejipncaaGreatDoorRh9
set_option linter.unusedVariables false
set_option linter.unusedSimpArgs false
namespace Go.Rf
open Go
abbrev mB:Int:=1152921504606846976
theorem wiK {n:Int} (h1:0≤n) (h2:n≤2305843009213693952):wi .i64 n = n:=Cx (by omega) (by omega)
theorem F7 {T τ:Type} (x:T) (f:T→Option τ):CG x f = f x:=rfl
theorem A8 {α:Type} {a:List α} {i:Int} {x:α} (h:Al a i = some x) (y:α):Al (a.set i.toNat y) i = some y:=by
 obtain ⟨h0,h1,h2⟩:=Cn h
 unfold Al
 rw [if_pos h0,List.getElem?_set_self h1]
def MK {α:Type} (H:α→Int→Int→Prop):List α→Int→Int→Prop
 | [],k,k'=>k' = k
 | x::xs,k,k'=>∃ j,H x k j∧MK H xs j k'
theorem MK.mono {α:Type} {H:α→Int→Int→Prop} (hH:∀ x k k',H x k k'→k≤k'):∀ {xs:List α} {k k':Int},MK H xs k k'→k≤k'
 | [],k,k',h=>by rw [show k' = k from h]; exact Int.le_refl _
 | x::xs,k,k',⟨j,h1,h2⟩=>by
  have:=hH _ _ _ h1
  have:=MK.mono hH h2
  omega
def MKL {α:Type} (H:α→Int→Int→Prop) (xs:List α) (k k':Int):Prop:=xs.length≤1048576∧MK H xs k k'
theorem MKL.mono {α:Type} {H:α→Int→Int→Prop} (hH:∀ x k k',H x k k'→k≤k') (xs:List α) (k k':Int) (h:MKL H xs k k'):k≤k':=MK.mono hH h.2
def Mks {α:Type} (f:α→Int→Option (Int×α)) (H:α→Int→Int→Prop) (good:α→Prop) (M:Int):Prop:=
 ∀ x k,good x→0≤k→k + M≤mB→∃ k' x',f x k = some (k',x')∧H x' k k'∧k≤k'∧k'≤k + M
def Hds {α:Type} (f:α→Int→Option Int) (H:α→Int→Int→Prop):Prop:=∀ x k k',H x k k'→0≤k→k'≤mB→f x k = some k'
section
variable {α:Type} {N:Nat} {F:Int×Int×List α→Option (LO (Int×Int×List α))} {H:α→Int→Int→Prop} {good:α→Prop} {M:Int}
theorem MW (hM:0≤M) (hF:∀ (k i:Int) (a:List α) (x:α),good x→Al a i = some x→i < a.length→0≤i→i≤1099511627776→0≤k→k + M≤mB→∃ k' x',F (k,i,a) = some (.norm (k',wi .i64 (i + 1),a.set i.toNat x'))∧H x' k k'∧k≤k'∧k'≤k + M)
  (hE:∀ (k i:Int) (a:List α),¬ i < a.length→F (k,i,a) = some (.exit 0 (k,i,a))):∀ (rest pre:List α) (k:Int) (N:Nat),(∀ x∈rest,good x)→rest.length < N→(pre++rest).length≤big→0≤k→k + rest.length * M≤mB →
  ∃ k' rest' i,Ar F N (k,(pre.length:Int),pre++rest) = some (.exit 0 (k',i,pre++rest'))∧MK H rest' k k'∧rest'.length = rest.length∧k≤k'∧k'≤k + rest.length * M
 | [],pre,k,N,_,hN,_,hk,_=>by
  obtain ⟨N,rfl⟩:∃ n,N = n + 1:=⟨N - 1,by simp at hN; omega⟩
  refine ⟨k,[],pre.length,?_,rfl,rfl,Int.le_refl _,by simp⟩
  simp only [Ar]
  rw [hE _ _ _ (by simp)]; rfl
 | x::rest,pre,k,N,hg,hN,hb,hk,hkM=>by
  obtain ⟨N,rfl⟩:∃ n,N = n + 1:=⟨N - 1,by simp at hN; omega⟩
  simp only [List.length_cons,List.length_append] at hN hb
  have e1:(((x::rest).length:Nat):Int) * M = rest.length * M + M:=by
   rw [List.length_cons,Int.natCast_succ,Int.add_mul,Int.one_mul]
  rw [e1] at hkM ⊢
  have e2:0≤(rest.length:Int) * M:=Int.mul_nonneg (by omega) hM
  have hgx:Al (pre++x::rest) (pre.length:Int) = some x:=by
   rw [AS (by simp)]; simp
  obtain ⟨k1,x',h1,h2,h3,h4⟩:=hF k pre.length (pre++x::rest) x (hg x (by simp)) hgx (by simp only [List.length_append,List.length_cons]; omega) (by omega) (by simp only [big] at hb; omega) hk (by omega)
  have e3:(pre++x::rest).set ((pre.length:Int)).toNat x' = (pre++[x'])++rest:=by simp
  have e4:wi .i64 ((pre.length:Int) + 1) = ((pre++[x']).length:Int):=by
   rw [wi1 (by simp only [big] at hb; omega)]; simp
  rw [e3,e4] at h1
  obtain ⟨k',rest',i,q1,q2,q3,q4,q5⟩:=MW hM hF hE rest (pre++[x']) k1 N (fun y hy=>hg y (by simp [hy])) (by omega) (by simp only [List.length_append,List.length_cons,List.length_nil]; omega) (by omega) (by omega)
  refine ⟨k',x'::rest',i,?_,⟨k1,h2,q2⟩,by simp [q3],by omega,by omega⟩
  simp only [Ar]
  rw [h1,Option.bind_some]
  show Ar F N _ = _
  rw [q1]; simp
theorem gMk (hM:0≤M) (hN:1048576 < N) (hF:∀ (k i:Int) (a:List α) (x:α),good x→Al a i = some x→i < a.length→0≤i→i≤1099511627776→0≤k→k + M≤mB→∃ k' x',F (k,i,a) = some (.norm (k',wi .i64 (i + 1),a.set i.toNat x'))∧H x' k k'∧k≤k'∧k'≤k + M)
  (hE:∀ (k i:Int) (a:List α),¬ i < a.length→F (k,i,a) = some (.exit 0 (k,i,a))):Mks (fun a0 a1=>(Ar F N (a1,0,a0)).bind (Ac (fun _=>none) (fun i1 s2=>if i1 = 0 then some (s2.1,s2.2.2) else none) (fun s2=>some (0,s2.2.2)))) (MKL H) (fun xs=>xs.length≤1048576∧∀ x∈xs,good x) (1048576 * M):=by
 rintro xs k ⟨g1,g2⟩ hk hkM
 have e1:(xs.length:Int) * M≤1048576 * M:=Int.mul_le_mul_of_nonneg_right (by omega) hM
 obtain ⟨k',xs',i,q1,q2,q3,q4,q5⟩:=MW hM hF hE xs [] k N g2 (by omega) (by simp only [List.nil_append,big]; omega) hk (by omega)
 refine ⟨k',xs',?_,⟨by omega,q2⟩,q4,by omega⟩
 show (Ar F N (k,0,xs)).bind _ = _
 have q1:Ar F N (k,0,xs) = some (.exit 0 (k',i,xs')):=q1
 rw [q1]; rfl
end
section
variable {α:Type} {N:Nat} {H:α→Int→Int→Prop}
theorem MX {xs0:List α} {F:Int×Int×Int→Option (LO (Int×Int×Int))} (hm:∀ x k k',H x k k'→k≤k') (hF:∀ (k r i:Int) (k':Int) (x:α),Al xs0 i = some x→i < xs0.length→0≤i→i≤1099511627776→0≤k→k'≤mB→H x k k'→∃ r',F (k,r,i) = some (.norm (k',r',wi .i64 (i + 1))))
  (hE:∀ (k r i:Int),¬ i < xs0.length→F (k,r,i) = some (.exit 0 (k,r,i))):∀ (rest pre:List α) (k r k':Int) (N:Nat),pre++rest = xs0→rest.length < N→xs0.length≤big→0≤k→k'≤mB→MK H rest k k'→∃ r' i,Ar F N (k,r,(pre.length:Int)) = some (.exit 0 (k',r',i))
 | [],pre,k,r,k',N,he,hN,_,_,_,h=>by
  obtain ⟨N,rfl⟩:∃ n,N = n + 1:=⟨N - 1,by simp at hN; omega⟩
  have h:k' = k:=h
  subst h
  refine ⟨r,pre.length,?_⟩
  simp only [Ar]
  rw [hE _ _ _ (by rw [← he]; simp)]; rfl
 | x::rest,pre,k,r,k',N,he,hN,hb,hk,hk',⟨j,h1,h2⟩=>by
  obtain ⟨N,rfl⟩:∃ n,N = n + 1:=⟨N - 1,by simp at hN; omega⟩
  have hj:j≤k':=MK.mono hm h2
  have hlen:pre.length < xs0.length:=by rw [← he]; simp
  have hgx:Al xs0 (pre.length:Int) = some x:=by
   rw [AS hlen]; simp [← he]
  obtain ⟨r',q1⟩:=hF k r pre.length j x hgx (by omega) (by omega) (by simp only [big] at hb; omega) hk (by omega) h1
  have e4:wi .i64 ((pre.length:Int) + 1) = ((pre++[x]).length:Int):=by
   rw [wi1 (by simp only [big] at hb; omega)]; simp
  rw [e4] at q1
  have hjk:=hm _ _ _ h1
  obtain ⟨r2,i,q2⟩:=MX hm hF hE rest (pre++[x]) j r' k' N (by simp [he]) (by simp at hN; omega) hb (by omega) hk' h2
  refine ⟨r2,i,?_⟩
  simp only [Ar]
  rw [q1,Option.bind_some]
  exact q2
theorem gHd {F:List α→Int×Int×Int→Option (LO (Int×Int×Int))} (hm:∀ x k k',H x k k'→k≤k') (hN:1048576 < N) (hF:∀ (xs:List α) (k r i:Int) (k':Int) (x:α),Al xs i = some x→i < xs.length→0≤i→i≤1099511627776→0≤k→k'≤mB→H x k k'→∃ r',F xs (k,r,i) = some (.norm (k',r',wi .i64 (i + 1))))
  (hE:∀ (xs:List α) (k r i:Int),¬ i < xs.length→F xs (k,r,i) = some (.exit 0 (k,r,i))):Hds (fun a0 a1=>(Ar (F a0) N (a1,0,0)).bind (Ac (fun _=>none) (fun i1 s2=>if i1 = 0 then some s2.1 else none) (fun s2=>some s2.2.1))) (MKL H):=by
 rintro xs k k' ⟨hl,h⟩ hk hk'
 obtain ⟨r',i,q⟩:=MX hm (hF xs) (hE xs) xs [] k 0 k' N rfl (by omega) (by simp only [big]; omega) hk hk' h
 have q:Ar (F xs) N (k,0,0) = some (.exit 0 (k',r',i)):=q
 show (Ar (F xs) N (k,0,0)).bind _ = _
 rw [q]; rfl
end
end Go.Rf
