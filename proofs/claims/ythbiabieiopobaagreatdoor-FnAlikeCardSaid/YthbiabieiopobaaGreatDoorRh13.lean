/- Elements of weak slices are read. -/
import Derived.Test.YthbiabieiopobaaGreatDoorRh12
set_option linter.unusedVariables false
set_option linter.unusedSimpArgs false
namespace Go.Rf
open Go
def wEl (n:Nat) (v:AV) (k:Nat):AV:=match v with
 | .rsl l _ es=>.rp l (es.getD k [])
 | v=>elP n v k
def wFl (o c:Nat) (p:AV):AV:=(CL p o c).getD .non
theorem YH {brw l:Bool} {S:St} {k j:Nat} {a:AV} {kk:IntKind} {n:Int} (hk:0 < k) (hj:0 < j) (h:nrm l j (frz brw S k a) = .int kk n):a = .int kk n:=by
 obtain ⟨k,rfl⟩:∃ i,k = i + 1:=⟨k - 1,by omega⟩
 obtain ⟨j,rfl⟩:∃ i,j = i + 1:=⟨j - 1,by omega⟩
 cases a <;> simp only [frz] at h
 case bp=>
  split at h <;> try (simp [nrm] at h; done)
  split at h <;> try (simp [nrm] at h; done)
  split at h <;> try (simp [nrm] at h; done)
  split at h <;> simp [nrm] at h
 case bsl=>
  split at h <;> try (simp [nrm] at h; done)
  split at h <;> try (simp [nrm] at h; done)
  split at h <;> simp [nrm] at h
 all_goals simp [nrm] at h
 obtain ⟨rfl,rfl⟩:=h
 rfl
section
variable {α:Type} [e:Enc α]
theorem QD {S:St} {ids:List Nat} {cs:List AV} {x:α} {o:Nat} {n:Int} (h:wrk S ids cs x) (hr:(e.cs false x)[o]? = some (.int .i64 n)):cs[o]? = some (.int .i64 n):=by
 have h1:=h.2.2 S (fun _ _=>rfl) false (e.dp + 1) (e.dp + 1) false (Nat.lt_succ_self _) (Nat.lt_succ_self _)
 rw [← h1,List.getElem?_map,Option.map_eq_some_iff] at hr
 obtain ⟨b,hb,hb2⟩:=hr
 rw [List.getElem?_map,Option.map_eq_some_iff] at hb
 obtain ⟨a,ha,rfl⟩:=hb
 rw [ha,YH (Nat.succ_pos _) (Nat.succ_pos _) hb2]
theorem MO {S:St} {ids:List Nat} {v:AV} {xs:List α} (h:(wls ids v xs).ok S) {i:Int} {x:α} (hx:Av xs i = some x) {n:Nat} (hn:e.sz = n) :
  ∃ cs ic,wrk S ic cs x∧(∀ kk,B8 n v (.int kk i) S = some (wEl n v i.toNat))∧∀ o c,o + c≤n→CL (wEl n v i.toNat) o c = some (wFl o c (wEl n v i.toNat))∧BY S (wFl o c (wEl n v i.toNat)) = some ((cs.drop o).take c):=by
 obtain ⟨h0,h1,h2⟩:=DU hx
 rcases h with ⟨l,fl,rfl,rfl⟩ | ⟨b,fl,pl,es,is,rs,rfl,q2,q3,q4,_,_⟩
 ·have hg:(xs.map (e.cs l))[i.toNat]? = some (e.cs l x):=by rw [List.getElem?_map,h2]; rfl
  have hd:(xs.map (e.cs l)).getD i.toNat [] = e.cs l x:=by rw [List.getD_eq_getElem?_getD,hg]; rfl
  refine ⟨e.cs l x,[],GE_,fun kk=>?_,fun o c ho=>?_⟩
  ·simp only [B8,wEl]
   rw [if_pos h0,hg,hd]
   simp [e.len,hn]
  ·simp only [wEl,wFl,hd]
   exact ⟨rfl,rfl⟩
 ·obtain ⟨ec,ic,g1,g2,g3⟩:=q4.get i.toNat h2
  have qg:(es++rs)[i.toNat]? = some ec:=by
   rw [List.getElem?_append_left (List.getElem?_eq_some_iff.1 g1).1]; exact g1
  have hle:=q4.len.1
  refine ⟨ec,ic,g3,fun kk=>?_,fun o c ho=>?_⟩
  ·simp only [B8,wEl,elP]
   rw [if_pos ⟨h0,by omega⟩,q2]
   simp [hn]
  ·simp only [wEl,wFl,elP,CL,if_pos ho,Option.getD_some,BY,q2,List.length_append,hle,if_true,Nat.zero_add,qg]
   exact ⟨trivial,trivial⟩
section
variable {ρ τ:Type} {L:List En} {m:Option τ} {P:τ→ρ→Prop} {ids:List Nat} {v:AV} {xs:List α} {n:Nat}
theorem ZQ {kk:IntKind} {i:Int} {k:AV→St→Option ρ} {mk:α→Option τ} (j:Nat) (hL:L[j]? = some (wls ids v xs)) (hn:e.sz = n) (hk:∀ x,Av xs i = some x→Okh L (k (wEl n v i.toNat)) (mk x) P) :
  Okh L (fun S=>pk (B8 n v (.int kk i) S) S fun r=>k r S) ((Av xs i).bind mk) P:=fun S hS=>by
 intro y hy
 rw [Option.bind_eq_some_iff] at hy
 obtain ⟨x,hx,hm⟩:=hy
 obtain ⟨cs,ic,_,h2,_⟩:=MO (hS.get hL) hx hn
 show ∃ r,pk (B8 n v (.int kk i) S) S (fun r=>k r S) = some r∧_
 rw [h2 kk]
 exact hk x hx S hS y hm
theorem jN {i:Int} {x:α} {o c:Nat} {k:AV→St→Option ρ} (j:Nat) (hL:L[j]? = some (wls ids v xs)) (hn:e.sz = n) (hx:Av xs i = some x) (ho:o + c≤n) (hk:Okh L (k (wFl o c (wEl n v i.toNat))) m P):Okh L (fun S=>pk (CL (wEl n v i.toNat) o c) S fun r=>k r S) m P:=fun S hS=>by
 obtain ⟨cs,ic,_,_,h3⟩:=MO (hS.get hL) hx hn
 show Fit (pk (CL (wEl n v i.toNat) o c) S fun r=>k r S) m P
 rw [(h3 o c ho).1]
 exact hk S hS
theorem jL {i:Int} {x:α} {o:Nat} {z:Int} {k:AV→St→Option ρ} (j:Nat) (hL:L[j]? = some (wls ids v xs)) (hn:e.sz = n) (hx:Av xs i = some x) (ho:o + 1≤n) (hr:(e.cs false x)[o]? = some (.int .i64 z)) (hk:Okh L (k (.int .i64 z)) m P):Okh L (fun S=>pk (ld1 S (wFl o 1 (wEl n v i.toNat))) S fun r=>k r S) m P:=
 GU (x:=fun S=>ld1 S (wFl o 1 (wEl n v i.toNat))) (fun S hS=>by
  obtain ⟨cs,ic,h1,_,h3⟩:=MO (hS.get hL) hx hn
  have hc:=QD h1 hr
  obtain ⟨hl,he⟩:=List.getElem?_eq_some_iff.1 hc
  simp only [ld1,(h3 o 1 ho).2]
  rw [List.drop_eq_getElem_cons hl,he]
  rfl) hk
theorem cP {i:Int} {x:α} {k:AV→St→Option ρ} (j:Nat) (hL:L[j]? = some (wls ids v xs)) (hn:e.sz = n) (hx:Av xs i = some x) (hk:∀ cs:List AV,cs.length = n→(∀ (o:Nat) (z:Int),(e.cs false x)[o]? = some (AV.int .i64 z)→cs[o]? = some (AV.int .i64 z))→Okh L (k (.agg cs)) m P) :
  Okh L (fun S=>pk (ldA S (wEl n v i.toNat) n) S fun r=>k r S) m P:=fun S hS=>by
 obtain ⟨h0,h1,h2⟩:=DU hx
 have key:∃ cs ic,wrk S ic cs x∧BY S (wEl n v i.toNat) = some cs:=by
  rcases hS.get hL with ⟨l,fl,rfl,rfl⟩ | ⟨b,fl,pl,es,is,rs,rfl,q2,q3,q4,_,_⟩
  ·have hg:(xs.map (e.cs l))[i.toNat]? = some (e.cs l x):=by rw [List.getElem?_map,h2]; rfl
   have hd:(xs.map (e.cs l)).getD i.toNat [] = e.cs l x:=by rw [List.getD_eq_getElem?_getD,hg]; rfl
   refine ⟨e.cs l x,[],GE_,?_⟩
   simp only [wEl,hd,BY]
  ·obtain ⟨ec,ic,g1,g2,g3⟩:=q4.get i.toNat h2
   have qg:(es++rs)[i.toNat]? = some ec:=by
    rw [List.getElem?_append_left (List.getElem?_eq_some_iff.1 g1).1]; exact g1
   have hle:=q4.len.1
   refine ⟨ec,ic,g3,?_⟩
   have hl:=g3.1
   simp only [wEl,elP,BY,q2,List.length_append,hle,if_true,Nat.zero_add,qg,List.drop_zero]
   rw [List.take_of_length_le (by omega)]
 obtain ⟨cs,ic,hw,hp⟩:=key
 have hl:cs.length = n:=by rw [hw.1,hn]
 show Fit (pk (ldA S (wEl n v i.toNat) n) S fun r=>k r S) m P
 unfold ldA
 rw [hp]
 simp only [hl,if_true]
 exact hk cs hl (fun o z h=>QD hw h) S hS
end
end
end Go.Rf
