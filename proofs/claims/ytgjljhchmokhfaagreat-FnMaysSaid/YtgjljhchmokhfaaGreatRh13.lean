/- Elements of weak slices are read. -/
import Derived.Test.YtgjljhchmokhfaaGreatRh12
set_option linter.unusedVariables false
set_option linter.unusedSimpArgs false
namespace Go.Rf
open Go
def wEl (n:Nat) (v:AV) (k:Nat):AV:=match v with
 | .rsl l _ es=>.rp l (es.getD k [])
 | v=>elP n v k
def wFl (o c:Nat) (p:AV):AV:=(Cj p o c).getD .non
theorem Ua {brw l:Bool} {S:St} {k j:Nat} {a:AV} {kk:IntKind} {n:Int} (hk:0 < k) (hj:0 < j) (h:nrm l j (frz brw S k a) = .int kk n):a = .int kk n:=by
 obtain ⟨k,rfl⟩:∃ i,k = i + 1:=⟨k - 1,by omega⟩
 obtain ⟨j,rfl⟩:∃ i,j = i + 1:=⟨j - 1,by omega⟩
 cases a <;> simp only [frz] at h
 case bp=>
  split at h <;> try (simp [nrm] at h; done)
  split at h <;> try (simp [nrm] at h; done)
  split at h <;> try (simp [nrm] at h; done)
  split at h <;> simp [nrm] at h
 case bsl=>
  split at h <;> try (simp [nrm] at h; done)
  split at h <;> try (simp [nrm] at h; done)
  split at h <;> simp [nrm] at h
 all_goals simp [nrm] at h
 obtain ⟨rfl,rfl⟩:=h
 rfl
section
variable {α:Type} [e:Enc α]
theorem Tj {S:St} {ids:List Nat} {cs:List AV} {x:α} {o:Nat} {n:Int} (h:wrk S ids cs x) (hr:(e.cs false x)[o]? = some (.int .i64 n)):cs[o]? = some (.int .i64 n):=by
 have h1:=h.2.2 S (fun _ _=>rfl) false (e.dp + 1) (e.dp + 1) false (Nat.lt_succ_self _) (Nat.lt_succ_self _)
 rw [← h1,List.getElem?_map,Option.map_eq_some_iff] at hr
 obtain ⟨b,hb,hb2⟩:=hr
 rw [List.getElem?_map,Option.map_eq_some_iff] at hb
 obtain ⟨a,ha,rfl⟩:=hb
 rw [ha,Ua (Nat.succ_pos _) (Nat.succ_pos _) hb2]
theorem Kw {S:St} {ids:List Nat} {v:AV} {xs:List α} (h:(wls ids v xs).ok S) {i:Int} {x:α} (hx:Am xs i = some x) {n:Nat} (hn:e.sz = n) :
  ∃ cs ic,wrk S ic cs x∧(∀ kk,Bc n v (.int kk i) S = some (wEl n v i.toNat))∧∀ o c,o + c≤n→Cj (wEl n v i.toNat) o c = some (wFl o c (wEl n v i.toNat))∧BK S (wFl o c (wEl n v i.toNat)) = some ((cs.drop o).take c):=by
 obtain ⟨h0,h1,h2⟩:=Em hx
 rcases h with ⟨l,fl,rfl,rfl⟩ | ⟨b,fl,pl,es,is,rs,rfl,q2,q3,q4,_,_⟩
 ·have hg:(xs.map (e.cs l))[i.toNat]? = some (e.cs l x):=by rw [List.getElem?_map,h2]; rfl
  have hd:(xs.map (e.cs l)).getD i.toNat [] = e.cs l x:=by rw [List.getD_eq_getElem?_getD,hg]; rfl
  refine ⟨e.cs l x,[],Tm,fun kk=>?_,fun o c ho=>?_⟩
  ·simp only [Bc,wEl]
   rw [if_pos h0,hg,hd]
   simp [e.len,hn]
  ·simp only [wEl,wFl,hd]
   exact ⟨rfl,rfl⟩
 ·obtain ⟨ec,ic,g1,g2,g3⟩:=q4.get i.toNat h2
  have qg:(es++rs)[i.toNat]? = some ec:=by
   rw [List.getElem?_append_left (List.getElem?_eq_some_iff.1 g1).1]; exact g1
  have hle:=q4.len.1
  refine ⟨ec,ic,g3,fun kk=>?_,fun o c ho=>?_⟩
  ·simp only [Bc,wEl,elP]
   rw [if_pos ⟨h0,by omega⟩,q2]
   simp [hn]
  ·simp only [wEl,wFl,elP,Cj,if_pos ho,Option.getD_some,BK,q2,List.length_append,hle,if_true,Nat.zero_add,qg]
   exact ⟨trivial,trivial⟩
section
variable {ρ τ:Type} {L:List En} {m:Option τ} {P:τ→ρ→Prop} {ids:List Nat} {v:AV} {xs:List α} {n:Nat}
end
end
end Go.Rf
