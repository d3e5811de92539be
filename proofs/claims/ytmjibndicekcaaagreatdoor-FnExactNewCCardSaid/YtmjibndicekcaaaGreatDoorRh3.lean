/- Loops that count. -/
import Derived.Test.YtmjibndicekcaaaGreatDoorRh2
set_option linter.unusedVariables false
set_option linter.unusedSimpArgs false
namespace Go.Rf
open Go
theorem loop_idx {σ:Type} {f:σ→Option (LO σ)} (st:Nat→σ→Prop) (n:Nat) (Post:LO σ→Prop)
  (h:∀ i s,i≤n→st i s→(i < n∧∃ s',f s = some (.norm s')∧st (i + 1) s')∨(∃ j s',f s = some (.exit j s')∧Post (.exit j s'))∨(∃ s',f s = some (.ret s')∧Post (.ret s'))) :
  ∀ (N i:Nat) (s:σ),i≤n→n - i < N→st i s→∃ o,loopO f N s = some o∧Post o
 | 0,_,_,_,hn,_=>by omega
 | N + 1,i,s,hi,hn,hs=>by
  rcases h i s hi hs with ⟨h0,s',h1,h2⟩ | ⟨j,s',h1,h2⟩ | ⟨s',h1,h2⟩
  ·obtain ⟨o,k1,k2⟩:=loop_idx st n Post h N (i + 1) s' h0 (by omega) h2
   exact ⟨o,by simp [loopO,h1,k1],k2⟩
  ·exact ⟨_,by simp [loopO,h1],h2⟩
  ·exact ⟨_,by simp [loopO,h1],h2⟩
theorem getN {α:Type} {xs:List α} {i:Nat} (h:i < xs.length):getI xs (i:Int) = some xs[i]:=by
 simp [getI,h]
theorem getN' {α:Type} {xs:List α} {i:Nat} {x:α} (h:xs[i]? = some x):getI xs (i:Int) = some x:=by
 simp [getI,h]
theorem wi1 {n:Nat} (h:n≤1099511627776):wi .i64 ((n:Int) + 1) = ((n + 1:Nat):Int):=by
 rw [wi64 (by omega) (by omega)]; omega
def cmpA:List Int→List Int
 | []=>[]
 | [x]=>[x]
 | x::y::r=>if x = y then cmpA (y::r) else x::cmpA (y::r)
theorem cmpA_snoc:∀ (zs:List Int) (a b:Int),cmpA (zs++[a,b]) = if a = b then cmpA (zs++[a]) else cmpA (zs++[a])++[b]
 | [],a,b=>by by_cases h:a = b <;> simp [cmpA,h]
 | [z],a,b=>by
  have:=cmpA_snoc [] a b
  simp only [List.nil_append] at this
  simp only [List.cons_append,List.nil_append,cmpA,this]
  by_cases h:a = b <;> by_cases h2:z = a <;> simp [h,h2]
 | z::w::r,a,b=>by
  have:=cmpA_snoc (w::r) a b
  simp only [List.cons_append] at this ⊢
  simp only [cmpA,this]
  by_cases h:a = b <;> by_cases h2:z = w <;> simp [h,h2]
theorem cmpA_mem:∀ (zs:List Int) (a:Int),a∈cmpA zs ↔ a∈zs
 | [],a=>by simp [cmpA]
 | [z],a=>by simp [cmpA]
 | z::w::r,a=>by
  have:=cmpA_mem (w::r) a
  simp only [cmpA]
  by_cases h:z = w
  ·subst h; simp only [if_true,this]; simp
  ·simp only [h,if_false,List.mem_cons,this]
theorem cmpA_nodup:∀ (zs:List Int),zs.Pairwise (·≤·)→(cmpA zs).Pairwise (· < ·)
 | [],_=>.nil
 | [z],_=>by simp [cmpA]
 | z::w::r,h=>by
  simp only [cmpA]
  have h1:=List.pairwise_cons.1 h
  have ih:=cmpA_nodup (w::r) h1.2
  by_cases e:z = w
  ·rw [if_pos e]; exact ih
  ·rw [if_neg e]
   refine List.pairwise_cons.2 ⟨fun x hx=>?_,ih⟩
   rw [cmpA_mem] at hx
   have hzw:z < w:=by have:=h1.1 w (by simp); omega
   rcases List.mem_cons.1 hx with rfl | hx
   ·exact hzw
   ·have:=(List.pairwise_cons.1 h1.2).1 x hx; omega
theorem cmpA_alone:∀ (xs:List Int),(∀ i,1≤i→i < xs.length→A xs i≠A xs (i - 1))→cmpA xs = xs
 | [],_=>rfl
 | [z],_=>rfl
 | z::w::r,h=>by
  simp only [cmpA]
  have:=h 1 (by omega) (by simp)
  simp [A] at this
  rw [if_neg (fun e=>this e.symm),cmpA_alone (w::r) (fun i h1 h2=>by
   obtain ⟨i,rfl⟩:∃ j,i = j + 1:=⟨i - 1,by omega⟩
   have:=h (i + 2) (by omega) (by simpa using h2)
   exact this)]
theorem take_snoc {xs:List Int} {i:Nat} (h:i < xs.length):xs.take (i + 1) = xs.take i++[A xs i]:=by
 rw [List.take_add_one,A_get h,List.getElem?_eq_getElem h]; rfl
theorem cmpA_step {xs:List Int} {i:Nat} (h0:1≤i) (h:i < xs.length):cmpA (xs.take (i + 1)) = if A xs (i - 1) = A xs i then cmpA (xs.take i) else cmpA (xs.take i)++[A xs i]:=by
 obtain ⟨i,rfl⟩:∃ j,i = j + 1:=⟨i - 1,by omega⟩
 rw [take_snoc h,take_snoc (i:=i) (by omega)]
 simp only [List.append_assoc,List.cons_append,List.nil_append,Nat.add_sub_cancel]
 rw [cmpA_snoc]
theorem nrm_bool {l b:Bool} {k:Nat} {x:AV} (h:nrm l (k + 1) x = .bool b):x = .bool b:=by
 cases x <;> simp only [nrm] at h <;> first | exact h | cases h
theorem scrub_bool {b:Bool} {x:AV} (h:scrub x = .bool b):x = .bool b:=by
 cases x <;> simp only [scrub] at h <;> first | exact h | cases h | (split at h <;> cases h)
theorem frz_bool {b brw:Bool} {k:Nat} {S:St} {x:AV} (h:frz brw S (k + 1) x = .bool b):x = .bool b:=by
 cases x with
 | bool=>exact h
 | bp=>simp only [frz] at h; (repeat' split at h) <;> cases h
 | bsl=>simp only [frz] at h; (repeat' split at h) <;> cases h
 | _=>cases h
theorem fzr_bool {S:St} {v:AV} {b:Bool} (h:fzr S v = .bool b):v = .bool b:=
 frz_bool (scrub_bool (nrm_bool h))
end Go.Rf
