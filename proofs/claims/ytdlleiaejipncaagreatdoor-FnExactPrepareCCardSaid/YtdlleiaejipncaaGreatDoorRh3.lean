/- Loops that count. -/
import Derived.Test.YtdlleiaejipncaaGreatDoorRh2
set_option linter.unusedVariables false
set_option linter.unusedSimpArgs false
namespace Go.Rf
open Go
theorem DI {σ:Type} {f:σ→Option (LO σ)} (st:Nat→σ→Prop) (n:Nat) (DV:LO σ→Prop)
  (h:∀ i s,i≤n→st i s→(i < n∧∃ s',f s = some (.norm s')∧st (i + 1) s')∨(∃ j s',f s = some (.exit j s')∧DV (.exit j s'))∨(∃ s',f s = some (.ret s')∧DV (.ret s'))) :
  ∀ (N i:Nat) (s:σ),i≤n→n - i < N→st i s→∃ o,Ar f N s = some o∧DV o
 | 0,_,_,_,hn,_=>by omega
 | N + 1,i,s,hi,hn,hs=>by
  rcases h i s hi hs with ⟨h0,s',h1,h2⟩ | ⟨j,s',h1,h2⟩ | ⟨s',h1,h2⟩
  ·obtain ⟨o,k1,k2⟩:=DI st n DV h N (i + 1) s' h0 (by omega) h2
   exact ⟨o,by simp [Ar,h1,k1],k2⟩
  ·exact ⟨_,by simp [Ar,h1],h2⟩
  ·exact ⟨_,by simp [Ar,h1],h2⟩
theorem AS {α:Type} {xs:List α} {i:Nat} (h:i < xs.length):Al xs (i:Int) = some xs[i]:=by
 simp [Al,h]
theorem jZ {α:Type} {xs:List α} {i:Nat} {x:α} (h:xs[i]? = some x):Al xs (i:Int) = some x:=by
 simp [Al,h]
theorem wi1 {n:Nat} (h:n≤1099511627776):wi .i64 ((n:Int) + 1) = ((n + 1:Nat):Int):=by
 rw [Cx (by omega) (by omega)]; omega
def Du:List Int→List Int
 | []=>[]
 | [x]=>[x]
 | x::y::r=>if x = y then Du (y::r) else x::Du (y::r)
theorem I1:∀ (zs:List Int) (a b:Int),Du (zs++[a,b]) = if a = b then Du (zs++[a]) else Du (zs++[a])++[b]
 | [],a,b=>by by_cases h:a = b <;> simp [Du,h]
 | [z],a,b=>by
  have:=I1 [] a b
  simp only [List.nil_append] at this
  simp only [List.cons_append,List.nil_append,Du,this]
  by_cases h:a = b <;> by_cases h2:z = a <;> simp [h,h2]
 | z::w::r,a,b=>by
  have:=I1 (w::r) a b
  simp only [List.cons_append] at this ⊢
  simp only [Du,this]
  by_cases h:a = b <;> by_cases h2:z = w <;> simp [h,h2]
theorem Kc:∀ (zs:List Int) (a:Int),a∈Du zs ↔ a∈zs
 | [],a=>by simp [Du]
 | [z],a=>by simp [Du]
 | z::w::r,a=>by
  have:=Kc (w::r) a
  simp only [Du]
  by_cases h:z = w
  ·subst h; simp only [if_true,this]; simp
  ·simp only [h,if_false,List.mem_cons,this]
theorem Kb:∀ (zs:List Int),zs.Pairwise (·≤·)→(Du zs).Pairwise (· < ·)
 | [],_=>.nil
 | [z],_=>by simp [Du]
 | z::w::r,h=>by
  simp only [Du]
  have h1:=List.pairwise_cons.1 h
  have ih:=Kb (w::r) h1.2
  by_cases e:z = w
  ·rw [if_pos e]; exact ih
  ·rw [if_neg e]
   refine List.pairwise_cons.2 ⟨fun x hx=>?_,ih⟩
   rw [Kc] at hx
   have hzw:z < w:=by have:=h1.1 w (by simp); omega
   rcases List.mem_cons.1 hx with rfl | hx
   ·exact hzw
   ·have:=(List.pairwise_cons.1 h1.2).1 x hx; omega
theorem GY:∀ (xs:List Int),(∀ i,1≤i→i < xs.length→A xs i≠A xs (i - 1))→Du xs = xs
 | [],_=>rfl
 | [z],_=>rfl
 | z::w::r,h=>by
  simp only [Du]
  have:=h 1 (by omega) (by simp)
  simp [A] at this
  rw [if_neg (fun e=>this e.symm),GY (w::r) (fun i h1 h2=>by
   obtain ⟨i,rfl⟩:∃ j,i = j + 1:=⟨i - 1,by omega⟩
   have:=h (i + 2) (by omega) (by simpa using h2)
   exact this)]
theorem Ie {xs:List Int} {i:Nat} (h:i < xs.length):xs.take (i + 1) = xs.take i++[A xs i]:=by
 rw [List.take_add_one,Dm h,List.getElem?_eq_getElem h]; rfl
theorem KQ {xs:List Int} {i:Nat} (h0:1≤i) (h:i < xs.length):Du (xs.take (i + 1)) = if A xs (i - 1) = A xs i then Du (xs.take i) else Du (xs.take i)++[A xs i]:=by
 obtain ⟨i,rfl⟩:∃ j,i = j + 1:=⟨i - 1,by omega⟩
 rw [Ie h,Ie (i:=i) (by omega)]
 simp only [List.append_assoc,List.cons_append,List.nil_append,Nat.add_sub_cancel]
 rw [I1]
theorem UJ {l b:Bool} {k:Nat} {x:AV} (h:nrm l (k + 1) x = .bool b):x = .bool b:=by
 cases x <;> simp only [nrm] at h <;> first | exact h | cases h
theorem NJ {b:Bool} {x:AV} (h:AY x = .bool b):x = .bool b:=by
 cases x <;> simp only [AY] at h <;> first | exact h | cases h | (split at h <;> cases h)
theorem Ww {b brw:Bool} {k:Nat} {S:St} {x:AV} (h:frz brw S (k + 1) x = .bool b):x = .bool b:=by
 cases x with
 | bool=>exact h
 | bp=>simp only [frz] at h; (repeat' split at h) <;> cases h
 | bsl=>simp only [frz] at h; (repeat' split at h) <;> cases h
 | _=>cases h
theorem Wt {S:St} {v:AV} {b:Bool} (h:fzr S v = .bool b):v = .bool b:=
 Ww (NJ (UJ h))
end Go.Rf
