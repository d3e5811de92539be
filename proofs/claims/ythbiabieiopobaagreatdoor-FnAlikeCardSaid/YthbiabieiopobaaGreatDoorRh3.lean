/- Loops that count. -/
import Derived.Test.YthbiabieiopobaaGreatDoorRh2
set_option linter.unusedVariables false
set_option linter.unusedSimpArgs false
namespace Go.Rf
open Go
theorem Ep {σ:Type} {f:σ→Option (LO σ)} (st:Nat→σ→Prop) (n:Nat) (ED:LO σ→Prop)
  (h:∀ i s,i≤n→st i s→(i < n∧∃ s',f s = some (.norm s')∧st (i + 1) s')∨(∃ j s',f s = some (.exit j s')∧ED (.exit j s'))∨(∃ s',f s = some (.ret s')∧ED (.ret s'))) :
  ∀ (N i:Nat) (s:σ),i≤n→n - i < N→st i s→∃ o,AB f N s = some o∧ED o
 | 0,_,_,_,hn,_=>by omega
 | N + 1,i,s,hi,hn,hs=>by
  rcases h i s hi hs with ⟨h0,s',h1,h2⟩ | ⟨j,s',h1,h2⟩ | ⟨s',h1,h2⟩
  ·obtain ⟨o,k1,k2⟩:=Ep st n ED h N (i + 1) s' h0 (by omega) h2
   exact ⟨o,by simp [AB,h1,k1],k2⟩
  ·exact ⟨_,by simp [AB,h1],h2⟩
  ·exact ⟨_,by simp [AB,h1],h2⟩
theorem BI {α:Type} {xs:List α} {i:Nat} (h:i < xs.length):Av xs (i:Int) = some xs[i]:=by
 simp [Av,h]
theorem wi1 {n:Nat} (h:n≤1099511627776):wi .i64 ((n:Int) + 1) = ((n + 1:Nat):Int):=by
 rw [DV (by omega) (by omega)]; omega
def Es:List Int→List Int
 | []=>[]
 | [x]=>[x]
 | x::y::r=>if x = y then Es (y::r) else x::Es (y::r)
theorem IQ:∀ (zs:List Int) (a b:Int),Es (zs++[a,b]) = if a = b then Es (zs++[a]) else Es (zs++[a])++[b]
 | [],a,b=>by by_cases h:a = b <;> simp [Es,h]
 | [z],a,b=>by
  have:=IQ [] a b
  simp only [List.nil_append] at this
  simp only [List.cons_append,List.nil_append,Es,this]
  by_cases h:a = b <;> by_cases h2:z = a <;> simp [h,h2]
 | z::w::r,a,b=>by
  have:=IQ (w::r) a b
  simp only [List.cons_append] at this ⊢
  simp only [Es,this]
  by_cases h:a = b <;> by_cases h2:z = w <;> simp [h,h2]
theorem Ld:∀ (zs:List Int) (a:Int),a∈Es zs ↔ a∈zs
 | [],a=>by simp [Es]
 | [z],a=>by simp [Es]
 | z::w::r,a=>by
  have:=Ld (w::r) a
  simp only [Es]
  by_cases h:z = w
  ·subst h; simp only [if_true,this]; simp
  ·simp only [h,if_false,List.mem_cons,this]
theorem Lc:∀ (zs:List Int),zs.Pairwise (·≤·)→(Es zs).Pairwise (· < ·)
 | [],_=>.nil
 | [z],_=>by simp [Es]
 | z::w::r,h=>by
  simp only [Es]
  have h1:=List.pairwise_cons.1 h
  have ih:=Lc (w::r) h1.2
  by_cases e:z = w
  ·rw [if_pos e]; exact ih
  ·rw [if_neg e]
   refine List.pairwise_cons.2 ⟨fun x hx=>?_,ih⟩
   rw [Ld] at hx
   have hzw:z < w:=by have:=h1.1 w (by simp); omega
   rcases List.mem_cons.1 hx with rfl | hx
   ·exact hzw
   ·have:=(List.pairwise_cons.1 h1.2).1 x hx; omega
theorem H8:∀ (xs:List Int),(∀ i,1≤i→i < xs.length→A xs i≠A xs (i - 1))→Es xs = xs
 | [],_=>rfl
 | [z],_=>rfl
 | z::w::r,h=>by
  simp only [Es]
  have:=h 1 (by omega) (by simp)
  simp [A] at this
  rw [if_neg (fun e=>this e.symm),H8 (w::r) (fun i h1 h2=>by
   obtain ⟨i,rfl⟩:∃ j,i = j + 1:=⟨i - 1,by omega⟩
   have:=h (i + 2) (by omega) (by simpa using h2)
   exact this)]
theorem Iy {xs:List Int} {i:Nat} (h:i < xs.length):xs.take (i + 1) = xs.take i++[A xs i]:=by
 rw [List.take_add_one,EK h,List.getElem?_eq_getElem h]; rfl
theorem MC {xs:List Int} {i:Nat} (h0:1≤i) (h:i < xs.length):Es (xs.take (i + 1)) = if A xs (i - 1) = A xs i then Es (xs.take i) else Es (xs.take i)++[A xs i]:=by
 obtain ⟨i,rfl⟩:∃ j,i = j + 1:=⟨i - 1,by omega⟩
 rw [Iy h,Iy (i:=i) (by omega)]
 simp only [List.append_assoc,List.cons_append,List.nil_append,Nat.add_sub_cancel]
 rw [IQ]
theorem VF {l b:Bool} {k:Nat} {x:AV} (h:nrm l (k + 1) x = .bool b):x = .bool b:=by
 cases x <;> simp only [nrm] at h <;> first | exact h | cases h
theorem Py {b:Bool} {x:AV} (h:Bi x = .bool b):x = .bool b:=by
 cases x <;> simp only [Bi] at h <;> first | exact h | cases h | (split at h <;> cases h)
theorem WG {b brw:Bool} {k:Nat} {S:St} {x:AV} (h:frz brw S (k + 1) x = .bool b):x = .bool b:=by
 cases x with
 | bool=>exact h
 | bp=>simp only [frz] at h; (repeat' split at h) <;> cases h
 | bsl=>simp only [frz] at h; (repeat' split at h) <;> cases h
 | _=>cases h
theorem WF {S:St} {v:AV} {b:Bool} (h:fzr S v = .bool b):v = .bool b:=
 WG (Py (VF h))
end Go.Rf
