/- Loops that count. -/
import Derived.Test.YtjlecnhninhmnaaGreatDoorRh2
set_option linter.unusedVariables false
set_option linter.unusedSimpArgs false
namespace Go.Rf
open Go
theorem Dh {σ:Type} {f:σ→Option (LO σ)} (st:Nat→σ→Prop) (n:Nat) (ER:LO σ→Prop)
  (h:∀ i s,i≤n→st i s→(i < n∧∃ s',f s = some (.norm s')∧st (i + 1) s')∨(∃ j s',f s = some (.exit j s')∧ER (.exit j s'))∨(∃ s',f s = some (.ret s')∧ER (.ret s'))) :
  ∀ (N i:Nat) (s:σ),i≤n→n - i < N→st i s→∃ o,Ax f N s = some o∧ER o
 | 0,_,_,_,hn,_=>by omega
 | N + 1,i,s,hi,hn,hs=>by
  rcases h i s hi hs with ⟨h0,s',h1,h2⟩ | ⟨j,s',h1,h2⟩ | ⟨s',h1,h2⟩
  ·obtain ⟨o,k1,k2⟩:=Dh st n ER h N (i + 1) s' h0 (by omega) h2
   exact ⟨o,by simp [Ax,h1,k1],k2⟩
  ·exact ⟨_,by simp [Ax,h1],h2⟩
  ·exact ⟨_,by simp [Ax,h1],h2⟩
theorem AZ {α:Type} {xs:List α} {i:Nat} (h:i < xs.length):Aq xs (i:Int) = some xs[i]:=by
 simp [Aq,h]
theorem wi1 {n:Nat} (h:n≤1099511627776):wi .i64 ((n:Int) + 1) = ((n + 1:Nat):Int):=by
 rw [Dt (by omega) (by omega)]; omega
def Et:List Int→List Int
 | []=>[]
 | [x]=>[x]
 | x::y::r=>if x = y then Et (y::r) else x::Et (y::r)
theorem Jx:∀ (zs:List Int) (a b:Int),Et (zs++[a,b]) = if a = b then Et (zs++[a]) else Et (zs++[a])++[b]
 | [],a,b=>by by_cases h:a = b <;> simp [Et,h]
 | [z],a,b=>by
  have:=Jx [] a b
  simp only [List.nil_append] at this
  simp only [List.cons_append,List.nil_append,Et,this]
  by_cases h:a = b <;> by_cases h2:z = a <;> simp [h,h2]
 | z::w::r,a,b=>by
  have:=Jx (w::r) a b
  simp only [List.cons_append] at this ⊢
  simp only [Et,this]
  by_cases h:a = b <;> by_cases h2:z = w <;> simp [h,h2]
theorem Md:∀ (zs:List Int) (a:Int),a∈Et zs ↔ a∈zs
 | [],a=>by simp [Et]
 | [z],a=>by simp [Et]
 | z::w::r,a=>by
  have:=Md (w::r) a
  simp only [Et]
  by_cases h:z = w
  ·subst h; simp only [if_true,this]; simp
  ·simp only [h,if_false,List.mem_cons,this]
theorem Mc:∀ (zs:List Int),zs.Pairwise (·≤·)→(Et zs).Pairwise (· < ·)
 | [],_=>.nil
 | [z],_=>by simp [Et]
 | z::w::r,h=>by
  simp only [Et]
  have h1:=List.pairwise_cons.1 h
  have ih:=Mc (w::r) h1.2
  by_cases e:z = w
  ·rw [if_pos e]; exact ih
  ·rw [if_neg e]
   refine List.pairwise_cons.2 ⟨fun x hx=>?_,ih⟩
   rw [Md] at hx
   have hzw:z < w:=by have:=h1.1 w (by simp); omega
   rcases List.mem_cons.1 hx with rfl | hx
   ·exact hzw
   ·have:=(List.pairwise_cons.1 h1.2).1 x hx; omega
theorem Ip:∀ (xs:List Int),(∀ i,1≤i→i < xs.length→A xs i≠A xs (i - 1))→Et xs = xs
 | [],_=>rfl
 | [z],_=>rfl
 | z::w::r,h=>by
  simp only [Et]
  have:=h 1 (by omega) (by simp)
  simp [A] at this
  rw [if_neg (fun e=>this e.symm),Ip (w::r) (fun i h1 h2=>by
   obtain ⟨i,rfl⟩:∃ j,i = j + 1:=⟨i - 1,by omega⟩
   have:=h (i + 2) (by omega) (by simpa using h2)
   exact this)]
theorem Ja {xs:List Int} {i:Nat} (h:i < xs.length):xs.take (i + 1) = xs.take i++[A xs i]:=by
 rw [List.take_add_one,Eg h,List.getElem?_eq_getElem h]; rfl
theorem Nz {xs:List Int} {i:Nat} (h0:1≤i) (h:i < xs.length):Et (xs.take (i + 1)) = if A xs (i - 1) = A xs i then Et (xs.take i) else Et (xs.take i)++[A xs i]:=by
 obtain ⟨i,rfl⟩:∃ j,i = j + 1:=⟨i - 1,by omega⟩
 rw [Ja h,Ja (i:=i) (by omega)]
 simp only [List.append_assoc,List.cons_append,List.nil_append,Nat.add_sub_cancel]
 rw [Jx]
theorem Wz {l b:Bool} {k:Nat} {x:AV} (h:nrm l (k + 1) x = .bool b):x = .bool b:=by
 cases x <;> simp only [nrm] at h <;> first | exact h | cases h
theorem Q1 {b:Bool} {x:AV} (h:Bh x = .bool b):x = .bool b:=by
 cases x <;> simp only [Bh] at h <;> first | exact h | cases h | (split at h <;> cases h)
theorem X6 {b brw:Bool} {k:Nat} {S:St} {x:AV} (h:frz brw S (k + 1) x = .bool b):x = .bool b:=by
 cases x with
 | bool=>exact h
 | bp=>simp only [frz] at h; (repeat' split at h) <;> cases h
 | bsl=>simp only [frz] at h; (repeat' split at h) <;> cases h
 | _=>cases h
theorem X5 {S:St} {v:AV} {b:Bool} (h:fzr S v = .bool b):v = .bool b:=
 X6 (Q1 (Wz h))
end Go.Rf
