/- Loops that count. -/
import Derived.Test.YtgjljhchmokhfaaGreatRh2
set_option linter.unusedVariables false
set_option linter.unusedSimpArgs false
namespace Go.Rf
open Go
theorem BL {σ:Type} {f:σ→Option (LO σ)} (st:Nat→σ→Prop) (n:Nat) (DL:LO σ→Prop)
  (h:∀ i s,i≤n→st i s→(i < n∧∃ s',f s = some (.norm s')∧st (i + 1) s')∨(∃ j s',f s = some (.exit j s')∧DL (.exit j s'))∨(∃ s',f s = some (.ret s')∧DL (.ret s'))) :
  ∀ (N i:Nat) (s:σ),i≤n→n - i < N→st i s→∃ o,Aq f N s = some o∧DL o
 | 0,_,_,_,hn,_=>by omega
 | N + 1,i,s,hi,hn,hs=>by
  rcases h i s hi hs with ⟨h0,s',h1,h2⟩ | ⟨j,s',h1,h2⟩ | ⟨s',h1,h2⟩
  ·obtain ⟨o,k1,k2⟩:=BL st n DL h N (i + 1) s' h0 (by omega) h2
   exact ⟨o,by simp [Aq,h1,k1],k2⟩
  ·exact ⟨_,by simp [Aq,h1],h2⟩
  ·exact ⟨_,by simp [Aq,h1],h2⟩
theorem Bn {α:Type} {xs:List α} {i:Nat} (h:i < xs.length):Am xs (i:Int) = some xs[i]:=by
 simp [Am,h]
theorem wi1 {n:Nat} (h:n≤1099511627776):wi .i64 ((n:Int) + 1) = ((n + 1:Nat):Int):=by
 rw [Bi (by omega) (by omega)]; omega
def Dl:List Int→List Int
 | []=>[]
 | [x]=>[x]
 | x::y::r=>if x = y then Dl (y::r) else x::Dl (y::r)
theorem HA:∀ (zs:List Int) (a b:Int),Dl (zs++[a,b]) = if a = b then Dl (zs++[a]) else Dl (zs++[a])++[b]
 | [],a,b=>by by_cases h:a = b <;> simp [Dl,h]
 | [z],a,b=>by
  have:=HA [] a b
  simp only [List.nil_append] at this
  simp only [List.cons_append,List.nil_append,Dl,this]
  by_cases h:a = b <;> by_cases h2:z = a <;> simp [h,h2]
 | z::w::r,a,b=>by
  have:=HA (w::r) a b
  simp only [List.cons_append] at this ⊢
  simp only [Dl,this]
  by_cases h:a = b <;> by_cases h2:z = w <;> simp [h,h2]
theorem Jo:∀ (zs:List Int) (a:Int),a∈Dl zs ↔ a∈zs
 | [],a=>by simp [Dl]
 | [z],a=>by simp [Dl]
 | z::w::r,a=>by
  have:=Jo (w::r) a
  simp only [Dl]
  by_cases h:z = w
  ·subst h; simp only [if_true,this]; simp
  ·simp only [h,if_false,List.mem_cons,this]
theorem Jn:∀ (zs:List Int),zs.Pairwise (·≤·)→(Dl zs).Pairwise (· < ·)
 | [],_=>.nil
 | [z],_=>by simp [Dl]
 | z::w::r,h=>by
  simp only [Dl]
  have h1:=List.pairwise_cons.1 h
  have ih:=Jn (w::r) h1.2
  by_cases e:z = w
  ·rw [if_pos e]; exact ih
  ·rw [if_neg e]
   refine List.pairwise_cons.2 ⟨fun x hx=>?_,ih⟩
   rw [Jo] at hx
   have hzw:z < w:=by have:=h1.1 w (by simp); omega
   rcases List.mem_cons.1 hx with rfl | hx
   ·exact hzw
   ·have:=(List.pairwise_cons.1 h1.2).1 x hx; omega
theorem Gy:∀ (xs:List Int),(∀ i,1≤i→i < xs.length→A xs i≠A xs (i - 1))→Dl xs = xs
 | [],_=>rfl
 | [z],_=>rfl
 | z::w::r,h=>by
  simp only [Dl]
  have:=h 1 (by omega) (by simp)
  simp [A] at this
  rw [if_neg (fun e=>this e.symm),Gy (w::r) (fun i h1 h2=>by
   obtain ⟨i,rfl⟩:∃ j,i = j + 1:=⟨i - 1,by omega⟩
   have:=h (i + 2) (by omega) (by simpa using h2)
   exact this)]
theorem Hq {xs:List Int} {i:Nat} (h:i < xs.length):xs.take (i + 1) = xs.take i++[A xs i]:=by
 rw [List.take_add_one,DD h,List.getElem?_eq_getElem h]; rfl
theorem JZ {xs:List Int} {i:Nat} (h0:1≤i) (h:i < xs.length):Dl (xs.take (i + 1)) = if A xs (i - 1) = A xs i then Dl (xs.take i) else Dl (xs.take i)++[A xs i]:=by
 obtain ⟨i,rfl⟩:∃ j,i = j + 1:=⟨i - 1,by omega⟩
 rw [Hq h,Hq (i:=i) (by omega)]
 simp only [List.append_assoc,List.cons_append,List.nil_append,Nat.add_sub_cancel]
 rw [HA]
theorem QM {l b:Bool} {k:Nat} {x:AV} (h:nrm l (k + 1) x = .bool b):x = .bool b:=by
 cases x <;> simp only [nrm] at h <;> first | exact h | cases h
theorem MD {b:Bool} {x:AV} (h:AO x = .bool b):x = .bool b:=by
 cases x <;> simp only [AO] at h <;> first | exact h | cases h | (split at h <;> cases h)
theorem RB {b brw:Bool} {k:Nat} {S:St} {x:AV} (h:frz brw S (k + 1) x = .bool b):x = .bool b:=by
 cases x with
 | bool=>exact h
 | bp=>simp only [frz] at h; (repeat' split at h) <;> cases h
 | bsl=>simp only [frz] at h; (repeat' split at h) <;> cases h
 | _=>cases h
theorem RA {S:St} {v:AV} {b:Bool} (h:fzr S v = .bool b):v = .bool b:=
 RB (MD (QM h))
end Go.Rf
