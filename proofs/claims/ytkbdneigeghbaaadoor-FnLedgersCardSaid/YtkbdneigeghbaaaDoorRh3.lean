/- Loops that count. -/
import Derived.Test.YtkbdneigeghbaaaDoorRh2
set_option linter.unusedVariables false
set_option linter.unusedSimpArgs false
namespace Go.Rf
open Go
theorem loop_idx {σ:Type} {f:σ→Option (LO σ)} (st:Nat→σ→Prop) (n:Nat) (Post:LO σ→Prop)
  (h:∀ i s,i≤n→st i s→(i < n∧∃ s',f s = some (.norm s')∧st (i + 1) s')∨(∃ j s',f s = some (.exit j s')∧Post (.exit j s'))∨(∃ s',f s = some (.ret s')∧Post (.ret s'))) :
  ∀ (N i:Nat) (s:σ),i≤n→n - i < N→st i s→∃ o,loopO f N s = some o∧Post o
 | 0,_,_,_,hn,_=>by omega
 | N + 1,i,s,hi,hn,hs=>by
  rcases h i s hi hs with ⟨h0,s',h1,h2⟩ | ⟨j,s',h1,h2⟩ | ⟨s',h1,h2⟩
  ·obtain ⟨o,k1,k2⟩:=loop_idx st n Post h N (i + 1) s' h0 (by omega) h2
   exact ⟨o,by simp [loopO,h1,k1],k2⟩
  ·exact ⟨_,by simp [loopO,h1],h2⟩
  ·exact ⟨_,by simp [loopO,h1],h2⟩
theorem getN {α:Type} {xs:List α} {i:Nat} (h:i < xs.length):getI xs (i:Int) = some xs[i]:=by
 simp [getI,h]
theorem wi1 {n:Nat} (h:n≤1099511627776):wi .i64 ((n:Int) + 1) = ((n + 1:Nat):Int):=by
 rw [wi64 (by omega) (by omega)]; omega
def cmpA:List Int→List Int
 | []=>[]
 | [x]=>[x]
 | x::y::r=>if x = y then cmpA (y::r) else x::cmpA (y::r)
theorem nrm_bool {l b:Bool} {k:Nat} {x:AV} (h:nrm l (k + 1) x = .bool b):x = .bool b:=by
 cases x <;> simp only [nrm] at h <;> first | exact h | cases h
theorem scrub_bool {b:Bool} {x:AV} (h:scrub x = .bool b):x = .bool b:=by
 cases x <;> simp only [scrub] at h <;> first | exact h | cases h | (split at h <;> cases h)
theorem frz_bool {b brw:Bool} {k:Nat} {S:St} {x:AV} (h:frz brw S (k + 1) x = .bool b):x = .bool b:=by
 cases x with
 | bool=>exact h
 | bp=>simp only [frz] at h; (repeat' split at h) <;> cases h
 | bsl=>simp only [frz] at h; (repeat' split at h) <;> cases h
 | _=>cases h
theorem fzr_bool {S:St} {v:AV} {b:Bool} (h:fzr S v = .bool b):v = .bool b:=
 frz_bool (scrub_bool (nrm_bool h))
end Go.Rf
