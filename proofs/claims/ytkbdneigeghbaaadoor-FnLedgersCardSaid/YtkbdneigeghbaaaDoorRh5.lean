/- Loops that look for something; lists without doubles. -/
import Derived.Test.YtkbdneigeghbaaaDoorRh4
import Derived.Lib.Bytealg
set_option linter.unusedVariables false
set_option linter.unusedSimpArgs false
namespace Go.Rf
open Go
theorem loop_to {σ:Type} {f:σ→Option (LO σ)} (st:Nat→σ):∀ (k N:Nat),k≤N→(∀ j,j < k→f (st j) = some (.norm (st (j + 1))))→loopO f N (st 0) = loopO f (N - k) (st k)
 | 0,N,_,_=>rfl
 | k + 1,N,hk,h=>by
  rw [loop_to st k N (by omega) fun j hj=>h j (by omega)]
  obtain ⟨M,hM⟩:∃ M,N - k = M + 1:=⟨N - k - 1,by omega⟩
  rw [hM,show N - (k + 1) = M by omega]
  simp [loopO,h k (by omega)]
def isN {σ:Type}:LO σ→Bool
 | .norm _=>true
 | _=>false
theorem loop_stop {σ:Type} {f:σ→Option (LO σ)} {s:σ} {o:LO σ} {N:Nat} (hN:0 < N) (h:f s = some o) (ho:isN o = false):loopO f N s = some o:=by
 obtain ⟨M,rfl⟩:∃ M,N = M + 1:=⟨N - 1,by omega⟩
 cases o
 ·simp [isN] at ho
 ·simp [loopO,h]
 ·simp [loopO,h]
def fstN (p:Nat→Bool) (n:Nat):Option Nat:=(List.range n).find? p
theorem fstN_none {p:Nat→Bool} {n:Nat} (h:∀ j,j < n→p j = false):fstN p n = none:=by
 unfold fstN
 rw [List.find?_eq_none]
 intro x hx
 rw [List.mem_range] at hx
 simp [h x hx]
theorem fstN_some {p:Nat→Bool} {n i:Nat} (hi:i < n) (h:∀ j,j < i→p j = false) (hp:p i = true):fstN p n = some i:=by
 unfold fstN
 obtain ⟨k,rfl⟩:∃ k,n = i + (k + 1):=⟨n - i - 1,by omega⟩
 rw [List.range_add,List.find?_append]
 have h1:(List.range i).find? p = none:=by
  rw [List.find?_eq_none]
  intro x hx
  rw [List.mem_range] at hx
  simp [h x hx]
 rw [h1,List.range_succ_eq_map]
 simp [hp]
theorem fst_cases (p:Nat→Bool):∀ (n:Nat),(∀ j,j < n→p j = false)∨∃ i,i < n∧(∀ j,j < i→p j = false)∧p i = true
 | 0=>.inl fun j hj=>by omega
 | n + 1=>by
  rcases fst_cases p n with h | ⟨i,h1,h2,h3⟩
  ·cases hp:p n
   ·exact .inl fun j hj=>by
     by_cases e:j = n
     ·subst e; exact hp
     ·exact h j (by omega)
   ·exact .inr ⟨n,by omega,h,hp⟩
  ·exact .inr ⟨i,by omega,h2,h3⟩
def orF {β:Type} (x:Option Nat) (out:Nat→β) (fin:β):β:=match x with
 | some i=>out i
 | none=>fin
theorem loop_first {σ:Type} {f:σ→Option (LO σ)} (st:Nat→σ) (n:Nat) (p:Nat→Bool) (out:Nat→LO σ) (fin:LO σ)
  (hs:∀ i,i < n→(∀ j,j < i→p j = false)→p i = false→f (st i) = some (.norm (st (i + 1))))
  (ho:∀ i,i < n→(∀ j,j < i→p j = false)→p i = true→f (st i) = some (out i)∧isN (out i) = false)
  (hf:(∀ j,j < n→p j = false)→f (st n) = some fin∧isN fin = false) {N:Nat} (hN:n < N) {s0:σ} (h0:s0 = st 0) :
  loopO f N s0 = some (orF (fstN p n) out fin):=by
 subst h0
 rcases fst_cases p n with h | ⟨i,h1,h2,h3⟩
 ·rw [fstN_none h,loop_to st n N (by omega) fun j hj=>hs j hj (fun k hk=>h k (by omega)) (h j hj)]
  exact loop_stop (by omega) (hf h).1 (hf h).2
 ·rw [fstN_some h1 h2 h3,loop_to st i N (by omega) fun j hj=>hs j (by omega) (fun k hk=>h2 k (by omega)) (h2 j hj)]
  exact loop_stop (by omega) (ho i h1 h2 h3).1 (ho i h1 h2 h3).2
theorem loop_all {σ:Type} {f:σ→Option (LO σ)} (st:Nat→σ) (n:Nat) (fin:LO σ)
  (hs:∀ i,i < n→f (st i) = some (.norm (st (i + 1)))) (hf:f (st n) = some fin) (hi:isN fin = false) {N:Nat} (hN:n < N) {s0:σ} (h0:s0 = st 0) :
  loopO f N s0 = some fin:=by
 subst h0
 rw [loop_to st n N (by omega) hs]
 exact loop_stop (by omega) hf hi
def pAt {α:Type} (q:α→Bool) (xs:List α) (i:Nat):Bool:=(xs[i]?).any q
theorem pAt_get {α:Type} {q:α→Bool} {xs:List α} {i:Nat} (h:i < xs.length):pAt q xs i = q xs[i]:=by
 simp [pAt,h]
theorem fst_any {α:Type} (q:α→Bool) (xs:List α):(fstN (pAt q xs) xs.length).isSome = xs.any q:=by
 rcases fst_cases (pAt q xs) xs.length with h | ⟨i,h1,h2,h3⟩
 ·rw [fstN_none h]
  symm
  rw [Option.isSome_none,List.any_eq_false]
  intro x hx
  obtain ⟨j,hj,rfl⟩:=List.mem_iff_getElem.1 hx
  have:=h j hj
  rw [pAt_get hj] at this
  simp [this]
 ·rw [fstN_some h1 h2 h3]
  symm
  rw [Option.isSome_some,List.any_eq_true]
  rw [pAt_get h1] at h3
  exact ⟨_,List.getElem_mem h1,h3⟩
theorem fst_none_iff {p:Nat→Bool} {n:Nat}:fstN p n = none ↔ ∀ j,j < n→p j = false:=by
 constructor
 ·intro h
  rcases fst_cases p n with h' | ⟨i,h1,h2,h3⟩
  ·exact h'
  ·rw [fstN_some h1 h2 h3] at h; cases h
 ·exact fstN_none
theorem take_snoc' {α:Type} {xs:List α} {i:Nat} (h:i < xs.length):xs.take (i + 1) = xs.take i++[xs[i]]:=by
 rw [List.take_add_one,List.getElem?_eq_getElem h]; rfl
def spl (c:UInt8):Str→List Str
 | []=>[[]]
 | b::r=>if b == c then []::spl c r else match spl c r with
  | h::t=>(b::h)::t
  | []=>[[b]]
def hd1 (p:Str):List Str→List Str
 | h::t=>(p++h)::t
 | []=>[p]
end Go.Rf
