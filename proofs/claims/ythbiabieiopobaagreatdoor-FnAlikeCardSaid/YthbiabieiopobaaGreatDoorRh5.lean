/- Loops that look for something; lists without doubles. -/
import Derived.Test.YthbiabieiopobaaGreatDoorRh4
import Derived.Lib.Bytealg
set_option linter.unusedVariables false
set_option linter.unusedSimpArgs false
namespace Go.Rf
open Go
theorem Jy {σ:Type} {f:σ→Option (LO σ)} (st:Nat→σ):∀ (k N:Nat),k≤N→(∀ j,j < k→f (st j) = some (.norm (st (j + 1))))→AB f N (st 0) = AB f (N - k) (st k)
 | 0,N,_,_=>rfl
 | k + 1,N,hk,h=>by
  rw [Jy st k N (by omega) fun j hj=>h j (by omega)]
  obtain ⟨M,hM⟩:∃ M,N - k = M + 1:=⟨N - k - 1,by omega⟩
  rw [hM,show N - (k + 1) = M by omega]
  simp [AB,h k (by omega)]
def isN {σ:Type}:LO σ→Bool
 | .norm _=>true
 | _=>false
theorem GO {σ:Type} {f:σ→Option (LO σ)} {s:σ} {o:LO σ} {N:Nat} (hN:0 < N) (h:f s = some o) (ho:isN o = false):AB f N s = some o:=by
 obtain ⟨M,rfl⟩:∃ M,N = M + 1:=⟨N - 1,by omega⟩
 cases o
 ·simp [isN] at ho
 ·simp [AB,h]
 ·simp [AB,h]
def DY (p:Nat→Bool) (n:Nat):Option Nat:=(List.range n).find? p
theorem Cf {p:Nat→Bool} {n:Nat} (h:∀ j,j < n→p j = false):DY p n = none:=by
 unfold DY
 rw [List.find?_eq_none]
 intro x hx
 rw [List.mem_range] at hx
 simp [h x hx]
theorem Ce {p:Nat→Bool} {n i:Nat} (hi:i < n) (h:∀ j,j < i→p j = false) (hp:p i = true):DY p n = some i:=by
 unfold DY
 obtain ⟨k,rfl⟩:∃ k,n = i + (k + 1):=⟨n - i - 1,by omega⟩
 rw [List.range_add,List.find?_append]
 have h1:(List.range i).find? p = none:=by
  rw [List.find?_eq_none]
  intro x hx
  rw [List.mem_range] at hx
  simp [h x hx]
 rw [h1,List.range_succ_eq_map]
 simp [hp]
theorem Cd (p:Nat→Bool):∀ (n:Nat),(∀ j,j < n→p j = false)∨∃ i,i < n∧(∀ j,j < i→p j = false)∧p i = true
 | 0=>.inl fun j hj=>by omega
 | n + 1=>by
  rcases Cd p n with h | ⟨i,h1,h2,h3⟩
  ·cases hp:p n
   ·exact .inl fun j hj=>by
     by_cases e:j = n
     ·subst e; exact hp
     ·exact h j (by omega)
   ·exact .inr ⟨n,by omega,h,hp⟩
  ·exact .inr ⟨i,by omega,h2,h3⟩
def orF {β:Type} (x:Option Nat) (out:Nat→β) (fin:β):β:=match x with
 | some i=>out i
 | none=>fin
theorem CM {σ:Type} {f:σ→Option (LO σ)} (st:Nat→σ) (n:Nat) (p:Nat→Bool) (out:Nat→LO σ) (fin:LO σ)
  (hs:∀ i,i < n→(∀ j,j < i→p j = false)→p i = false→f (st i) = some (.norm (st (i + 1))))
  (ho:∀ i,i < n→(∀ j,j < i→p j = false)→p i = true→f (st i) = some (out i)∧isN (out i) = false)
  (hf:(∀ j,j < n→p j = false)→f (st n) = some fin∧isN fin = false) {N:Nat} (hN:n < N) {s0:σ} (h0:s0 = st 0) :
  AB f N s0 = some (orF (DY p n) out fin):=by
 subst h0
 rcases Cd p n with h | ⟨i,h1,h2,h3⟩
 ·rw [Cf h,Jy st n N (by omega) fun j hj=>hs j hj (fun k hk=>h k (by omega)) (h j hj)]
  exact GO (by omega) (hf h).1 (hf h).2
 ·rw [Ce h1 h2 h3,Jy st i N (by omega) fun j hj=>hs j (by omega) (fun k hk=>h2 k (by omega)) (h2 j hj)]
  exact GO (by omega) (ho i h1 h2 h3).1 (ho i h1 h2 h3).2
theorem Dk {σ:Type} {f:σ→Option (LO σ)} (st:Nat→σ) (n:Nat) (fin:LO σ)
  (hs:∀ i,i < n→f (st i) = some (.norm (st (i + 1)))) (hf:f (st n) = some fin) (hi:isN fin = false) {N:Nat} (hN:n < N) {s0:σ} (h0:s0 = st 0) :
  AB f N s0 = some fin:=by
 subst h0
 rw [Jy st n N (by omega) hs]
 exact GO (by omega) hf hi
def pAt {α:Type} (q:α→Bool) (xs:List α) (i:Nat):Bool:=(xs[i]?).any q
theorem Em {α:Type} {q:α→Bool} {xs:List α} {i:Nat} (h:i < xs.length):pAt q xs i = q xs[i]:=by
 simp [pAt,h]
theorem Gi {α:Type} (q:α→Bool) (xs:List α):(DY (pAt q xs) xs.length).isSome = xs.any q:=by
 rcases Cd (pAt q xs) xs.length with h | ⟨i,h1,h2,h3⟩
 ·rw [Cf h]
  symm
  rw [Option.isSome_none,List.any_eq_false]
  intro x hx
  obtain ⟨j,hj,rfl⟩:=List.mem_iff_getElem.1 hx
  have:=h j hj
  rw [Em hj] at this
  simp [this]
 ·rw [Ce h1 h2 h3]
  symm
  rw [Option.isSome_some,List.any_eq_true]
  rw [Em h1] at h3
  exact ⟨_,List.getElem_mem h1,h3⟩
theorem Nz {p:Nat→Bool} {n:Nat}:DY p n = none ↔ ∀ j,j < n→p j = false:=by
 constructor
 ·intro h
  rcases Cd p n with h' | ⟨i,h1,h2,h3⟩
  ·exact h'
  ·rw [Ce h1 h2 h3] at h; cases h
 ·exact Cf
theorem Ig {p:Nat→Bool} {n i:Nat}:DY p n = some i ↔ i < n∧(∀ j,j < i→p j = false)∧p i = true:=by
 constructor
 ·intro h
  rcases Cd p n with h' | ⟨i',h1,h2,h3⟩
  ·rw [Cf h'] at h; cases h
  ·rw [Ce h1 h2 h3] at h; injection h with h; subst h; exact ⟨h1,h2,h3⟩
 ·rintro ⟨h1,h2,h3⟩; exact Ce h1 h2 h3
theorem Me:∀ (n:Nat) (xs:List Nat),xs.Nodup→(∀ x∈xs,x < n)→xs.length≤n
 | 0,xs,_,h=>by
  cases xs with
  | nil=>simp
  | cons x r=>have:=h x (by simp); omega
 | n + 1,xs,hn,h=>by
  have h1:=Me n (xs.filter fun x=>decide (x < n)) (hn.filter _) fun x hx=>by simpa using (List.mem_filter.1 hx).2
  have h2:xs.countP (fun x=>decide (x < n)) = (xs.filter fun x=>decide (x < n)).length:=List.countP_eq_length_filter
  have h3:=List.length_eq_countP_add_countP (l:=xs) (fun x=>decide (x < n))
  have h4:xs.countP (fun x=>decide ¬ (decide (x < n) = true))≤xs.count n:=by
   rw [List.count]
   refine List.countP_mono_left fun x hx hp=>?_
   have:=h x hx
   simp at hp
   simp; omega
  have h5:=List.nodup_iff_count.1 hn n
  omega
theorem PT {n:Nat} {xs:List Int} (hn:xs.Nodup) (h:∀ x∈xs,0≤x∧x < n):xs.length≤n:=by
 have:=Me n (xs.map Int.toNat) (by
  rw [List.Nodup,List.pairwise_map]
  refine hn.imp_of_mem fun {a b} ha hb hab e=>hab ?_
  have:=h a ha; have:=h b hb; omega) (fun x hx=>by
  obtain ⟨y,hy,rfl⟩:=List.mem_map.1 hx
  have:=h y hy; omega)
 simpa using this
theorem ER {α:Type} {xs:List α} {i:Nat} (h:i < xs.length):xs.take (i + 1) = xs.take i++[xs[i]]:=by
 rw [List.take_add_one,List.getElem?_eq_getElem h]; rfl
theorem Ze {b:Bool} {α:Type} {x y:α}:(bif b then x else y) = if b = true then x else y:=by cases b <;> rfl
def spl (c:UInt8):Str→List Str
 | []=>[[]]
 | b::r=>if b == c then []::spl c r else match spl c r with
  | h::t=>(b::h)::t
  | []=>[[b]]
def hd1 (p:Str):List Str→List Str
 | h::t=>(p++h)::t
 | []=>[p]
end Go.Rf
