/- Loops that look for something; lists without doubles. -/
import Derived.Test.YtjlecnhninhmnaaGreatDoorRh4
import Derived.Lib.Bytealg
set_option linter.unusedVariables false
set_option linter.unusedSimpArgs false
namespace Go.Rf
open Go
theorem Kv {σ:Type} {f:σ→Option (LO σ)} (st:Nat→σ):∀ (k N:Nat),k≤N→(∀ j,j < k→f (st j) = some (.norm (st (j + 1))))→Ax f N (st 0) = Ax f (N - k) (st k)
 | 0,N,_,_=>rfl
 | k + 1,N,hk,h=>by
  rw [Kv st k N (by omega) fun j hj=>h j (by omega)]
  obtain ⟨M,hM⟩:∃ M,N - k = M + 1:=⟨N - k - 1,by omega⟩
  rw [hM,show N - (k + 1) = M by omega]
  simp [Ax,h k (by omega)]
def isN {σ:Type}:LO σ→Bool
 | .norm _=>true
 | _=>false
theorem FY {σ:Type} {f:σ→Option (LO σ)} {s:σ} {o:LO σ} {N:Nat} (hN:0 < N) (h:f s = some o) (ho:isN o = false):Ax f N s = some o:=by
 obtain ⟨M,rfl⟩:∃ M,N = M + 1:=⟨N - 1,by omega⟩
 cases o
 ·simp [isN] at ho
 ·simp [Ax,h]
 ·simp [Ax,h]
def BQ (p:Nat→Bool) (n:Nat):Option Nat:=(List.range n).find? p
theorem BO {p:Nat→Bool} {n:Nat} (h:∀ j,j < n→p j = false):BQ p n = none:=by
 unfold BQ
 rw [List.find?_eq_none]
 intro x hx
 rw [List.mem_range] at hx
 simp [h x hx]
theorem Bt {p:Nat→Bool} {n i:Nat} (hi:i < n) (h:∀ j,j < i→p j = false) (hp:p i = true):BQ p n = some i:=by
 unfold BQ
 obtain ⟨k,rfl⟩:∃ k,n = i + (k + 1):=⟨n - i - 1,by omega⟩
 rw [List.range_add,List.find?_append]
 have h1:(List.range i).find? p = none:=by
  rw [List.find?_eq_none]
  intro x hx
  rw [List.mem_range] at hx
  simp [h x hx]
 rw [h1,List.range_succ_eq_map]
 simp [hp]
theorem BC (p:Nat→Bool):∀ (n:Nat),(∀ j,j < n→p j = false)∨∃ i,i < n∧(∀ j,j < i→p j = false)∧p i = true
 | 0=>.inl fun j hj=>by omega
 | n + 1=>by
  rcases BC p n with h | ⟨i,h1,h2,h3⟩
  ·cases hp:p n
   ·exact .inl fun j hj=>by
     by_cases e:j = n
     ·subst e; exact hp
     ·exact h j (by omega)
   ·exact .inr ⟨n,by omega,h,hp⟩
  ·exact .inr ⟨i,by omega,h2,h3⟩
def orF {β:Type} (x:Option Nat) (out:Nat→β) (fin:β):β:=match x with
 | some i=>out i
 | none=>fin
theorem AI {σ:Type} {f:σ→Option (LO σ)} (st:Nat→σ) (n:Nat) (p:Nat→Bool) (out:Nat→LO σ) (fin:LO σ)
  (hs:∀ i,i < n→(∀ j,j < i→p j = false)→p i = false→f (st i) = some (.norm (st (i + 1))))
  (ho:∀ i,i < n→(∀ j,j < i→p j = false)→p i = true→f (st i) = some (out i)∧isN (out i) = false)
  (hf:(∀ j,j < n→p j = false)→f (st n) = some fin∧isN fin = false) {N:Nat} (hN:n < N) {s0:σ} (h0:s0 = st 0) :
  Ax f N s0 = some (orF (BQ p n) out fin):=by
 subst h0
 rcases BC p n with h | ⟨i,h1,h2,h3⟩
 ·rw [BO h,Kv st n N (by omega) fun j hj=>hs j hj (fun k hk=>h k (by omega)) (h j hj)]
  exact FY (by omega) (hf h).1 (hf h).2
 ·rw [Bt h1 h2 h3,Kv st i N (by omega) fun j hj=>hs j (by omega) (fun k hk=>h2 k (by omega)) (h2 j hj)]
  exact FY (by omega) (ho i h1 h2 h3).1 (ho i h1 h2 h3).2
theorem Di {σ:Type} {f:σ→Option (LO σ)} (st:Nat→σ) (n:Nat) (fin:LO σ)
  (hs:∀ i,i < n→f (st i) = some (.norm (st (i + 1)))) (hf:f (st n) = some fin) (hi:isN fin = false) {N:Nat} (hN:n < N) {s0:σ} (h0:s0 = st 0) :
  Ax f N s0 = some fin:=by
 subst h0
 rw [Kv st n N (by omega) hs]
 exact FY (by omega) hf hi
def pAt {α:Type} (q:α→Bool) (xs:List α) (i:Nat):Bool:=(xs[i]?).any q
theorem AU {α:Type} {q:α→Bool} {xs:List α} {i:Nat} (h:i < xs.length):pAt q xs i = q xs[i]:=by
 simp [pAt,h]
theorem C9 {α:Type} (q:α→Bool) (xs:List α):(BQ (pAt q xs) xs.length).isSome = xs.any q:=by
 rcases BC (pAt q xs) xs.length with h | ⟨i,h1,h2,h3⟩
 ·rw [BO h]
  symm
  rw [Option.isSome_none,List.any_eq_false]
  intro x hx
  obtain ⟨j,hj,rfl⟩:=List.mem_iff_getElem.1 hx
  have:=h j hj
  rw [AU hj] at this
  simp [this]
 ·rw [Bt h1 h2 h3]
  symm
  rw [Option.isSome_some,List.any_eq_true]
  rw [AU h1] at h3
  exact ⟨_,List.getElem_mem h1,h3⟩
theorem IP {p:Nat→Bool} {n:Nat}:BQ p n = none ↔ ∀ j,j < n→p j = false:=by
 constructor
 ·intro h
  rcases BC p n with h' | ⟨i,h1,h2,h3⟩
  ·exact h'
  ·rw [Bt h1 h2 h3] at h; cases h
 ·exact BO
theorem Oj {p:Nat→Bool} {n i:Nat}:BQ p n = some i ↔ i < n∧(∀ j,j < i→p j = false)∧p i = true:=by
 constructor
 ·intro h
  rcases BC p n with h' | ⟨i',h1,h2,h3⟩
  ·rw [BO h'] at h; cases h
  ·rw [Bt h1 h2 h3] at h; injection h with h; subst h; exact ⟨h1,h2,h3⟩
 ·rintro ⟨h1,h2,h3⟩; exact Bt h1 h2 h3
theorem Ne:∀ (n:Nat) (xs:List Nat),xs.Nodup→(∀ x∈xs,x < n)→xs.length≤n
 | 0,xs,_,h=>by
  cases xs with
  | nil=>simp
  | cons x r=>have:=h x (by simp); omega
 | n + 1,xs,hn,h=>by
  have h1:=Ne n (xs.filter fun x=>decide (x < n)) (hn.filter _) fun x hx=>by simpa using (List.mem_filter.1 hx).2
  have h2:xs.countP (fun x=>decide (x < n)) = (xs.filter fun x=>decide (x < n)).length:=List.countP_eq_length_filter
  have h3:=List.length_eq_countP_add_countP (l:=xs) (fun x=>decide (x < n))
  have h4:xs.countP (fun x=>decide ¬ (decide (x < n) = true))≤xs.count n:=by
   rw [List.count]
   refine List.countP_mono_left fun x hx hp=>?_
   have:=h x hx
   simp at hp
   simp; omega
  have h5:=List.nodup_iff_count.1 hn n
  omega
theorem QH {n:Nat} {xs:List Int} (hn:xs.Nodup) (h:∀ x∈xs,0≤x∧x < n):xs.length≤n:=by
 have:=Ne n (xs.map Int.toNat) (by
  rw [List.Nodup,List.pairwise_map]
  refine hn.imp_of_mem fun {a b} ha hb hab e=>hab ?_
  have:=h a ha; have:=h b hb; omega) (fun x hx=>by
  obtain ⟨y,hy,rfl⟩:=List.mem_map.1 hx
  have:=h y hy; omega)
 simpa using this
theorem EA {α:Type} {xs:List α} {i:Nat} (h:i < xs.length):xs.take (i + 1) = xs.take i++[xs[i]]:=by
 rw [List.take_add_one,List.getElem?_eq_getElem h]; rfl
theorem ZM {b:Bool} {α:Type} {x y:α}:(bif b then x else y) = if b = true then x else y:=by cases b <;> rfl
def spl (c:UInt8):Str→List Str
 | []=>[[]]
 | b::r=>if b == c then []::spl c r else match spl c r with
  | h::t=>(b::h)::t
  | []=>[[b]]
theorem Qy (c:UInt8):∀ s:Str,spl c s≠[]
 | []=>by simp [spl]
 | b::r=>by
  unfold spl
  split
  ·simp
  ·split <;> simp
theorem Is (c:UInt8) (s:Str):∃ h t,spl c s = h::t:=by
 cases e:spl c s with
 | nil=>exact absurd e (Qy c s)
 | cons h t=>exact ⟨h,t,rfl⟩
theorem JV (c:UInt8):∀ s:Str,(spl c s).length = Lib.countByte s c + 1
 | []=>rfl
 | b::r=>by
  have ih:=JV c r
  unfold spl Lib.countByte
  rw [List.count_cons]
  by_cases e:(b == c) = true
  ·rw [if_pos e,if_pos e,List.length_cons,ih]; rfl
  ·rw [if_neg e,if_neg e]
   obtain ⟨h,t,e2⟩:=Is c r
   rw [e2] at ih ⊢
   simpa [Lib.countByte] using ih
theorem H9 (c:UInt8):∀ s:Str,Lib.indexByte s c = -1∨∃ m:Nat,Lib.indexByte s c = m
 | []=>.inl rfl
 | b::r=>by
  unfold Lib.indexByte
  by_cases e:(b == c) = true
  ·rw [if_pos e]; exact .inr ⟨0,rfl⟩
  ·rw [if_neg e]
   rcases H9 c r with h | ⟨m,h⟩
   ·rw [h]; exact .inl rfl
   ·rw [h]
    exact .inr ⟨m + 1,by rw [if_neg (by simp)]; omega⟩
theorem LL (c:UInt8):∀ s:Str,Lib.indexByte s c = -1 ↔ Lib.countByte s c = 0
 | []=>by simp [Lib.indexByte,Lib.countByte]
 | b::r=>by
  have ih:=LL c r
  unfold Lib.indexByte Lib.countByte
  rw [List.count_cons]
  by_cases e:(b == c) = true
  ·rw [if_pos e,if_pos e]; constructor
   ·intro h; cases h
   ·intro h; omega
  ·rw [if_neg e,if_neg e]
   unfold Lib.countByte at ih
   rcases H9 c r with h | ⟨m,h⟩
   ·rw [h] at ih ⊢
    simpa using ih
   ·rw [h] at ih ⊢
    rw [if_neg (by simp)]
    constructor
    ·intro h'; omega
    ·intro h'; have:=ih.2 (by omega); omega
theorem OF (c:UInt8):∀ s:Str,Lib.countByte s c = 0→spl c s = [s]
 | [],_=>rfl
 | b::r,h=>by
  unfold Lib.countByte at h
  rw [List.count_cons] at h
  by_cases e:(b == c) = true
  ·rw [if_pos e] at h; omega
  ·unfold spl
   rw [if_neg e,OF c r (by unfold Lib.countByte; omega)]
theorem Vk (c:UInt8):∀ (s:Str) (m:Nat),Lib.indexByte s c = m→m < s.length∧spl c s = s.take m::spl c (s.drop (m + 1))∧Lib.countByte s c = Lib.countByte (s.drop (m + 1)) c + 1
 | [],m,h=>by simp [Lib.indexByte] at h
 | b::r,m,h=>by
  unfold Lib.indexByte at h
  by_cases e:(b == c) = true
  ·rw [if_pos e] at h
   have:m = 0:=by omega
   subst this
   refine ⟨by simp,?_,?_⟩
   ·rw [spl,if_pos e]; simp
   ·unfold Lib.countByte; rw [List.count_cons,if_pos e]; rfl
  ·rw [if_neg e] at h
   rcases H9 c r with h' | ⟨k,h'⟩
   ·rw [h'] at h; simp at h
   ·rw [h',if_neg (by simp)] at h
    have:m = k + 1:=by omega
    subst this
    obtain ⟨a1,a2,a3⟩:=Vk c r k h'
    refine ⟨by simpa using a1,?_,?_⟩
    ·rw [spl,if_neg e,a2]; simp
    ·unfold Lib.countByte at a3 ⊢; rw [List.count_cons,if_neg e]; simpa using a3
def hd1 (p:Str):List Str→List Str
 | h::t=>(p++h)::t
 | []=>[p]
theorem Zw {c b:UInt8} {r p:Str} (h:(b == c) = false):hd1 p (spl c (b::r)) = hd1 (p++[b]) (spl c r):=by
 rw [spl,if_neg (by simp [h])]
 obtain ⟨x,t,e⟩:=Is c r
 rw [e]; simp [hd1]
theorem Zx {c b:UInt8} {r p:Str} (h:(b == c) = true):hd1 p (spl c (b::r)) = p::spl c r:=by
 rw [spl,if_pos h]; simp [hd1]
theorem SR (l:List Str) (h:l≠[]):hd1 [] l = l:=by
 cases l
 ·exact absurd rfl h
 ·simp [hd1]
end Go.Rf
