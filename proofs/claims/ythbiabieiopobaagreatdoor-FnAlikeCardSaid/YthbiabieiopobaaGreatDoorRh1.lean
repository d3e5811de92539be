/- Loops by what U2; lists of numbers in ranges. -/
import Derived.Test.YthbiabieiopobaaGreatDoorRg2
set_option linter.unusedVariables false
set_option linter.unusedSimpArgs false
namespace Go.Rf
open Go
theorem KI {σ:Type} {f:σ→Option (LO σ)} (Inv:σ→Prop) (μ:σ→Nat) (ED:LO σ→Prop)
  (h:∀ s,Inv s→(∃ s',f s = some (.norm s')∧Inv s'∧μ s' < μ s)∨(∃ i s',f s = some (.exit i s')∧ED (.exit i s'))∨(∃ s',f s = some (.ret s')∧ED (.ret s'))) :
  ∀ (n:Nat) (s:σ),Inv s→μ s < n→∃ o,AB f n s = some o∧ED o
 | 0,s,_,hn=>by omega
 | n + 1,s,hi,hn=>by
  rcases h s hi with ⟨s',h1,h2,h3⟩ | ⟨i,s',h1,h2⟩ | ⟨s',h1,h2⟩
  ·obtain ⟨o,k1,k2⟩:=KI Inv μ ED h n s' h2 (by omega)
   exact ⟨o,by simp [AB,h1,k1],k2⟩
  ·exact ⟨_,by simp [AB,h1],h2⟩
  ·exact ⟨_,by simp [AB,h1],h2⟩
theorem KJ {σ:Type} {f:σ→Option (LO σ)} (Inv:σ→Prop) (μ:σ→Nat) (ED:σ→Prop) (e:Nat)
  (h:∀ s,Inv s→(∃ s',f s = some (.norm s')∧Inv s'∧μ s' < μ s)∨(∃ s',f s = some (.exit e s')∧ED s')) (n:Nat) (s:σ) (hi:Inv s) (hn:μ s < n):∃ s',AB f n s = some (.exit e s')∧ED s':=by
 obtain ⟨o,h1,s',h2,h3⟩:=KI Inv μ (fun o=>∃ s',o = .exit e s'∧ED s') (fun s hs=>(h s hs).imp id fun ⟨s',a,b⟩=>.inl ⟨e,s',a,s',rfl,b⟩) n s hi hn
 subst h2
 exact ⟨s',h1,h3⟩
theorem DV {x:Int} (h1:-9223372036854775808≤x) (h2:x≤9223372036854775807):wi .i64 x = x:=w64 h1 h2
def A (xs:List Int) (i:Nat):Int:=xs.getD i 0
theorem O4 {xs:List Int} {i:Nat} (h:i < xs.length):Av xs (i:Int) = some (A xs i):=by
 simp [Av,A,h]
theorem MN {xs:List Int} {i j:Nat} {v:Int} (h:i < xs.length):A (xs.set i v) j = if j = i then v else A xs j:=by
 unfold A
 rw [List.getD_eq_getElem?_getD,List.getD_eq_getElem?_getD,List.getElem?_set]
 by_cases e:i = j
 ·subst e; simp [h]
 ·rw [if_neg e,if_neg (fun q=>e q.symm)]
def sw (xs:List Int) (i j:Nat):List Int:=(xs.set i (A xs j)).set j (A xs i)
theorem cC {xs:List Int} {i j:Nat}:(sw xs i j).length = xs.length:=by simp [sw]
theorem f8 {xs:List Int} {i j k:Nat} (hi:i < xs.length) (hj:j < xs.length):A (sw xs i j) k = if k = j then A xs i else if k = i then A xs j else A xs k:=by
 unfold sw
 rw [MN (by simpa using hj),MN hi]
theorem La {xs:List Int} {i:Nat} {v b:Int} (h:i < xs.length):(xs.set i v).count b + (if A xs i = b then 1 else 0) = xs.count b + (if v = b then 1 else 0):=by
 induction xs generalizing i with
 | nil=>simp at h
 | cons x r ih=>
  cases i with
  | zero=>
   simp only [List.set_cons_zero,List.count_cons,A,List.getD_cons_zero,beq_iff_eq]
   omega
  | succ i=>
   have:=ih (i:=i) (by simpa using h)
   have e:A (x::r) (i + 1) = A r i:=by simp [A]
   rw [e,List.set_cons_succ,List.count_cons,List.count_cons]
   by_cases h1:A r i = b
   ·rw [if_pos h1] at this ⊢; omega
   ·rw [if_neg h1] at this ⊢; omega
theorem XU {xs:List Int} {i j:Nat} (hi:i < xs.length) (hj:j < xs.length):(sw xs i j).Perm xs:=by
 rw [List.perm_iff_count]
 intro b
 have h1:=La (xs:=xs) (v:=A xs j) (b:=b) hi
 have h2:=La (xs:=xs.set i (A xs j)) (i:=j) (v:=A xs i) (b:=b) (by simpa using hj)
 rw [MN hi] at h2
 unfold sw
 by_cases e:j = i
 ·subst e; simp only [if_true] at h2; omega
 ·rw [if_neg e] at h2; omega
structure RP (xs ys:List Int) (a b:Nat):Prop where
 len:ys.length = xs.length
 out:∀ k,(k < a∨b≤k)→A ys k = A xs k
 perm:ys.Perm xs
theorem RP.refl (xs:List Int) (a b:Nat):RP xs xs a b:=⟨rfl,fun _ _=>rfl,.refl _⟩
theorem RP.trans {xs ys zs:List Int} {a b:Nat} (h:RP xs ys a b) (k:RP ys zs a b):RP xs zs a b:=⟨k.len.trans h.len,fun i hi=>(k.out i hi).trans (h.out i hi),k.perm.trans h.perm⟩
theorem RP.mono {xs ys:List Int} {a b a' b':Nat} (h:RP xs ys a b) (ha:a'≤a) (hb:b≤b'):RP xs ys a' b':=⟨h.len,fun i hi=>h.out i (by omega),h.perm⟩
theorem RP.sw {xs:List Int} {i j a b:Nat} (hi:a≤i∧i < b) (hj:a≤j∧j < b) (hb:b≤xs.length):RP xs (Go.Rf.sw xs i j) a b:=
 ⟨cC,fun k hk=>by rw [f8 (by omega) (by omega),if_neg (by omega),if_neg (by omega)],XU (by omega) (by omega)⟩
theorem EK {xs:List Int} {k:Nat} (h:k < xs.length):A xs k = xs[k]:=by simp [A,h]
theorem RP.all {xs ys:List Int} {a b:Nat} (h:RP xs ys a b) (hb:b≤xs.length) {p:Int→Prop} (hp:∀ k,a≤k→k < b→p (A xs k)):∀ k,a≤k→k < b→p (A ys k):=by
 intro k hk hkb
 have e1:ys.take a = xs.take a:=by
  apply List.ext_getElem (by simp [h.len])
  intro i h1 h2
  simp only [List.length_take] at h1 h2
  have:=h.out i (.inl (by omega))
  rw [EK (by omega),EK (by omega)] at this
  simpa using this
 have e2:ys.drop b = xs.drop b:=by
  apply List.ext_getElem (by simp [h.len])
  intro i h1 h2
  simp only [List.length_drop] at h1 h2
  have:=h.out (b + i) (.inr (by omega))
  rw [EK (by omega),EK (by omega)] at this
  simpa using this
 have s:∀ zs:List Int,b≤zs.length→zs = zs.take a++((zs.drop a).take (b - a)++zs.drop b):=by
  intro zs hz
  have:zs.drop b = (zs.drop a).drop (b - a):=by rw [List.drop_drop]; congr 1; omega
  rw [this,List.take_append_drop,List.take_append_drop]
 have hpm:=h.perm
 rw [s ys (by rw [h.len]; exact hb),s xs hb,e1,e2] at hpm
 have hm:=(List.perm_append_right_iff _).1 ((List.perm_append_left_iff _).1 hpm)
 have hin:A ys k∈(ys.drop a).take (b - a):=by
  rw [EK (by rw [h.len]; omega)]
  refine List.mem_iff_getElem.2 ⟨k - a,by simp [h.len]; omega,?_⟩
  simp only [List.getElem_take,List.getElem_drop]
  congr 1; omega
 obtain ⟨i,hi,he⟩:=List.mem_iff_getElem.1 (hm.subset hin)
 simp only [List.length_take,List.length_drop] at hi
 simp only [List.getElem_take,List.getElem_drop] at he
 rw [← he,← EK]
 exact hp (a + i) (by omega) (by omega)
def SO (xs:List Int) (a b:Nat):Prop:=∀ i j,a≤i→i < j→j < b→A xs i≤A xs j
end Go.Rf
