/- Trees of one's own memory: data whose slices, at any depth, are one's own. -/
import Derived.Test.YthbiabieiopobaaGreatDoorRh6
set_option linter.unusedVariables false
set_option linter.unusedSimpArgs false
namespace Go.Rf
open Go
theorem LJ {d:Nat} {a:AV} (h:AC a = true):shv d (Bi a) = a:=by
 cases a <;> simp [AC] at h <;> rfl
theorem Ww {a:AV} (h:AC a = true):lt a = false:=by
 cases a <;> simp [AC] at h <;> rfl
def B0 {α:Type} (ow:List Nat→List AV→α→Prop):List (List AV)→List α→List (List Nat)→Prop
 | [],[],[]=>True
 | e::es,x::xs,i::is=>ow i e x∧B0 ow es xs is
 | _,_,_=>False
class Tr (α:Type) [e:Enc α] where
 ow:St→List Nat→List AV→α→Prop
 len:∀ {S:St} {ids:List Nat} {cs:List AV} {x:α},ow S ids cs x→cs.length = e.sz
 st:∀ {S S':St} {ids:List Nat} {cs:List AV} {x:α},(∀ i∈ids,S'[i]? = S[i]?)→ow S ids cs x→ow S' ids cs x
 lt:∀ {S:St} {ids:List Nat} {cs:List AV} {x:α},ow S ids cs x→∀ i∈ids,i < S.length
 nd:∀ {S:St} {ids:List Nat} {cs:List AV} {x:α},ow S ids cs x→ids.Nodup
 fz:∀ {S:St} {ids:List Nat} {cs:List AV} {x:α},ow S ids cs x→∀ (brw:Bool) (k j:Nat) (l:Bool),e.dp < k→e.dp < j→(cs.map (frz brw S k)).map (nrm l j) = e.cs l x
 ld:∀ {S:St} {ids:List Nat} {cs:List AV} {x:α},ow S ids cs x→∀ (k j:Nat),e.dp < k→e.dp < j→(cs.map (frz false S k)).any (ltD j) = false
 l0:∀ {S:St} {ids:List Nat} {cs:List AV} {x:α},ow S ids cs x→∀ (k:Nat),e.dp < k→(cs.map (frz false S k)).any Go.Rf.lt = false
 sh:∀ {S:St} {ids:List Nat} {cs:List AV} {x:α},ow S ids cs x→∀ S0:St,ow (S0++S.map (shB S0.length)) (ids.map (· + S0.length)) (cs.map fun a=>shv S0.length (Bi a)) x
@[reducible] def Tr.leaf {α:Type} [e:Enc α] (h:∀ l x,(e.cs l x).all AC = true) (hc:∀ l x,e.cs l x = e.cs false x):Tr α where
 ow _ ids cs x:=ids = []∧cs = e.cs false x
 len h:=by rw [h.2]; exact e.len _ _
 st _ h:=h
 lt h i hi:=by rw [h.1] at hi; cases hi
 nd h:=by rw [h.1]; exact List.nodup_nil
 fz {S ids cs x} hh brw k j l hk hj:=by
  rw [hh.2,e.frz _ _ _ _ _ (by omega),e.nrm _ _ _ _ hj]
 ld {S ids cs x} hh k j hk hj:=by
  rw [hh.2,e.frz _ _ _ _ _ (by omega),e.ltd _ _ hj]
 l0 {S ids cs x} hh k hk:=by
  rw [hh.2,e.frz _ _ _ _ _ (by omega),List.any_eq_false]
  intro a ha
  simp [Ww (List.all_eq_true.1 (h false x) a ha)]
 sh {S ids cs x} hh S0:=by
  refine ⟨by rw [hh.1]; rfl,?_⟩
  rw [hh.2]
  have:∀ a∈e.cs false x,shv S0.length (Bi a) = a:=fun a ha=>LJ (List.all_eq_true.1 (h false x) a ha)
  calc _ = (e.cs false x).map id:=List.map_congr_left this
   _ = _:=by simp
instance trInt:Tr Int:=Tr.leaf (fun _ _=>rfl) (fun _ _=>rfl)
instance trBool:Tr Bool:=Tr.leaf (fun _ _=>rfl) (fun _ _=>rfl)
instance trStr:Tr Str:=Tr.leaf (fun _ _=>rfl) (fun _ _=>rfl)
instance trUnit:Tr Unit:=Tr.leaf (fun _ _=>rfl) (fun _ _=>rfl)
instance trProd {α β:Type} [ea:Enc α] [eb:Enc β] [a:Tr α] [b:Tr β]:Tr (α×β) where
 ow S ids cs x:=∃ i1 i2 c1 c2,ids = i1++i2∧ids.Nodup∧cs = c1++c2∧a.ow S i1 c1 x.1∧b.ow S i2 c2 x.2
 len:=by
  rintro S ids cs x ⟨i1,i2,c1,c2,rfl,_,rfl,h1,h2⟩
  rw [List.length_append,a.len h1,b.len h2]; rfl
 st:=by
  rintro S S' ids cs x hS ⟨i1,i2,c1,c2,rfl,hn,rfl,h1,h2⟩
  exact ⟨i1,i2,c1,c2,rfl,hn,rfl,a.st (fun i hi=>hS i (List.mem_append_left _ hi)) h1,b.st (fun i hi=>hS i (List.mem_append_right _ hi)) h2⟩
 lt:=by
  rintro S ids cs x ⟨i1,i2,c1,c2,rfl,hn,rfl,h1,h2⟩ i hi
  rcases List.mem_append.1 hi with hi | hi
  ·exact a.lt h1 i hi
  ·exact b.lt h2 i hi
 nd:=by
  rintro S ids cs x ⟨i1,i2,c1,c2,rfl,hn,rfl,h1,h2⟩
  exact hn
 fz:=by
  rintro S ids cs x ⟨i1,i2,c1,c2,rfl,hn,rfl,h1,h2⟩ brw k j l hk hj
  have hk':max ea.dp eb.dp < k:=hk
  have hj':max ea.dp eb.dp < j:=hj
  rw [List.map_append,List.map_append,a.fz h1 brw k j l (by omega) (by omega),b.fz h2 brw k j l (by omega) (by omega)]; rfl
 ld:=by
  rintro S ids cs x ⟨i1,i2,c1,c2,rfl,hn,rfl,h1,h2⟩ k j hk hj
  have hk':max ea.dp eb.dp < k:=hk
  have hj':max ea.dp eb.dp < j:=hj
  rw [List.map_append,List.any_append,a.ld h1 k j (by omega) (by omega),b.ld h2 k j (by omega) (by omega)]; rfl
 l0:=by
  rintro S ids cs x ⟨i1,i2,c1,c2,rfl,hn,rfl,h1,h2⟩ k hk
  have hk':max ea.dp eb.dp < k:=hk
  rw [List.map_append,List.any_append,a.l0 h1 k (by omega),b.l0 h2 k (by omega)]; rfl
 sh:=by
  rintro S ids cs x ⟨i1,i2,c1,c2,rfl,hn,rfl,h1,h2⟩ S0
  refine ⟨_,_,_,_,List.map_append,?_,List.map_append,a.sh h1 S0,b.sh h2 S0⟩
  rw [List.Nodup,List.pairwise_map]
  exact hn.imp fun h=>by omega
@[reducible] def Tr.of {α β:Type} [ea:Enc α] [eb:Enc β] [b:Tr β] (f:α→β) (hc:∀ l x,ea.cs l x = eb.cs l (f x)) (hs:ea.sz = eb.sz) (hd:ea.dp = eb.dp):Tr α where
 ow S ids cs x:=b.ow S ids cs (f x)
 len h:=by rw [hs]; exact b.len h
 st hS h:=b.st hS h
 lt h:=b.lt h
 nd h:=b.nd h
 fz h brw k j l hk hj:=by rw [hc]; exact b.fz h brw k j l (by omega) (by omega)
 ld h k j hk hj:=b.ld h k j (by omega) (by omega)
 l0 h k hk:=b.l0 h k (by omega)
 sh h S0:=b.sh h S0
section
variable {α:Type} {ow ow':List Nat→List AV→α→Prop}
theorem B0.len:∀ {es:List (List AV)} {xs:List α} {is:List (List Nat)},B0 ow es xs is→es.length = xs.length∧is.length = xs.length
 | [],[],[],_=>⟨rfl,rfl⟩
 | e::es,x::xs,i::is,h=>by
  have:=B0.len h.2
  simp [this.1,this.2]
theorem B0.mono (hm:∀ i e x,ow i e x→ow' i e x):∀ {es:List (List AV)} {xs:List α} {is:List (List Nat)},B0 ow es xs is→B0 ow' es xs is
 | [],[],[],_=>trivial
 | e::es,x::xs,i::is,h=>⟨hm _ _ _ h.1,B0.mono hm h.2⟩
theorem B0.monoS:∀ {es:List (List AV)} {xs:List α} {is:List (List Nat)},(∀ i e x,i∈is→ow i e x→ow' i e x)→B0 ow es xs is→B0 ow' es xs is
 | [],[],[],_,_=>trivial
 | e::es,x::xs,i::is,hm,h=>⟨hm _ _ _ (by simp) h.1,B0.monoS (fun j e x hj=>hm j e x (by simp [hj])) h.2⟩
theorem B0.map (f:Nat→Nat) (g:AV→AV) (hm:∀ i e x,ow i e x→ow' (i.map f) (e.map g) x):∀ {es:List (List AV)} {xs:List α} {is:List (List Nat)},B0 ow es xs is→B0 ow' (es.map (·.map g)) xs (is.map (·.map f))
 | [],[],[],_=>trivial
 | e::es,x::xs,i::is,h=>⟨hm _ _ _ h.1,B0.map f g hm h.2⟩
theorem B0.get:∀ {es:List (List AV)} {xs:List α} {is:List (List Nat)},B0 ow es xs is→∀ (j:Nat) {x:α},xs[j]? = some x→∃ e i,es[j]? = some e∧is[j]? = some i∧ow i e x
 | [],[],[],_,j,x,h=>by simp at h
 | e::es,y::xs,i::is,h,0,x,hx=>by
  simp at hx; subst hx
  exact ⟨e,i,rfl,rfl,h.1⟩
 | e::es,y::xs,i::is,h,j + 1,x,hx=>by
  simp at hx
  obtain ⟨e',i',h1,h2,h3⟩:=B0.get h.2 j hx
  exact ⟨e',i',by simpa using h1,by simpa using h2,h3⟩
theorem B0.set:∀ {es:List (List AV)} {xs:List α} {is:List (List Nat)},B0 ow es xs is→∀ (j:Nat) {e':List AV} {x':α} {i':List Nat},ow i' e' x'→B0 ow (es.set j e') (xs.set j x') (is.set j i')
 | [],[],[],_,j,_,_,_,_=>by simp [B0]
 | e::es,y::xs,i::is,h,0,_,_,_,hx=>⟨hx,h.2⟩
 | e::es,y::xs,i::is,h,j + 1,_,_,_,hx=>⟨h.1,B0.set h.2 j hx⟩
theorem B0.build:∀ {es:List (List AV)} {xs:List α} {is:List (List Nat)},es.length = xs.length→is.length = xs.length→(∀ (q:Nat) (z:α),xs[q]? = some z→∃ c i,es[q]? = some c∧is[q]? = some i∧ow i c z)→B0 ow es xs is
 | [],[],[],_,_,_=>trivial
 | c::es,x::xs,i::is,h1,h2,h=>by
  obtain ⟨c',i',e1,e2,e3⟩:=h 0 x rfl
  simp at e1 e2
  subst e1; subst e2
  exact ⟨e3,B0.build (by simpa using h1) (by simpa using h2) fun q z hz=>by
   obtain ⟨c',i',e1,e2,e3⟩:=h (q + 1) z (by simpa using hz)
   exact ⟨c',i',by simpa using e1,by simpa using e2,e3⟩⟩
theorem B0.snoc:∀ {es:List (List AV)} {xs:List α} {is:List (List Nat)},B0 ow es xs is→∀ {e':List AV} {x':α} {i':List Nat},ow i' e' x'→B0 ow (es++[e']) (xs++[x']) (is++[i'])
 | [],[],[],_,_,_,_,hx=>⟨hx,trivial⟩
 | e::es,y::xs,i::is,h,_,_,_,hx=>⟨h.1,B0.snoc h.2 hx⟩
end
theorem QM {α:Type} [e:Enc α] [t:Tr α] {S:St} {brw l:Bool} {k j:Nat} (hk:e.dp < k) (hj:e.dp < j):∀ {es:List (List AV)} {xs:List α} {is:List (List Nat)},B0 (t.ow S) es xs is→(es.map (·.map (frz brw S k))).map (·.map (nrm l j)) = xs.map (e.cs l)
 | [],[],[],_=>rfl
 | c::es,x::xs,i::is,h=>by
  simp only [List.map_cons]
  rw [t.fz h.1 brw k j l hk hj,QM hk hj h.2]
theorem QL {α:Type} [e:Enc α] [t:Tr α] {S:St} {k j:Nat} (hk:e.dp < k) (hj:e.dp < j):∀ {es:List (List AV)} {xs:List α} {is:List (List Nat)},B0 (t.ow S) es xs is→(es.map (·.map (frz false S k))).any (·.any (ltD j)) = false
 | [],[],[],_=>rfl
 | c::es,x::xs,i::is,h=>by
  simp only [List.map_cons,List.any_cons]
  rw [t.ld h.1 k j hk hj,QL hk hj h.2]; rfl
theorem MW {α:Type} [e:Enc α] [t:Tr α] {S:St} {k:Nat} (hk:e.dp < k):∀ {es:List (List AV)} {xs:List α} {is:List (List Nat)},B0 (t.ow S) es xs is→(es.map (·.map (frz false S k))).any (·.any lt) = false
 | [],[],[],_=>rfl
 | c::es,x::xs,i::is,h=>by
  simp only [List.map_cons,List.any_cons]
  rw [t.l0 h.1 k hk,MW hk h.2]; rfl
theorem GL {brw:Bool} {S:St} {k:Nat} (hk:0 < k) {es:List (List AV)} (h:es.all (·.all AC) = true):es.map (·.map (frz brw S k)) = es:=by
 have:∀ c∈es,c.map (frz brw S k) = c:=fun c hc=>by
  have h1:=List.all_eq_true.1 h c hc
  have:∀ a∈c,frz brw S k a = a:=fun a ha=>E7 (List.all_eq_true.1 h1 a ha) hk
  calc _ = c.map id:=List.map_congr_left this
   _ = _:=by simp
 calc _ = es.map id:=List.map_congr_left this
  _ = _:=by simp
theorem LS {d:Nat} {es:List (List AV)} (h:es.all (·.all AC) = true):es.map (·.map fun a=>shv d (Bi a)) = es:=by
 have:∀ c∈es,(c.map fun a=>shv d (Bi a)) = c:=fun c hc=>by
  have h1:=List.all_eq_true.1 h c hc
  have:∀ a∈c,shv d (Bi a) = a:=fun a ha=>LJ (List.all_eq_true.1 h1 a ha)
  calc _ = c.map id:=List.map_congr_left this
   _ = _:=by simp
 calc _ = es.map id:=List.map_congr_left this
  _ = _:=by simp
instance trList {α:Type} [e:Enc α] [t:Tr α]:Tr (List α) where
 ow S ids cs xs:=∃ v,cs = [v]∧((∃ fl,v = .rsl false fl []∧xs = []∧ids = [])∨∃ b fl pl es is rs,v = .bsl b 0 xs.length (xs.length + List.length rs) fl∧S[b]? = some ⟨e.sz,es++rs,pl⟩∧(pl = true→(es++rs).all (·.all AC) = true)∧B0 (t.ow S) es xs is∧ids = b::is.flatten∧ids.Nodup)
 len:=by rintro S ids cs xs ⟨v,rfl,_⟩; rfl
 st:=by
  rintro S S' ids cs xs hS ⟨v,rfl,h | ⟨b,fl,pl,es,is,rs,rfl,h1,h2,h3,rfl,h5⟩⟩
  ·exact ⟨v,rfl,.inl h⟩
  ·refine ⟨_,rfl,.inr ⟨b,fl,pl,es,is,rs,rfl,by rw [hS b (by simp)]; exact h1,h2,h3.monoS fun i c x hi h=>t.st (fun j hj=>hS j (by
    simp only [List.mem_cons,List.mem_flatten]
    exact .inr ⟨i,hi,hj⟩)) h,rfl,h5⟩⟩
 lt:=by
  rintro S ids cs xs ⟨v,rfl,⟨fl,_,_,rfl⟩ | ⟨b,fl,pl,es,is,rs,rfl,h1,h2,h3,rfl,h5⟩⟩ i hi
  ·cases hi
  ·rcases List.mem_cons.1 hi with rfl | hi
   ·exact (List.getElem?_eq_some_iff.1 h1).1
   ·obtain ⟨l,hl,hil⟩:=List.mem_flatten.1 hi
    obtain ⟨j,hj,rfl⟩:=List.mem_iff_getElem.1 hl
    have hlen:=h3.len
    obtain ⟨c,i',k1,k2,k3⟩:=h3.get j (List.getElem?_eq_getElem (show j < xs.length by omega))
    rw [List.getElem?_eq_getElem hj] at k2
    injection k2 with k2
    subst k2
    exact t.lt k3 i hil
 nd:=by
  rintro S ids cs xs ⟨v,rfl,⟨fl,_,_,rfl⟩ | ⟨b,fl,pl,es,is,rs,rfl,h1,h2,h3,rfl,h5⟩⟩
  ·exact List.nodup_nil
  ·exact h5
 fz:=by
  rintro S ids cs xs ⟨v,rfl,⟨fl,rfl,rfl,rfl⟩ | ⟨b,fl,pl,es,is,rs,rfl,h1,h2,h3,rfl,h5⟩⟩ brw k j l hk hj
  ·have hk':e.dp + 1 < k:=hk
   have hj':e.dp + 1 < j:=hj
   obtain ⟨k,rfl⟩:∃ i,k = i + 1:=⟨k - 1,by omega⟩
   obtain ⟨j,rfl⟩:∃ i,j = i + 1:=⟨j - 1,by omega⟩
   rfl
  ·have hk':e.dp + 1 < k:=hk
   have hj':e.dp + 1 < j:=hj
   obtain ⟨k,rfl⟩:∃ i,k = i + 1:=⟨k - 1,by omega⟩
   obtain ⟨j,rfl⟩:∃ i,j = i + 1:=⟨j - 1,by omega⟩
   have hle:=h3.len.1
   have hla:(es++rs).length = xs.length + rs.length:=by rw [List.length_append,hle]
   have htk:(es++rs).take xs.length = es:=by rw [← hle]; simp
   have key:=QM (brw:=brw) (l:=l) (S:=S) (show e.dp < k by omega) (show e.dp < j by omega) h3
   simp only [List.map_cons,List.map_nil,frz,h1,hla,if_true,List.drop_zero,htk]
   cases pl
   ·simp only [Bool.false_eq_true,if_false,nrm]
    rw [key]; rfl
   ·simp only [if_true,nrm]
    have h2':=h2 rfl
    rw [List.all_append,Bool.and_eq_true] at h2'
    rw [GL (by omega) h2'.1] at key
    rw [key]; rfl
 ld:=by
  rintro S ids cs xs ⟨v,rfl,⟨fl,rfl,rfl,rfl⟩ | ⟨b,fl,pl,es,is,rs,rfl,h1,h2,h3,rfl,h5⟩⟩ k j hk hj
  ·have hk':e.dp + 1 < k:=hk
   have hj':e.dp + 1 < j:=hj
   obtain ⟨k,rfl⟩:∃ i,k = i + 1:=⟨k - 1,by omega⟩
   obtain ⟨j,rfl⟩:∃ i,j = i + 1:=⟨j - 1,by omega⟩
   rfl
  ·have hk':e.dp + 1 < k:=hk
   have hj':e.dp + 1 < j:=hj
   obtain ⟨k,rfl⟩:∃ i,k = i + 1:=⟨k - 1,by omega⟩
   obtain ⟨j,rfl⟩:∃ i,j = i + 1:=⟨j - 1,by omega⟩
   have hle:=h3.len.1
   have hla:(es++rs).length = xs.length + rs.length:=by rw [List.length_append,hle]
   have htk:(es++rs).take xs.length = es:=by rw [← hle]; simp
   have key:=QL (S:=S) (show e.dp < k by omega) (show e.dp < j by omega) h3
   have key0:=MW (S:=S) (show e.dp < k by omega) h3
   simp only [List.map_cons,List.map_nil,frz,h1,hla,if_true,List.drop_zero,htk]
   cases pl
   ·simp only [Bool.false_eq_true,if_false,List.any_cons,List.any_nil,ltD,Bool.or_false,Bool.false_or]
    rw [key,key0]; rfl
   ·have h2':=h2 rfl
    rw [List.all_append,Bool.and_eq_true] at h2'
    rw [GL (by omega) h2'.1] at key
    simp only [if_true,List.any_cons,List.any_nil,ltD,Bool.or_false,Bool.false_or]
    exact key
 l0:=by
  rintro S ids cs xs ⟨v,rfl,⟨fl,rfl,rfl,rfl⟩ | ⟨b,fl,pl,es,is,rs,rfl,h1,h2,h3,rfl,h5⟩⟩ k hk
  ·have hk':e.dp + 1 < k:=hk
   obtain ⟨k,rfl⟩:∃ i,k = i + 1:=⟨k - 1,by omega⟩
   rfl
  ·have hk':e.dp + 1 < k:=hk
   obtain ⟨k,rfl⟩:∃ i,k = i + 1:=⟨k - 1,by omega⟩
   have hle:=h3.len.1
   have hla:(es++rs).length = xs.length + rs.length:=by rw [List.length_append,hle]
   have htk:(es++rs).take xs.length = es:=by rw [← hle]; simp
   have key0:=MW (S:=S) (show e.dp < k by omega) h3
   simp only [List.map_cons,List.map_nil,frz,h1,hla,if_true,List.drop_zero,htk]
   cases pl
   ·simp only [Bool.false_eq_true,if_false,List.any_cons,List.any_nil,Bool.or_false,Go.Rf.lt,Bool.false_or]
    exact key0
   ·rfl
 sh:=by
  rintro S ids cs xs ⟨v,rfl,⟨fl,rfl,rfl,rfl⟩ | ⟨b,fl,pl,es,is,rs,rfl,h1,h2,h3,rfl,h5⟩⟩ S0
  ·exact ⟨_,rfl,.inl ⟨fl,rfl,rfl,rfl⟩⟩
  ·have hb:(S0++S.map (shB S0.length))[b + S0.length]? = some ⟨e.sz,(es++rs).map (·.map fun a=>shv S0.length (Bi a)),pl⟩:=by
    rw [List.getElem?_append_right (by omega),Nat.add_sub_cancel,List.getElem?_map,h1,Option.map_some]
    congr 1
    unfold shB
    cases pl
    ·rfl
    ·simp only [if_true]
     rw [LS (h2 rfl)]
   rw [List.map_append] at hb
   refine ⟨_,rfl,.inr ⟨b + S0.length,fl,pl,_,_,rs.map (·.map fun a=>shv S0.length (Bi a)),by rw [List.length_map]; rfl,hb,fun hp=>?_,h3.map (· + S0.length) (fun a=>shv S0.length (Bi a)) (fun i c x h=>t.sh h S0),?_,?_⟩⟩
   ·rw [← List.map_append,LS (h2 hp)]; exact h2 hp
   ·simp [List.map_flatten]
   ·rw [List.Nodup,List.pairwise_map]
    exact h5.imp fun h=>by omega
def tr {α:Type} [e:Enc α] [t:Tr α] (ids:List Nat) (cs:List AV) (x:α):En where
 ids:=ids
 ok S:=t.ow S ids cs x
 st _ _ h:=t.st h
 lt _ h:=t.lt h
theorem WV {α:Type} [e:Enc α] [t:Tr α] {n:Nat} {L:List En} {q:Bool} {ids:List Nat} {cs:List AV} {x:α} (i:Nat) (hL:L[i]? = some (tr ids cs x)) (hn:e.dp + 1≤n:=by decide):CVs n L q cs (fun l=>e.cs l x):=fun S hS=>
 ⟨fun brw k j l hk hj=>t.fz (hS.get hL) brw k j l (by omega) (by omega),fun _ k j hk hj=>t.ld (hS.get hL) k j (by omega) (by omega)⟩
theorem Cb {α:Type} [e:Enc α] [t:Tr α] {n:Nat} {L:List En} {q:Bool} {ids:List Nat} {v:AV} {xs:List α} (i:Nat) (hL:L[i]? = some (tr ids [v] xs)) (hn:e.dp + 2≤n:=by decide):CV n L q v (fun l=>.rsl l false (xs.map (e.cs l))):=fun S hS=>by
 have h:=WV (n:=n) (q:=q) i hL (by show e.dp + 1 + 1≤n; omega) S hS
 refine ⟨fun brw k j l hk hj=>?_,fun hq k j hk hj=>?_⟩
 ·have h1:[nrm l j (frz brw S k v)] = [.rsl l false (xs.map (e.cs l))]:=h.1 brw k j l hk hj
  injection h1
 ·have:=h.2 hq k j hk hj
  simpa using this
end Go.Rf
