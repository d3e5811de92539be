/- The store as a list of facts; data as cells. -/
import Derived.Test.YthbiabieiopobaaGreatDoorRf22
set_option linter.unusedVariables false
set_option linter.unusedSimpArgs false
namespace Go.Rf
open Go
abbrev Str:=List UInt8
def AY (s:Str):AV:=.str ⟨s.toArray⟩
theorem O3 {q:Bool} {a:AV} (h:AC a = true):CO q a = true:=G1 h q
class Enc (α:Type) where
 sz:Nat
 dp:Nat
 cs:Bool→α→List AV
 len:∀ l x,(cs l x).length = sz
 inn:∀ l q x,(l = false∨q = true)→∀ a∈cs l x,CO q a = true
 nrm:∀ l l' x k,dp < k→(cs l x).map (nrm l' k) = cs l' x
 frz:∀ l x brw S k,0 < k→(cs l x).map (frz brw S k) = cs l x
 ltd:∀ x k,dp < k→(cs false x).any (ltD k) = false
theorem IB {l:Bool} {k:Nat} {a:AV} (h:AC a = true):nrm l k a = a:=by
 cases k with
 | zero=>rfl
 | succ k=>cases a <;> simp [AC] at h <;> rfl
theorem E7 {brw:Bool} {S:St} {k:Nat} {a:AV} (h:AC a = true) (hk:0 < k):frz brw S k a = a:=by
 cases k with
 | zero=>omega
 | succ k=>cases a <;> simp [AC] at h <;> rfl
theorem GN {k:Nat} {a:AV} (h:AC a = true) (hk:0 < k):ltD k a = false:=by
 cases k with
 | zero=>omega
 | succ k=>cases a <;> simp [AC] at h <;> rfl
@[reducible] def Enc.one {α:Type} (f:α→AV) (h:∀ x,AC (f x) = true):Enc α where
 sz:=1
 dp:=0
 cs _ x:=[f x]
 len _ _:=rfl
 inn l q x _ a ha:=by
  rw [List.mem_singleton] at ha; subst ha; exact O3 (h x)
 nrm l l' x k _:=by simp [IB (h x)]
 frz l x brw S k hk:=by simp [E7 (h x) hk]
 ltd x k hk:=by simp [GN (h x) hk]
@[reducible] def Enc.of {α β:Type} [e:Enc β] (f:α→β):Enc α where
 sz:=e.sz
 dp:=e.dp
 cs l x:=e.cs l (f x)
 len l x:=e.len l (f x)
 inn l q x:=e.inn l q (f x)
 nrm l l' x:=e.nrm l l' (f x)
 frz l x:=e.frz l (f x)
 ltd x:=e.ltd (f x)
instance instInt:Enc Int:=Enc.one (fun n=>.int .i64 n) (fun _=>rfl)
instance instBool:Enc Bool:=Enc.one (fun n=>.bool n) (fun _=>rfl)
instance instUnit:Enc Unit where
 sz:=0
 dp:=0
 cs _ _:=[]
 len _ _:=rfl
 inn l q x _ a ha:=by cases ha
 nrm l l' x k _:=rfl
 frz l x brw S k hk:=rfl
 ltd x k hk:=rfl
instance instProd {α β:Type} [a:Enc α] [b:Enc β]:Enc (α×β) where
 sz:=a.sz + b.sz
 dp:=max a.dp b.dp
 cs l x:=a.cs l x.1++b.cs l x.2
 len l x:=by simp [a.len,b.len]
 inn l q x h c hc:=(List.mem_append.1 hc).elim (a.inn l q x.1 h c) (b.inn l q x.2 h c)
 nrm l l' x k hk:=by rw [List.map_append,a.nrm l l' x.1 k (by omega),b.nrm l l' x.2 k (by omega)]
 frz l x brw S k hk:=by rw [List.map_append,a.frz l x.1 brw S k hk,b.frz l x.2 brw S k hk]
 ltd x k hk:=by rw [List.any_append,a.ltd x.1 k (by omega),b.ltd x.2 k (by omega)]; rfl
theorem Ia {α:Type} [e:Enc α] {l l':Bool} {k:Nat} (hk:e.dp < k) (xs:List α):(xs.map (e.cs l)).map (·.map (nrm l' k)) = xs.map (e.cs l'):=by
 rw [List.map_map]
 exact List.map_congr_left fun x _=>e.nrm l l' x k hk
theorem RB {α:Type} [e:Enc α] {l brw:Bool} {S:St} {k:Nat} (hk:0 < k) (xs:List α):(xs.map (e.cs l)).map (·.map (frz brw S k)) = xs.map (e.cs l):=by
 rw [List.map_map]
 exact List.map_congr_left fun x _=>e.frz l x brw S k hk
theorem J6 {α:Type} [e:Enc α] {k:Nat} (hk:e.dp < k) (xs:List α):(xs.map (e.cs false)).any (·.any (ltD k)) = false:=by
 rw [List.any_map,List.any_eq_false]
 intro x _
 simp [e.ltd x k hk]
theorem W7 {α:Type} [e:Enc α] (xs:List α):(xs.map (e.cs false)).any (·.any lt) = false:=by
 rw [List.any_map,List.any_eq_false]
 intro x _
 simp only [Function.comp,Bool.not_eq_true]
 rw [List.any_eq_false]
 intro a ha
 have:=e.inn false false x (.inl rfl) a ha
 simp [CO] at this
 simp [this.2.2]
instance instList {α:Type} [e:Enc α]:Enc (List α) where
 sz:=1
 dp:=e.dp + 1
 cs l xs:=[.rsl l false (xs.map (e.cs l))]
 len _ _:=rfl
 inn l q xs h a ha:=by
  rw [List.mem_singleton] at ha; subst ha
  simp only [CO,Bv,Br,lt,Bool.true_and]
  rcases h with rfl | rfl
  ·simp
  ·rfl
 nrm l l' xs k hk:=by
  obtain ⟨k,rfl⟩:∃ j,k = j + 1:=⟨k - 1,by omega⟩
  simp only [List.map_cons,List.map_nil,nrm]
  rw [Ia (by omega)]
 frz l xs brw S k hk:=by
  obtain ⟨k,rfl⟩:∃ j,k = j + 1:=⟨k - 1,by omega⟩
  rfl
 ltd xs k hk:=by
  obtain ⟨k,rfl⟩:∃ j,k = j + 1:=⟨k - 1,by omega⟩
  simp only [List.any_cons,List.any_nil,Bool.or_false,ltD,Bool.false_or]
  exact J6 (by omega) xs
instance instStr:Enc Str:=Enc.one AY (fun _=>rfl)
structure En where
 ids:List Nat
 ok:St→Prop
 st:∀ S S':St,(∀ i∈ids,S'[i]? = S[i]?)→ok S→ok S'
 lt:∀ S,ok S→∀ i∈ids,i < S.length
def HP (S:St) (L:List En):Prop:=(∀ e∈L,e.ok S)∧L.Pairwise fun a b=>∀ i∈a.ids,i ∉ b.ids
def bx (b:Nat) (cs:List AV):En where
 ids:=[b]
 ok S:=∃ pl,S[b]? = some ⟨cs.length,[cs],pl⟩∧(pl = true→cs.all AC = true)
 st S S' h:=by rw [h b (by simp)]; exact id
 lt S h i hi:=by
  rw [List.mem_singleton] at hi; subst hi
  obtain ⟨pl,h,_⟩:=h
  exact (List.getElem?_eq_some_iff.1 h).1
def idS:AV→List Nat
 | .bsl b _ _ _ _=>[b]
 | _=>[]
def sl {α:Type} [e:Enc α] (l:Bool) (v:AV) (xs:List α):En where
 ids:=idS v
 ok S:=(v = .rsl false true []∧xs = [])∨∃ b fl pl,v = .bsl b 0 xs.length xs.length fl∧S[b]? = some ⟨e.sz,xs.map (e.cs l),pl⟩∧(pl = true→(xs.map (e.cs l)).all (·.all AC) = true)
 st S S' h:=by
  rintro (h1 | ⟨b,fl,pl,rfl,h2,h3⟩)
  ·exact .inl h1
  ·exact .inr ⟨b,fl,pl,rfl,by rw [h b (by simp [idS])]; exact h2,h3⟩
 lt S h i hi:=by
  rcases h with ⟨rfl,_⟩ | ⟨b,fl,pl,rfl,h2,_⟩
  ·cases hi
  ·simp only [idS,List.mem_singleton] at hi; subst hi
   exact (List.getElem?_eq_some_iff.1 h2).1
theorem HP.get {S:St} {L:List En} (h:HP S L) {k:Nat} {e:En} (hk:L[k]? = some e):e.ok S:=h.1 e (List.mem_of_getElem? hk)
theorem HP.nil {S:St}:HP S []:=⟨by simp,.nil⟩
theorem HP.upd {S S':St} {L:List En} (h:HP S L) {k:Nat} {e e':En} (hk:L[k]? = some e) (hS:∀ i,i ∉ e.ids→i < S.length→S'[i]? = S[i]?) (hi:∀ i∈e'.ids,i∈e.ids∨S.length≤i) (ho:e'.ok S'):HP S' (L.set k e'):=by
 have hkl:=(List.getElem?_eq_some_iff.1 hk).1
 have hke:=(List.getElem?_eq_some_iff.1 hk).2
 have hp:=List.pairwise_iff_getElem.1 h.2
 have hok:∀ (j:Nat) (hj:j < L.length),(L[j]).ok S:=fun j hj=>h.1 _ (List.getElem_mem hj)
 have dj:∀ (j:Nat) (hj:j < L.length),j≠k→(∀ i∈(L[j]).ids,i ∉ e.ids):=by
  intro j hj hne i hi1 hi2
  rcases Nat.lt_or_gt_of_ne hne with q | q
  ·have:=hp j k hj hkl q i hi1
   rw [hke] at this; exact this hi2
  ·have:=hp k j hkl hj q i (by rw [hke]; exact hi2)
   exact this hi1
 have dj':∀ (j:Nat) (hj:j < L.length),j≠k→∀ i∈(L[j]).ids,i ∉ e'.ids:=by
  intro j hj hne i hi1 hi2
  rcases hi i hi2 with q | q
  ·exact dj j hj hne i hi1 q
  ·have:=(L[j]).lt S (hok j hj) i hi1
   omega
 refine ⟨fun x hx=>?_,List.pairwise_iff_getElem.2 fun i j hi1 hj1 hij=>?_⟩
 ·obtain ⟨j,hj,rfl⟩:=List.mem_iff_getElem.1 hx
  rw [List.getElem_set]
  split
  ·exact ho
  ·rename_i hne
   have hj':j < L.length:=by simpa using hj
   exact (L[j]).st S S' (fun i hi=>hS i (dj j hj' (fun q=>hne q.symm) i hi) ((L[j]).lt S (hok j hj') i hi)) (hok j hj')
 ·have hi2:i < L.length:=by simpa using hi1
  have hj2:j < L.length:=by simpa using hj1
  rw [List.getElem_set,List.getElem_set]
  split
  ·rename_i hki
   rw [if_neg (by omega)]
   subst hki
   intro t ht hnt
   exact dj' j hj2 (by omega) t hnt ht
  ·rename_i hki
   split
   ·rename_i hkj
    subst hkj
    exact dj' i hi2 (fun q=>hki q.symm)
   ·exact hp i j hi2 hj2 hij
theorem HP.new {S S':St} {L:List En} (h:HP S L) {e':En} (hS:∀ i,i < S.length→S'[i]? = S[i]?) (hi:∀ i∈e'.ids,S.length≤i) (ho:e'.ok S'):HP S' (e'::L):=by
 refine ⟨fun x hx=>?_,List.pairwise_cons.2 ⟨fun x hx i h1 h2=>?_,h.2⟩⟩
 ·rcases List.mem_cons.1 hx with rfl | hx
  ·exact ho
  ·exact x.st S S' (fun i hi=>hS i (x.lt S (h.1 x hx) i hi)) (h.1 x hx)
 ·have:=x.lt S (h.1 x hx) i h2
  have:=hi i h1
  omega
theorem HP.grow {S S':St} {L:List En} (h:HP S L) (hS:∀ i,i < S.length→S'[i]? = S[i]?):HP S' L:=
 ⟨fun x hx=>x.st S S' (fun i hi=>hS i (x.lt S (h.1 x hx) i hi)) (h.1 x hx),h.2⟩
theorem HP.sub {S:St} {L L':List En} (h:HP S L) (hs:L'.Sublist L):HP S L':=⟨fun x hx=>h.1 x (hs.subset hx),h.2.sublist hs⟩
theorem HP.drop {S:St} {L:List En} (k:Nat) (h:HP S L):HP S (L.drop k):=h.sub (List.drop_sublist k L)
def CV (n:Nat) (L:List En) (q:Bool) (c:AV) (f:Bool→AV):Prop:=
 ∀ S,HP S L→(∀ brw k j l,n≤k→n≤j→nrm l j (frz brw S k c) = f l)∧(q = true→∀ k j,n≤k→n≤j→ltD j (frz false S k c) = false)
def CVs (n:Nat) (L:List En) (q:Bool) (c:List AV) (f:Bool→List AV):Prop:=
 ∀ S,HP S L→(∀ brw k j l,n≤k→n≤j→(c.map (frz brw S k)).map (nrm l j) = f l)∧(q = true→∀ k j,n≤k→n≤j→(c.map (frz false S k)).any (ltD j) = false)
section
variable {n:Nat} {L:List En} {q:Bool}
theorem Ad {c:AV} (h:AC c = true) (hn:0 < n:=by decide):CV n L q c (fun _=>c):=fun S _=>
 ⟨fun brw k j l hk hj=>by rw [E7 h (by omega),IB h],fun _ k j hk hj=>by rw [E7 h (by omega)]; exact GN h (by omega)⟩
theorem As {α:Type} [e:Enc α] {l0 fl:Bool} {xs:List α} (hq:(q = true→l0 = false):=by intro h; first | exact h | rfl | cases h) (hn:e.dp + 2≤n:=by decide):CV n L q (.rsl l0 fl (xs.map (e.cs l0))) (fun l=>.rsl l false (xs.map (e.cs l))):=fun S _=>by
 refine ⟨fun brw k j l hk hj=>?_,fun h k j hk hj=>?_⟩
 ·obtain ⟨k,rfl⟩:∃ j,k = j + 1:=⟨k - 1,by omega⟩
  obtain ⟨j,rfl⟩:∃ i,j = i + 1:=⟨j - 1,by omega⟩
  simp only [frz,nrm]
  rw [Ia (by omega)]
 ·obtain ⟨k,rfl⟩:∃ j,k = j + 1:=⟨k - 1,by omega⟩
  obtain ⟨j,rfl⟩:∃ i,j = i + 1:=⟨j - 1,by omega⟩
  have:=hq h
  subst this
  simp only [frz,ltD,Bool.false_or]
  exact J6 (by omega) xs
theorem Il {α:Type} [e:Enc α] {l0:Bool} {v:AV} {xs:List α} (i:Nat) (hL:L[i]? = some (sl l0 v xs)) (hq:(q = true→l0 = false):=by intro h; first | exact h | rfl | cases h) (hn:e.dp + 2≤n:=by decide):CV n L q v (fun l=>.rsl l false (xs.map (e.cs l))):=fun S hS=>by
 rcases hS.get hL with ⟨rfl,rfl⟩ | ⟨b,fl,pl,rfl,h2,h3⟩
 ·refine ⟨fun brw k j l hk hj=>?_,fun h k j hk hj=>?_⟩
  ·obtain ⟨k,rfl⟩:∃ j,k = j + 1:=⟨k - 1,by omega⟩
   obtain ⟨j,rfl⟩:∃ i,j = i + 1:=⟨j - 1,by omega⟩
   rfl
  ·obtain ⟨k,rfl⟩:∃ j,k = j + 1:=⟨k - 1,by omega⟩
   obtain ⟨j,rfl⟩:∃ i,j = i + 1:=⟨j - 1,by omega⟩
   rfl
 ·have hf:∀ (brw:Bool) (k:Nat),0 < k→frz brw S (k + 1) (.bsl b 0 xs.length xs.length fl) = .rsl (brw || (!pl && (xs.map (e.cs l0)).any (·.any lt))) fl (xs.map (e.cs l0)):=by
   intro brw k hk
   simp only [frz,h2,List.length_map,if_true,List.drop_zero]
   rw [List.take_of_length_le (by simp)]
   cases pl
   ·simp only [Bool.false_eq_true,if_false,Bool.not_false,Bool.true_and]
    rw [RB hk]
   ·simp
  refine ⟨fun brw k j l hk hj=>?_,fun h k j hk hj=>?_⟩
  ·obtain ⟨k,rfl⟩:∃ j,k = j + 1:=⟨k - 1,by omega⟩
   obtain ⟨j,rfl⟩:∃ i,j = i + 1:=⟨j - 1,by omega⟩
   rw [hf brw k (by omega)]
   simp only [nrm]
   rw [Ia (by omega)]
  ·obtain ⟨k,rfl⟩:∃ j,k = j + 1:=⟨k - 1,by omega⟩
   obtain ⟨j,rfl⟩:∃ i,j = i + 1:=⟨j - 1,by omega⟩
   have:=hq h
   subst this
   rw [hf false k (by omega)]
   simp only [ltD,W7,Bool.and_false,Bool.or_self,Bool.false_or]
   exact J6 (by omega) xs
theorem Ah:CVs n L q [] (fun _=>[]):=fun _ _=>⟨fun _ _ _ _ _ _=>rfl,fun _ _ _ _ _=>rfl⟩
theorem Aa {c:AV} {cs:List AV} {f:Bool→AV} {fs:Bool→List AV} (h:CV n L q c f) (hs:CVs n L q cs fs):CVs n L q (c::cs) (fun l=>f l::fs l):=fun S hS=>
 ⟨fun brw k j l hk hj=>by rw [List.map_cons,List.map_cons,(h S hS).1 brw k j l hk hj,(hs S hS).1 brw k j l hk hj],
  fun hq k j hk hj=>by rw [List.map_cons,List.any_cons,(h S hS).2 hq k j hk hj,(hs S hS).2 hq k j hk hj]; rfl⟩
theorem Aq {α:Type} [e:Enc α] {l0:Bool} {x:α} (hq:(q = true→l0 = false):=by intro h; first | exact h | rfl | cases h) (hn:e.dp + 1≤n:=by decide):CVs n L q (e.cs l0 x) (fun l=>e.cs l x):=fun S _=>
 ⟨fun brw k j l hk hj=>by rw [e.frz _ _ _ _ _ (by omega),e.nrm _ _ _ _ (by omega)],fun h k j hk hj=>by
  have:=hq h
  subst this
  rw [e.frz _ _ _ _ _ (by omega),e.ltd _ _ (by omega)]⟩
theorem A8 {cs:List AV} {f:Bool→List AV} (h:CVs n L q cs f):CV (n + 1) L q (.agg cs) (fun l=>.agg (f l)):=fun S hS=>by
 refine ⟨fun brw k j l hk hj=>?_,fun hq k j hk hj=>?_⟩
 ·obtain ⟨k,rfl⟩:∃ j,k = j + 1:=⟨k - 1,by omega⟩
  obtain ⟨j,rfl⟩:∃ i,j = i + 1:=⟨j - 1,by omega⟩
  simp only [frz,nrm]
  rw [(h S hS).1 brw k j l (by omega) (by omega)]
 ·obtain ⟨k,rfl⟩:∃ j,k = j + 1:=⟨k - 1,by omega⟩
  obtain ⟨j,rfl⟩:∃ i,j = i + 1:=⟨j - 1,by omega⟩
  simp only [frz,ltD]
  exact (h S hS).2 hq k j (by omega) (by omega)
theorem Dl {cs:List AV} {f:Bool→List AV} (h:CVs n L q cs f):CV (n + 1) L q (.tup cs) (fun l=>.tup (f l)):=fun S hS=>by
 refine ⟨fun brw k j l hk hj=>?_,fun hq k j hk hj=>?_⟩
 ·obtain ⟨k,rfl⟩:∃ j,k = j + 1:=⟨k - 1,by omega⟩
  obtain ⟨j,rfl⟩:∃ i,j = i + 1:=⟨j - 1,by omega⟩
  simp only [frz,nrm]
  rw [(h S hS).1 brw k j l (by omega) (by omega)]
 ·obtain ⟨k,rfl⟩:∃ j,k = j + 1:=⟨k - 1,by omega⟩
  obtain ⟨j,rfl⟩:∃ i,j = i + 1:=⟨j - 1,by omega⟩
  simp only [frz,ltD]
  exact (h S hS).2 hq k j (by omega) (by omega)
theorem BC {g:FuncId} {cs:List AV} {f:Bool→List AV} (h:CVs n L q cs f):CV (n + 1) L q (.fn g cs) (fun l=>.fn g (f l)):=fun S hS=>by
 refine ⟨fun brw k j l hk hj=>?_,fun hq k j hk hj=>?_⟩
 ·obtain ⟨k,rfl⟩:∃ j,k = j + 1:=⟨k - 1,by omega⟩
  obtain ⟨j,rfl⟩:∃ i,j = i + 1:=⟨j - 1,by omega⟩
  simp only [frz,nrm]
  rw [(h S hS).1 brw k j l (by omega) (by omega)]
 ·obtain ⟨k,rfl⟩:∃ j,k = j + 1:=⟨k - 1,by omega⟩
  obtain ⟨j,rfl⟩:∃ i,j = i + 1:=⟨j - 1,by omega⟩
  simp only [frz,ltD]
  exact (h S hS).2 hq k j (by omega) (by omega)
theorem AZ {l0:Bool} {cs:List AV} {f:Bool→List AV} (h:CVs n L q cs f) (hf:∀ brw S k,0 < k→cs.map (frz brw S k) = cs) (hq:(q = true→l0 = false):=by intro h; first | exact h | rfl | cases h) (hn:0 < n:=by decide):CV (n + 1) L q (.rp l0 cs) (fun l=>.rp l (f l)):=fun S hS=>by
 refine ⟨fun brw k j l hk hj=>?_,fun h0 k j hk hj=>?_⟩
 ·obtain ⟨k,rfl⟩:∃ j,k = j + 1:=⟨k - 1,by omega⟩
  obtain ⟨j,rfl⟩:∃ i,j = i + 1:=⟨j - 1,by omega⟩
  simp only [frz,nrm]
  have:=(h S hS).1 brw k j l (by omega) (by omega)
  rw [hf brw S k (by omega)] at this
  rw [this]
 ·obtain ⟨k,rfl⟩:∃ j,k = j + 1:=⟨k - 1,by omega⟩
  obtain ⟨j,rfl⟩:∃ i,j = i + 1:=⟨j - 1,by omega⟩
  have:=(h S hS).2 h0 k j (by omega) (by omega)
  rw [hf false S k (by omega)] at this
  have h1:=hq h0
  subst h1
  simp only [frz,ltD,Bool.false_or]
  exact this
theorem B9 {b o m:Nat} {cs:List AV} {f:Bool→List AV} (i:Nat) (hL:L[i]? = some (bx b cs)) (h:CVs n L false ((cs.drop o).take m) f) (hn:0 < n:=by decide):CV (n + 1) L false (.bp b 0 o m 1) (fun l=>.rp l (f l)):=fun S hS=>by
 refine ⟨fun brw k j l hk hj=>?_,fun h0=>by cases h0⟩
 obtain ⟨k,rfl⟩:∃ j,k = j + 1:=⟨k - 1,by omega⟩
 obtain ⟨j,rfl⟩:∃ i,j = i + 1:=⟨j - 1,by omega⟩
 obtain ⟨pl,h2,h3⟩:=hS.get hL
 have hh:=(h S hS).1 brw k j l (by omega) (by omega)
 simp only [frz,h2,List.length_singleton,if_true,List.getElem?_cons_zero]
 cases pl
 ·simp only [Bool.false_eq_true,if_false,nrm]
  rw [hh]
 ·simp only [if_true,nrm]
  have e:((cs.drop o).take m).map (frz brw S k) = (cs.drop o).take m:=by
   have:∀ a∈(cs.drop o).take m,frz brw S k a = a:=fun a ha=>E7 (List.all_eq_true.1 (h3 rfl) a (List.mem_drop_take ha)) (by omega)
   calc _ = ((cs.drop o).take m).map id:=List.map_congr_left this
    _ = _:=by simp
  rw [e] at hh
  rw [hh]
end
theorem CV.any {n:Nat} {L:List En} {q:Bool} {c:AV} {f:Bool→AV} (h:CV n [] q c f):CV n L q c f:=fun S _=>h S HP.nil
theorem CV.fz {L:List En} {q:Bool} {c:AV} {f:Bool→AV} (h:CV 8 L q c f) {S:St} (hS:HP S L):∃ l,fz S c = f l:=
 ⟨ltD 8 (frz true S 8 c),(h S hS).1 true 8 8 _ (Nat.le_refl _) (Nat.le_refl _)⟩
theorem LK:∀ cs:List AV,(∀ a∈cs,Bi a = a)→Bi.scrubL cs = cs
 | [],_=>rfl
 | c::r,h=>by
  simp only [Bi.scrubL]
  rw [h c (by simp),LK r fun a ha=>h a (by simp [ha])]
theorem NS:∀ (k:Nat) (v:AV),ltD k v = false→Bi v = v
 | 0,v,h=>by simp [ltD] at h
 | k + 1,v,h=>by
  cases v <;> simp only [Bi] <;> simp only [ltD] at h <;> first
   | (rw [LK _ fun a ha=>NS k a (NI h a ha)])
   | (simp only [Bool.or_eq_false_iff] at h; rw [if_neg (by simp [h.1])])
theorem CV.fzr {L:List En} {c:AV} {f:Bool→AV} (h:CV 8 L true c f) {S:St} (hS:HP S L):fzr S c = f false:=by
 have h1:=(h S hS).2 rfl 8 8 (Nat.le_refl _) (Nat.le_refl _)
 unfold Go.Rf.fzr nz
 rw [NS 8 _ h1,h1]
 exact (h S hS).1 false 8 8 false (Nat.le_refl _) (Nat.le_refl _)
end Go.Rf
