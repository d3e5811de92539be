/- Parts of one's own slice; slices.Compact. -/
import Derived.Test.YthbiabieiopobaaGreatDoorRh1
set_option linter.unusedVariables false
set_option linter.unusedSimpArgs false
namespace Go.Rf
open Go
def viA:AV→Nat→Nat→AV
 | .bsl b i n L fl,lo,hi=>.bsl b (i + lo) (hi - lo) L (fl && hi == n)
 | v,_,_=>v
def viO (n:Nat) (lo hi:Int):Option Unit:=if 0≤lo∧lo≤hi∧hi≤n then some () else none
def Ny {α:Type} (xs:List α) (lo hi i:Int):Option α:=if 0≤i∧i < hi - lo then Av xs (lo + i) else none
def cpv:AV→Nat→AV
 | .bsl b i n L fl,k=>.bsl b i k L (fl && k == n)
 | v,_=>v
def cl {α:Type} [e:Enc α] (v:AV) (xs:List α):En where
 ids:=idS v
 ok S:=(v = .rsl false true []∧xs = [])∨∃ b L fl es pl,v = .bsl b 0 L L fl∧S[b]? = some ⟨e.sz,es,pl⟩∧es.length = L∧es.take xs.length = xs.map (e.cs false)∧xs.length≤L∧(pl = true→es.all (·.all AC) = true)
 st S S' h:=by
  rintro (h1 | ⟨b,L,fl,es,pl,rfl,h2,h3⟩)
  ·exact .inl h1
  ·exact .inr ⟨b,L,fl,es,pl,rfl,by rw [h b (by simp [idS])]; exact h2,h3⟩
 lt S h i hi:=by
  rcases h with ⟨rfl,_⟩ | ⟨b,L,fl,es,pl,rfl,h2,_⟩
  ·cases hi
  ·simp only [idS,List.mem_singleton] at hi; subst hi
   exact (List.getElem?_eq_some_iff.1 h2).1
theorem iZ {α:Type} [e:Enc α] {S:St} {v:AV} {xs:List α} (h:(sl false v xs).ok S):(cl v xs).ok S:=by
 rcases h with h | ⟨b,fl,pl,rfl,h2,h3⟩
 ·exact .inl h
 ·exact .inr ⟨b,xs.length,fl,_,pl,rfl,h2,by simp,by rw [List.take_of_length_le (by simp)],Nat.le_refl _,h3⟩
theorem q_cl {α ρ τ:Type} [e:Enc α] {L0:List En} {v:AV} {xs:List α} {k:St→Option ρ} {m:Option τ} {P:τ→ρ→Prop} (hk:Okh (cl v xs::L0) k m P):Okh (sl false v xs::L0) k m P:=fun S hS=>
 hk S ⟨fun x hx=>by
  rcases List.mem_cons.1 hx with rfl | hx
  ·exact iZ (hS.1 _ (by simp))
  ·exact hS.1 x (by simp [hx]),by
  have:=hS.2
  rw [List.pairwise_cons] at this ⊢
  exact this⟩
theorem Vw {α ρ τ:Type} [e:Enc α] {L0:List En} {v:AV} {xs ys:List α} {k:St→Option ρ} {m:Option τ} {P:τ→ρ→Prop} (h:ys = xs.take ys.length) (hk:Okh (cl v ys::L0) k m P):Okh (sl false v xs::L0) k m P:=fun S hS=>
 hk S ⟨fun x hx=>by
  rcases List.mem_cons.1 hx with rfl | hx
  ·rcases hS.1 _ (List.mem_cons_self ..) with ⟨h1,h2⟩ | ⟨b,fl,pl,h1,h2,h3⟩
   ·subst h2
    exact .inl ⟨h1,by rw [h]; simp⟩
   ·have hle:ys.length≤xs.length:=by
     have:=congrArg List.length h
     simp only [List.length_take] at this
     omega
    refine .inr ⟨b,xs.length,fl,_,pl,h1,h2,by simp,?_,hle,h3⟩
    rw [← List.map_take,← h]
  ·exact hS.1 x (by simp [hx]),by
  have:=hS.2
  rw [List.pairwise_cons] at this ⊢
  exact this⟩
section
variable {ρ τ:Type} {L:List En} {m:Option τ} {P:τ→ρ→Prop} {α:Type} [e:Enc α] {l:Bool} {v:AV} {xs:List α} {n:Nat}
theorem aG {n:Nat} {q:Bool} (i:Nat) (hL:L[i]? = some (cl v xs)) (hn:e.dp + 2≤n:=by decide):CV n L q (cpv v xs.length) (fun l=>.rsl l false (xs.map (e.cs l))):=fun S hS=>by
 rcases hS.get hL with ⟨rfl,rfl⟩ | ⟨b,L,fl,es,pl,rfl,h2,h3,h4,h5,h6⟩
 ·refine ⟨fun brw k j l hk hj=>?_,fun h k j hk hj=>?_⟩
  ·obtain ⟨k,rfl⟩:∃ j,k = j + 1:=⟨k - 1,by omega⟩
   obtain ⟨j,rfl⟩:∃ i,j = i + 1:=⟨j - 1,by omega⟩
   rfl
  ·obtain ⟨k,rfl⟩:∃ j,k = j + 1:=⟨k - 1,by omega⟩
   obtain ⟨j,rfl⟩:∃ i,j = i + 1:=⟨j - 1,by omega⟩
   rfl
 ·have hf:∀ (brw:Bool) (k:Nat),0 < k→frz brw S (k + 1) (.bsl b 0 xs.length L (fl && xs.length == L)) = .rsl (brw || (!pl && (xs.map (e.cs false)).any (·.any lt))) (fl && xs.length == L) (xs.map (e.cs false)):=by
   intro brw k hk
   simp only [frz,h2,h3,if_true,List.drop_zero,h4]
   cases pl
   ·simp only [Bool.false_eq_true,if_false,Bool.not_false,Bool.true_and]
    rw [RB hk]
   ·simp
  refine ⟨fun brw k j l hk hj=>?_,fun h k j hk hj=>?_⟩
  ·obtain ⟨k,rfl⟩:∃ j,k = j + 1:=⟨k - 1,by omega⟩
   obtain ⟨j,rfl⟩:∃ i,j = i + 1:=⟨j - 1,by omega⟩
   show nrm l (j + 1) (frz brw S (k + 1) (.bsl b 0 xs.length L (fl && xs.length == L))) = _
   rw [hf brw k (by omega)]
   simp only [nrm]
   rw [Ia (by omega)]
  ·obtain ⟨k,rfl⟩:∃ j,k = j + 1:=⟨k - 1,by omega⟩
   obtain ⟨j,rfl⟩:∃ i,j = i + 1:=⟨j - 1,by omega⟩
   show ltD (j + 1) (frz false S (k + 1) (.bsl b 0 xs.length L (fl && xs.length == L))) = _
   rw [hf false k (by omega)]
   simp only [ltD,W7,Bool.and_false,Bool.or_self,Bool.false_or]
   exact J6 (by omega) xs
theorem Ye {lo hi:Option AV} {i j:Int} {k:AV→St→Option ρ} {mk:Unit→Option τ} (q:Nat) (hL:L[q]? = some (sl l v xs)) (hn:e.sz = n) (hlo:Dz lo = (if 0≤i then some (some i.toNat) else none)∨(lo = none∧i = 0)) (hhi:Dz hi = (if 0≤j then some (some j.toNat) else none)∨(hi = none∧j = xs.length))
  (hk:0≤i→i≤j→j≤xs.length→Okh L (k (viA v i.toNat j.toNat)) (mk ()) P):Okh L (fun S=>pq (Be n v lo hi none S) fun r=>k r S) ((viO xs.length i j).bind mk) P:=fun S hS=>by
 intro t ht
 rw [Option.bind_eq_some_iff] at ht
 obtain ⟨x,hx,hm⟩:=ht
 unfold viO at hx
 split at hx <;> try (cases hx; done)
 rename_i h0
 obtain ⟨h1,h2,h3⟩:=h0
 subst hn
 have hp:Be e.sz v lo hi none S = some (viA v i.toNat j.toNat,S):=by
  have o1:(Dz lo = some (some i.toNat))∨(Dz lo = some none∧i.toNat = 0):=by
   rcases hlo with h | ⟨rfl,rfl⟩
   ·left; rw [h,if_pos h1]
   ·right; exact ⟨rfl,rfl⟩
  have o2:(Dz hi = some (some j.toNat))∨(Dz hi = some none∧j.toNat = xs.length):=by
   rcases hhi with h | ⟨rfl,rfl⟩
   ·left; rw [h,if_pos (by omega)]
   ·right; exact ⟨rfl,by omega⟩
  rcases hS.get hL with ⟨rfl,rfl⟩ | ⟨b,fl,pl,rfl,q1,q2⟩
  ·have hj:j.toNat = 0:=by simp at h3; omega
   have hi:i.toNat = 0:=by omega
   rcases o1 with o1 | ⟨o1,_⟩ <;> rcases o2 with o2 | ⟨o2,_⟩ <;>
    simp only [Be,E8,o1,o2,show Dz none = some none from rfl] <;> simp [hj,hi,viA]
  ·have hle:i.toNat≤j.toNat∧j.toNat≤xs.length:=by omega
   rcases o1 with o1 | ⟨o1,g1⟩ <;> rcases o2 with o2 | ⟨o2,g2⟩ <;>
    simp only [Be,E8,o1,o2,show Dz none = some none from rfl,q1] <;> simp [viA,hle.1,hle.2, *] <;> omega
 show ∃ r,pq (Be e.sz v lo hi none S) (fun r=>k r S) = some r∧_
 rw [hp]
 exact hk h1 h2 h3 S hS t hm
theorem cL {i j:Int} {k:AV→St→Option ρ} (q:Nat) (hL:L[q]? = some (sl l v xs)) (h1:0≤i) (h2:i≤j) (h3:j≤xs.length) (hk:Okh L (k (.int .i64 (j - i))) m P):Okh L (fun S=>pk (Fe (viA v i.toNat j.toNat)) S fun r=>k r S) m P:=
 GU (x:=fun _=>Fe (viA v i.toNat j.toNat)) (fun S hS=>by
  rcases hS.get hL with ⟨rfl,rfl⟩ | ⟨b,fl,pl,rfl,_,_⟩
  ·have:i = 0∧j = 0:=by simp at h3; omega
   obtain ⟨rfl,rfl⟩:=this
   rfl
  ·show some (AV.int .i64 ((j.toNat - i.toNat:Nat):Int)) = _
   congr 2; omega) hk
theorem Vp {kk:IntKind} {lo hi i:Int} {k:AV→St→Option ρ} {mk:α→Option τ} (q:Nat) (hL:L[q]? = some (sl l v xs)) (hn:e.sz = n) (h1:0≤lo) (h2:lo≤hi) (h3:hi≤xs.length)
  (hk:∀ x,Av xs (lo + i) = some x→Okh L (k (elP n v (lo + i).toNat)) (mk x) P) :
  Okh L (fun S=>pk (B8 n (viA v lo.toNat hi.toNat) (.int kk i) S) S fun r=>k r S) ((Ny xs lo hi i).bind mk) P:=fun S hS=>by
 intro t ht
 rw [Option.bind_eq_some_iff] at ht
 obtain ⟨x,hx,hm⟩:=ht
 unfold Ny at hx
 split at hx <;> try (cases hx; done)
 rename_i hi0
 obtain ⟨g0,g1,g2⟩:=DU hx
 obtain ⟨b,fl,pl,rfl,q1,q2⟩:=hS.boxed hL (by omega)
 have hp:B8 n (viA (.bsl b 0 xs.length xs.length fl) lo.toNat hi.toNat) (.int kk i) S = some (elP n (.bsl b 0 xs.length xs.length fl) (lo + i).toNat):=by
  simp only [viA,B8,elP]
  rw [if_pos ⟨hi0.1,by omega⟩,q1]
  simp only [hn,if_true,Option.some.injEq]
  congr 1
  omega
 show ∃ r,pk (B8 n (viA (.bsl b 0 xs.length xs.length fl) lo.toNat hi.toNat) (.int kk i) S) S (fun r=>k r S) = some r∧_
 rw [hp]
 exact hk x hx S hS t hm
theorem cM {G:Program} {t te:TypeId} {z:α} {lo hi:Int} {k:AV→St→Option ρ} (q:Nat) (hL:L[q]? = some (sl l v xs)) (hu:G.underlying t = some (.slice te)) (hz:EP G te = some (e.cs l z)) (h1:0≤lo) (h2:lo≤hi) (h3:hi≤xs.length)
  (hk:Okh (L.set q (sl l v (xs.take lo.toNat++(List.replicate (hi - lo).toNat z++xs.drop hi.toNat)))) (k und) m P) :
  Okh L (fun S=>pe (Ed G t (viA v lo.toNat hi.toNat) S) k) m P:=fun S hS=>by
 rcases hS.get hL with ⟨rfl,rfl⟩ | ⟨b,fl,pl,rfl,q1,q2⟩
 ·have:lo = 0∧hi = 0:=by simp at h3; omega
  obtain ⟨rfl,rfl⟩:=this
  have hq:L.set q (sl l (.rsl false true []) (List.take (0:Int).toNat ([]:List α)++(List.replicate (0 - 0:Int).toNat z++List.drop (0:Int).toNat []))) = L:=by
   obtain ⟨hql,hqe⟩:=List.getElem?_eq_some_iff.1 hL
   show L.set q (sl l (.rsl false true []) ([]:List α)) = L
   rw [← hqe]; exact List.set_getElem_self hql
  rw [hq] at hk
  have:Ed G t (viA (.rsl false true []) (0:Int).toNat (0:Int).toNat) S = some (und,S):=by simp [Ed,viA,hu,hz]
  show Fit (pe (Ed G t (viA _ _ _) S) k) m P
  rw [this]
  exact hk S hS
 ·have hb:b < S.length:=(List.getElem?_eq_some_iff.1 q1).1
  by_cases e0:hi.toNat - lo.toNat = 0
  ·have hq:L.set q (sl l (.bsl b 0 xs.length xs.length fl) (xs.take lo.toNat++(List.replicate (hi - lo).toNat z++xs.drop hi.toNat))) = L:=by
    obtain ⟨hql,hqe⟩:=List.getElem?_eq_some_iff.1 hL
    rw [show (hi - lo).toNat = 0 by omega,show hi.toNat = lo.toNat by omega]
    simp only [List.replicate_zero,List.nil_append,List.take_append_drop]
    rw [← hqe]; exact List.set_getElem_self hql
   rw [hq] at hk
   have:Ed G t (viA (.bsl b 0 xs.length xs.length fl) lo.toNat hi.toNat) S = some (und,S):=by simp [Ed,viA,hu,hz,e0]
   show Fit (pe (Ed G t (viA _ _ _) S) k) m P
   rw [this]
   exact hk S hS
  ·have hst:Ed G t (viA (.bsl b 0 xs.length xs.length fl) lo.toNat hi.toNat) S = some (und,S.set b ⟨e.sz,(xs.take lo.toNat++(List.replicate (hi - lo).toNat z++xs.drop hi.toNat)).map (e.cs l),pl && (e.cs l z).all AC⟩):=by
    simp only [Ed,viA,hu,hz]
    rw [if_neg e0,q1]
    simp only [List.length_map,e.len,true_and]
    rw [if_pos (by omega)]
    simp only [List.map_append,List.map_take,List.map_drop,List.map_replicate,Nat.zero_add]
    rw [show lo.toNat + (hi.toNat - lo.toNat) = hi.toNat by omega,show (hi - lo).toNat = hi.toNat - lo.toNat by omega]
   have hlen:(xs.take lo.toNat++(List.replicate (hi - lo).toNat z++xs.drop hi.toNat)).length = xs.length:=by simp; omega
   show Fit (pe (Ed G t (viA _ _ _) S) k) m P
   rw [hst]
   refine hk _ (hS.upd hL (fun j hj _=>List.getElem?_set_ne (by rintro rfl; exact hj (by simp [sl,idS]))) (fun j hj=>.inl (by simpa [sl,idS] using hj)) (.inr ⟨b,fl,pl && (e.cs l z).all AC,by rw [hlen],by rw [List.getElem?_set_self hb],fun hp=>?_⟩))
   simp only [Bool.and_eq_true] at hp
   have h2:=q2 hp.1
   rw [List.all_map,List.all_eq_true] at h2 ⊢
   intro y hy
   rcases List.mem_append.1 hy with h | h
   ·exact h2 y (List.mem_of_mem_take h)
   ·rcases List.mem_append.1 h with h | h
    ·rw [(List.mem_replicate.1 h).2]; exact hp.2
    ·exact h2 y (List.mem_of_mem_drop h)
end
section
variable {ρ τ T:Type} {L:List En} {m:Option τ} {P:τ→ρ→Prop}
theorem DL {run:FuncId→List AV→St→Option (AV×St)} {g:FuncId} {args:List AV} {x:St→Option (AV×St)} {E:T→AV} {mg:Option T} {k:AV→St→Option ρ} {mk:T→Option τ} (hv:∀ S,x S = Bt run g args S) (hf:∀ S,HP S L→Fit (run g (args.map (fz S)) []) mg (P0 E)) (hk:∀ t,mg = some t→Okh L (k (E t)) (mk t) P) :
  Okh L (fun S=>pe (x S) k) (mg.bind mk) P:=fun S hS=>by
 intro t ht
 rw [Option.bind_eq_some_iff] at ht
 obtain ⟨y,hy,hm⟩:=ht
 show ∃ r,pe (x S) k = some r∧_
 rw [hv,BR (hf S hS) hy]
 exact hk y hy S hS t hm
theorem Vq {run:FuncId→List AV→St→Option (AV×St)} {g:FuncId} {args:List AV} {x:St→Option (AV×St)} {E:T→AV} {y:T} {k:AV→St→Option ρ} (hv:∀ S,x S = Bt run g args S) (hf:∀ S,HP S L→Fit (run g (args.map (fz S)) []) (some y) (P0 E)) (hk:Okh L (k (E y)) m P) :
  Okh L (fun S=>pe (x S) k) m P:=fun S hS=>by
 show Fit (pe (x S) k) m P
 rw [hv,BR (hf S hS) rfl]
 exact hk S hS
end
theorem Dq {x y:Option AV} {a b:AV} (hx:x = some a) (hy:y = some b):Hm x y = some (.tup [a,b]):=by rw [hx,hy]; rfl
theorem HJ {x y z:Option AV} {a b c:AV} (hx:x = some a) (hy:y = some b) (hz:z = some c):SL x y z = some (.tup [a,b,c]):=by rw [hx,hy,hz]; rfl
theorem Gs {a b:Bool} (h:a = true) (k:b = true):(a && b) = true:=by rw [h,k]; rfl
theorem Jo {ρ τ:Type} {L:List En} {m:Option τ} {P:τ→ρ→Prop} {c:Bool} {x:St→Option ρ} (hc:∀ S,HP S L→c = true) (hk:Okh L x m P):Okh L (fun S=>bif c then x S else none) m P:=fun S hS=>by
 show Fit (bif c then x S else none) m P
 rw [hc S hS]
 exact hk S hS
theorem HP.ap {S:St} {L:List En} (h:HP S L) {b b' i o n l i' o' n' l':Nat} {cs cs':List AV} (q q':Nat) (hq:L[q]? = some (bx b cs)) (hq':L[q']? = some (bx b' cs')) (hne:q≠q'):EC (.bp b i o n l) (.bp b' i' o' n' l') = true:=by
 have hp:=List.pairwise_iff_getElem.1 h.2
 obtain ⟨h1,e1⟩:=List.getElem?_eq_some_iff.1 hq
 obtain ⟨h2,e2⟩:=List.getElem?_eq_some_iff.1 hq'
 have hb:b≠b':=by
  rintro rfl
  rcases Nat.lt_or_gt_of_ne hne with g | g
  ·have:=hp q q' h1 h2 g b (by rw [e1]; simp [bx])
   rw [e2] at this; exact this (by simp [bx])
  ·have:=hp q' q h2 h1 g b (by rw [e2]; simp [bx])
   rw [e1] at this; exact this (by simp [bx])
 simpa [EC] using hb
theorem HP.apS {α:Type} [Enc α] {S:St} {L:List En} (h:HP S L) {b i o n l:Nat} {cs:List AV} {c:Bool} {v:AV} {xs:List α} (q q':Nat) (hq:L[q]? = some (bx b cs)) (hq':L[q']? = some (sl c v xs)) (hne:q≠q'):EC (.bp b i o n l) v = true:=by
 have hp:=List.pairwise_iff_getElem.1 h.2
 obtain ⟨h1,e1⟩:=List.getElem?_eq_some_iff.1 hq
 obtain ⟨h2,e2⟩:=List.getElem?_eq_some_iff.1 hq'
 have hk:=h.get hq'
 rcases hk with ⟨rfl,_⟩ | ⟨b',fl,pl,rfl,_,_⟩
 ·rfl
 ·have hb:b≠b':=by
   rintro rfl
   rcases Nat.lt_or_gt_of_ne hne with g | g
   ·have:=hp q q' h1 h2 g b (by rw [e1]; simp [bx])
    rw [e2] at this; exact this (by simp [sl,idS])
   ·have:=hp q' q h2 h1 g b (by rw [e2]; simp [sl,idS])
    rw [e1] at this; exact this (by simp [bx])
  simpa [EC] using hb
theorem cT {ρ τ:Type} {L:List En} {m:Option τ} {P:τ→ρ→Prop} {x:St→Option ρ} {φ:Prop} (h:∀ S,HP S L→φ) (hk:φ→Okh L x m P):Okh L x m P:=fun S hS=>hk (h S hS) S hS
theorem iF (v:AV) (k:Nat):viA v 0 k = cpv v k:=by cases v <;> rfl
def clr (ys:List Int) (i:Int):List Int:=ys.take i.toNat++(List.replicate ((ys.length:Int) - i).toNat 0++ys.drop (ys.length:Int).toNat)
def P3 {X τ:Type} (E:X→τ→AV) (F:τ→List En) (t:τ) (r:AV×St):Prop:=∃ x,r.1 = E x t∧HP r.2 (F t)
noncomputable def FZ {T τ:Type} (y:Option T) (a:Option τ) (f:T→Option τ):Option τ:=match y with
 | none=>a
 | some r=>f r
section
variable {ρ τ:Type} {L:List En} {m:Option τ} {P:τ→ρ→Prop}
theorem cN {X T:Type} {run:FuncId→List AV→St→Option (AV×St)} {g:FuncId} {args:List AV} {E:X→T→AV} {F:T→List En} {mg:Option T} {k:AV→St→Option ρ} {mk:T→Option τ} (hf:Okh L (fun S=>run g args S) mg (P3 E F)) (hk:∀ t,mg = some t→∀ x,Okh (F t) (k (E x t)) (mk t) P) :
  Okh L (fun S=>pe (Bc run g args S) k) (mg.bind mk) P:=fun S hS=>by
 intro t ht
 rw [Option.bind_eq_some_iff] at ht
 obtain ⟨y,hy,hm⟩:=ht
 obtain ⟨⟨v,S1⟩,h1,x,h2,h3⟩:=hf S hS y hy
 have h2:v = E x y:=h2
 subst h2
 show ∃ r,pe (Bc run g args S) k = some r∧_
 unfold Bc
 have h1:run g args S = some (E x y,S1):=h1
 rw [h1]
 exact hk y hy x S1 h3 t hm
theorem HN {X T:Type} {run:FuncId→List AV→St→Option (AV×St)} {g:FuncId} {args:List AV} {E:X→Option T→AV} {F:Option T→List En} {v0:X→AV} {v1:X→T→AV} {mg:Option (Option T)} {k:AV→St→Option ρ} {mA:Option τ} {mB:T→Option τ}
  (e0:∀ x,E x none = v0 x) (e1:∀ x r,E x (some r) = v1 x r) (hf:Okh L (fun S=>run g args S) mg (P3 E F)) (h0:∀ x,Okh (F none) (k (v0 x)) mA P) (h1:∀ r x,mg = some (some r)→Okh (F (some r)) (k (v1 x r)) (mB r) P) :
  Okh L (fun S=>pe (Bc run g args S) k) (mg.bind fun y=>FZ y mA fun r=>mB r) P:=
 cN hf fun t ht x=>by
  cases t with
  | none=>rw [e0]; exact h0 x
  | some r=>rw [e1]; exact h1 r x ht
theorem Ne_ {X T:Type} {v:AV} {E:X→T→AV} {F:T→List En} {t:T} (x:X) (n:Nat) (hv:v = E x t) (hF:L.drop n = F t):Okh L (fun S=>some (v,S)) (some t) (P3 E F):=fun S hS t' ht=>by
 injection ht with ht; subst ht
 exact ⟨_,rfl,x,hv,hF ▸ hS.drop n⟩
theorem Nc {X T:Type} {y:St→Option AV} {v:AV} {E:X→T→AV} {F:T→List En} {t:T} (x:X) (n:Nat) (hy:∀ S,HP S L→y S = some v) (hv:v = E x t) (hF:L.drop n = F t):Okh L (fun S=>(y S).map (·,S)) (some t) (P3 E F):=fun S hS t' ht=>by
 injection ht with ht; subst ht
 exact ⟨(v,S),by show (y S).map (·,S) = _; rw [hy S hS]; rfl,x,hv,hF ▸ hS.drop n⟩
theorem BW {x y:St→Option ρ} (h:Okh L x m P):Okh L (fun S=>ifA (.bool true) (x S) (y S)) m P:=h
theorem CZ {x y:St→Option ρ} (h:Okh L y m P):Okh L (fun S=>ifA (.bool false) (x S) (y S)) m P:=h
end
end Go.Rf
