/- A slice of plain elements that is cut short in place (slices.DeleteFunc). -/
import Derived.Test.YtifocmbeahpopaaDoorRh12
set_option linter.unusedVariables false
set_option linter.unusedSimpArgs false
namespace Go.Rf
open Go
def Qs (v:AV):Prop:=∀ b n L fl,v = .bsl b 0 n L fl→fl = true→L = n
section
variable {α:Type} [e:Enc α] [t:Tr α]
omit e t in
theorem rowsT.take {ow:List Nat→List AV→α→Prop} {es:List (List AV)} {xs:List α} {is:List (List Nat)} (h:rowsT ow es xs is) (i:Nat):rowsT ow (es.take i) (xs.take i) (is.take i):=by
 have hl:=h.len
 refine rowsT.build (by simp [hl.1]) (by simp [hl.2]) fun q z hz=>?_
 rw [List.getElem?_take] at hz
 split at hz
 ·rename_i hq
  obtain ⟨c,j,h1,h2,h3⟩:=h.get q hz
  exact ⟨c,j,by rw [List.getElem?_take,if_pos hq]; exact h1,by rw [List.getElem?_take,if_pos hq]; exact h2,h3⟩
 ·cases hz
theorem tr_del {S:St} {L0:List En} {ids:List Nat} {v:AV} {xs:List α} {n:Nat} (hq:Qs v) (hS:HP S (tr ids [v] xs::L0)) {G:Program} {tt te:TypeId} {z:α} (hu:G.underlying tt = some (.slice te)) (hz:zeroA G te = some (e.cs false z)) (hn:e.sz = n) {kk:IntKind} {i:Int} (h0:0≤i) (h1:i≤xs.length) :
  ∃ S2 v' ids',sliceA n v (some (.int kk i)) none none S = some (viA v i.toNat xs.length,S)∧aclear G tt (viA v i.toNat xs.length) S = some (und,S2)∧sliceA n v none (some (.int kk i)) none S2 = some (v',S2)∧HP S2 (tr ids' [v'] (xs.take i.toNat)::L0):=by
 subst hn
 obtain ⟨w,hw,⟨fl,rfl,rfl,rfl⟩ | ⟨b,fl,pl,es,is,rs,rfl,q1,q2,q3,rfl,q5⟩⟩:=(show trList.ow S ids [v] xs from hS.get (k:=0) rfl)
 ·injection hw with hw
  subst hw
  have hi:i = 0:=by simp at h1; omega
  subst hi
  refine ⟨S,.rsl false fl [],[],?_,?_,?_,?_⟩
  ·simp [sliceA,aslice,optI,viA]
  ·simp [aclear,hu,hz,viA]
  ·simp [sliceA,aslice,optI]
  ·simpa using hS
 ·injection hw with hw
  subst hw
  have hle:=q3.len.1
  have hlen:(es++rs).length = xs.length + rs.length:=by rw [List.length_append,hle]
  have hin:i.toNat≤xs.length:=by omega
  have hb:b < S.length:=(List.getElem?_eq_some_iff.1 q1).1
  have hfl:fl = true→rs = []:=fun h=>List.eq_nil_of_length_eq_zero (by have:=hq _ _ _ _ rfl h; omega)
  have s1:sliceA e.sz (.bsl b 0 xs.length (xs.length + rs.length) fl) (some (.int kk i)) none none S = some (viA (.bsl b 0 xs.length (xs.length + rs.length) fl) i.toNat xs.length,S):=by
   simp only [sliceA,aslice,show optI (some (AV.int kk i)) = some (some i.toNat) from by simp [optI,h0],show optI none = some none from rfl,Option.getD_some,Option.getD_none,q1,hlen]
   rw [if_pos ⟨trivial,trivial,hin,.inl (Nat.le_refl _)⟩,if_pos (.inr (.inl trivial))]
   rfl
  -- the store behind the clearing
  have s2:∃ S2 R pl',aclear G tt (viA (.bsl b 0 xs.length (xs.length + rs.length) fl) i.toNat xs.length) S = some (und,S2)∧S2[b]? = some ⟨e.sz,es.take i.toNat++R,pl'⟩∧(es.take i.toNat++R).length = xs.length + rs.length∧(pl' = true→(es.take i.toNat++R).all (·.all plain) = true)∧S2.length = S.length∧∀ j,j≠b→S2[j]? = S[j]?:=by
   by_cases he:xs.length - i.toNat = 0
   ·refine ⟨S,es.drop i.toNat++rs,pl,?_,?_,?_,?_,rfl,fun _ _=>rfl⟩
    ·simp [aclear,viA,hu,hz,he]
    ·rw [← List.append_assoc,List.take_append_drop]; exact q1
    ·rw [← List.append_assoc,List.take_append_drop]; exact hlen
    ·rw [← List.append_assoc,List.take_append_drop]; exact q2
   ·have hst:aclear G tt (viA (.bsl b 0 xs.length (xs.length + rs.length) fl) i.toNat xs.length) S = some (und,S.set b ⟨e.sz,es.take i.toNat++(List.replicate (xs.length - i.toNat) (e.cs false z)++rs),pl && (e.cs false z).all plain⟩):=by
     simp only [aclear,viA,hu,hz]
     rw [if_neg he,q1]
     simp only [hlen,e.len,true_and]
     rw [if_pos (by omega)]
     simp only [Nat.zero_add]
     rw [show i.toNat + (xs.length - i.toNat) = es.length by omega,List.drop_left',List.take_append_of_le_length (by omega)]
     rfl
    refine ⟨_,List.replicate (xs.length - i.toNat) (e.cs false z)++rs,_,hst,by rw [List.getElem?_set_self hb],?_,fun hp=>?_,by simp,fun j hj=>List.getElem?_set_ne (Ne.symm hj)⟩
    ·simp; omega
    ·rw [Bool.and_eq_true] at hp
     have:=q2 hp.1
     rw [List.all_append,Bool.and_eq_true] at this
     rw [List.all_append,List.all_append]
     simp only [Bool.and_eq_true]
     refine ⟨List.all_eq_true.2 fun a ha=>List.all_eq_true.1 this.1 a (List.mem_of_mem_take ha),List.all_eq_true.2 fun a ha=>?_,this.2⟩
     rw [(List.mem_replicate.1 ha).2]; exact hp.2
  obtain ⟨S2,R,pl',c1,c2,c3,c4,c5,c6⟩:=s2
  have s3:sliceA e.sz (.bsl b 0 xs.length (xs.length + rs.length) fl) none (some (.int kk i)) none S2 = some (.bsl b 0 i.toNat (xs.length + rs.length) (fl && i.toNat == xs.length),S2):=by
   simp only [sliceA,aslice,show optI (some (AV.int kk i)) = some (some i.toNat) from by simp [optI,h0],show optI none = some none from rfl,Option.getD_some,Option.getD_none,c2,c3]
   have hc:fl = false∨i.toNat = xs.length∨0 + xs.length = xs.length + rs.length:=by
    cases fl
    ·exact .inl rfl
    ·right; right; rw [hfl rfl]; simp
   rw [if_pos ⟨trivial,trivial,Nat.zero_le _,.inl hin⟩,if_pos hc]
   rfl
  refine ⟨S2,_,b::(is.take i.toNat).flatten,s1,c1,s3,?_⟩
  have hsub:(is.take i.toNat).flatten.Sublist is.flatten:=by
   conv=>rhs; rw [← List.take_append_drop i.toNat is]
   rw [List.flatten_append]
   exact List.sublist_append_left _ _
  have htl:(xs.take i.toNat).length = i.toNat:=by rw [List.length_take]; omega
  have hR:R.length = xs.length + rs.length - i.toNat:=by
   have:=c3
   rw [List.length_append,List.length_take] at this
   omega
  have hok:(tr (b::(is.take i.toNat).flatten) [.bsl b 0 i.toNat (xs.length + rs.length) (fl && i.toNat == xs.length)] (xs.take i.toNat)).ok S2:=by
   refine ⟨_,rfl,.inr ⟨b,fl && i.toNat == xs.length,pl',es.take i.toNat,is.take i.toNat,R,?_,c2,c4,?_,rfl,?_⟩⟩
   ·rw [htl,hR]
    congr 1; omega
   ·refine (q3.take i.toNat).monoS fun j c x hj hh=>t.st (fun u hu=>c6 u ?_) hh
    rintro rfl
    exact (List.nodup_cons.1 q5).1 (hsub.subset (List.mem_flatten.2 ⟨j,hj,hu⟩))
   ·exact List.nodup_cons.2 ⟨fun h=>(List.nodup_cons.1 q5).1 (hsub.subset h),(List.nodup_cons.1 q5).2.sublist hsub⟩
  exact hS.upd (k:=0) rfl (fun j hj _=>c6 j (by rintro rfl; exact hj (by simp [tr]))) (fun j hj=>.inl (by
   rcases List.mem_cons.1 hj with rfl | hj
   ·exact List.mem_cons_self
   ·exact List.mem_cons_of_mem _ (hsub.subset hj))) hok
section
variable {ρ τ:Type} {L:List En} {m:Option τ} {P:τ→ρ→Prop} {ids:List Nat} {v:AV} {xs:List α}
theorem q_ldt0 {i:Int} {x:α} {c:α→AV} {k:AV→St→Option ρ} (j:Nat) (hL:L[j]? = some (tr ids [v] xs)) (hn:e.sz = 1) (hx:getI xs i = some x) (hr:Rd 0 c) (hk:Okh L (k (c x)) m P) :
  Okh L (fun S=>pk (ld1 S (elP 1 v i.toNat)) S fun r=>k r S) m P:=by
 rw [← flP_el]
 exact q_ldt j hL hn hx hr hk
theorem q_del {G:Program} {tt te:TypeId} {z:α} {n:Nat} {kk:IntKind} {i:Int} {k:AV→St→Option ρ} {mk:Unit→Option τ} (hq:Qs v) (hu:G.underlying tt = some (.slice te)) (hz:zeroA G te = some (e.cs false z)) (hn:e.sz = n)
  (hk:0≤i→i≤xs.length→∀ ids' v',Okh (tr ids' [v'] (xs.take i.toNat)::L) (k v') (mk ()) P) :
  Okh (tr ids [v] xs::L) (fun S=>pq (sliceA n v (some (.int kk i)) none none S) fun r=>pe (aclear G tt r S) fun _ S2=>pq (sliceA n v none (some (.int kk i)) none S2) fun r3=>k r3 S2) ((viO xs.length i (xs.length:Int)).bind mk) P:=fun S hS=>by
 intro u hu'
 rw [Option.bind_eq_some_iff] at hu'
 obtain ⟨w,hw,hm⟩:=hu'
 unfold viO at hw
 split at hw <;> try (cases hw; done)
 rename_i h0
 obtain ⟨S2,v',ids',s1,s2,s3,hS2⟩:=tr_del hq hS hu hz hn (kk:=kk) h0.1 h0.2.1
 show ∃ r,pq (sliceA n v (some (.int kk i)) none none S) _ = some r∧_
 rw [s1]
 show ∃ r,pe (aclear G tt (viA v i.toNat xs.length) S) _ = some r∧_
 rw [s2]
 show ∃ r,pq (sliceA n v none (some (.int kk i)) none S2) _ = some r∧_
 rw [s3]
 exact hk h0.1 h0.2.1 ids' v' S2 hS2 u hm
end
def P1s (x:List α) (r:AV×St):Prop:=∃ ids,trList.ow r.2 ids [r.1] x∧Qs r.1
section
variable {ρ τ:Type} {L:List En} {P:τ→ρ→Prop}
theorem q_c1q_ {run:RunT} {g:FuncId} {args:List AV} {mg:Option (List α)} {k:AV→St→Option ρ} {mk:List α→Option τ} (hf:∀ S,HP S L→Fit (run g (args.map (fz S)) []) mg P1s)
  (hk:∀ x,mg = some x→∀ ids v,Qs v→Okh (tr ids [v] x::L) (k v) (mk x) P):Okh L (fun S=>pe (call1 run g args S) k) (mg.bind mk) P:=fun S hS=>by
 intro y hy
 rw [Option.bind_eq_some_iff] at hy
 obtain ⟨x,hx,hm⟩:=hy
 obtain ⟨⟨v,S1⟩,h1,ids,h3,h4⟩:=hf S hS x hx
 have h3:trList.ow S1 ids [v] x:=h3
 have h4:Qs v:=h4
 show ∃ r,pe (call1 run g args S) k = some r∧_
 unfold call1
 rw [h1]
 show ∃ r,k (shv S.length (scrub v)) (S++S1.map (shB S.length)) = some r∧_
 have h6:=trList.sh h3 S
 refine hk x hx _ _ ?_ _ (hS.new (fun i hi=>List.getElem?_append_left hi) (fun i hi=>by
  obtain ⟨j,_,rfl⟩:=List.mem_map.1 (show i∈ids.map (· + S.length) from hi)
  omega) h6) y hm
 obtain ⟨w,hw,⟨fl',rfl,_⟩ | ⟨b,fl',pl,es',is,rs,rfl,_⟩⟩:=h3
 ·injection hw with hw
  subst hw
  intro b n L fl h
  cases fl' <;> cases h
 ·injection hw with hw
  subst hw
  intro b' n L fl h hfl
  simp only [scrub,shv,AV.bsl.injEq] at h
  obtain ⟨_,_,rfl,rfl,rfl⟩:=h
  exact h4 _ _ _ _ rfl hfl
theorem q_outs {v:AV} {xs:List α} (u:Nat) (hL:L[u]? = some (cl v xs)) (hp:∀ (S:St) (x:α),t.ow S [] (e.cs false x) x):Okh L (fun S=>some (cpv v xs.length,S)) (some xs) P1s:=fun S hS y hy=>by
 injection hy with hy; subst hy
 obtain ⟨ids,h1,_⟩:=tb_cl u hL hp S hS
 refine ⟨_,rfl,ids,h1,?_⟩
 rcases hS.get hL with ⟨rfl,_⟩ | ⟨b,L',fl,es,pl,rfl,_⟩
 ·intro b n L fl h; cases h
 ·intro b' n L fl' h hfl
  simp only [cpv,AV.bsl.injEq] at h
  obtain ⟨_,_,rfl,rfl,rfl⟩:=h
  rw [Bool.and_eq_true] at hfl
  exact (eq_of_beq hfl.2).symm
theorem q_outt {ids:List Nat} {v:AV} {x:List α} (u:Nat) (hL:L[u]? = some (tr ids [v] x)) (hq:Qs v):Okh L (fun S=>some (v,S)) (some x) P1s:=fun S hS y hy=>by
 injection hy with hy; subst hy
 exact ⟨_,rfl,ids,hS.get hL,hq⟩
theorem q_outn:Okh L (fun S=>some (.rsl false true [],S)) (some ([]:List α)) P1s:=fun S hS y hy=>by
 injection hy with hy; subst hy
 exact ⟨_,rfl,[],⟨_,rfl,.inl ⟨true,rfl,rfl,rfl⟩⟩,fun b n L fl h=>by cases h⟩
end
end
end Go.Rf
