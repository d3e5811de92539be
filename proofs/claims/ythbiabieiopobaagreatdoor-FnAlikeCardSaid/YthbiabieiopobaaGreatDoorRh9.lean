/- Trees in the store: read, written, parted and joined. -/
import Derived.Test.YthbiabieiopobaaGreatDoorRh8
set_option linter.unusedVariables false
set_option linter.unusedSimpArgs false
namespace Go.Rf
open Go
def flP (o c:Nat):AV→AV
 | .bp b i o' _ L=>.bp b i (o' + o) c L
 | _=>.non
def eN {α γ:Type} [ea:Enc α] [eg:Enc γ] [a:Tr α] [g:Tr γ] (ids i:List Nat) (cs ws:List AV) (put:γ→α):En where
 ids:=ids.filter fun j=>decide (j ∉ i)
 ok S:=(∀ j∈ids,j ∉ i→j < S.length)∧∀ (S':St) (y:γ),(∀ j∈ids,j ∉ i→S'[j]? = S[j]?)→g.ow S' i ws y→a.ow S' ids cs (put y)
 st S S' h:=by
  rintro ⟨h1,h2⟩
  have h':∀ j∈ids,j ∉ i→S'[j]? = S[j]?:=fun j hj hji=>h j (by simp [hj,hji])
  refine ⟨fun j hj hji=>?_,fun S'' y hS hy=>h2 S'' y (fun j hj hji=>(hS j hj hji).trans (h' j hj hji)) hy⟩
  have h3:=h1 j hj hji
  have h4:=h' j hj hji
  rw [List.getElem?_eq_getElem h3] at h4
  exact (List.getElem?_eq_some_iff.1 h4).1
 lt S h j hj:=by
  simp only [List.mem_filter,decide_eq_true_eq] at hj
  exact h.1 j hj.1 hj.2
noncomputable def Lu {T τ:Type} (x:T) (f:T→Option τ):Option τ:=f x
section
variable {ρ τ:Type} {L:List En} {m:Option τ} {P:τ→ρ→Prop}
theorem HP.part {α γ:Type} [ea:Enc α] [eg:Enc γ] [a:Tr α] [g:Tr γ] {S:St} {ids i:List Nat} {cs ws:List AV} {put:γ→α} {x:α} {y:γ} (hS:HP S (tr ids cs x::L)) (h1:g.ow S i ws y) (hi:∀ j∈i,j∈ids) (hc:∀ (S':St) (y:γ),(∀ j∈ids,j ∉ i→S'[j]? = S[j]?)→g.ow S' i ws y→a.ow S' ids cs (put y)):HP S (tr i ws y::eN ids i cs ws put::L):=by
 have h0:a.ow S ids cs x:=hS.get (k:=0) rfl
 have hp:=List.pairwise_cons.1 hS.2
 refine ⟨fun en hen=>?_,List.pairwise_cons.2 ⟨fun en hen j hj hin=>?_,List.pairwise_cons.2 ⟨fun en hen j hj hin=>?_,hp.2⟩⟩⟩
 ·rcases List.mem_cons.1 hen with rfl | hen
  ·exact h1
  ·rcases List.mem_cons.1 hen with rfl | hen
   ·exact ⟨fun j hj _=>a.lt h0 j hj,hc⟩
   ·exact hS.1 en (by simp [hen])
 ·rcases List.mem_cons.1 hen with rfl | hen
  ·simp only [eN,List.mem_filter,decide_eq_true_eq] at hin
   exact hin.2 hj
  ·exact hp.1 en hen j (hi j hj) hin
 ·simp only [eN,List.mem_filter,decide_eq_true_eq] at hj
  exact hp.1 en hen j hj.1 hin
section
variable {α:Type} [e:Enc α] [t:Tr α] {ids:List Nat} {v:AV} {xs:List α} {n:Nat}
theorem Hj {S:St} {i:Int} {x:α} (h:trList.ow S ids [v] xs) (hx:Av xs i = some x):∃ b fl pl es is rs,v = .bsl b 0 xs.length (xs.length + List.length rs) fl∧S[b]? = some ⟨e.sz,es++rs,pl⟩∧(pl = true→(es++rs).all (·.all AC) = true)∧B0 (t.ow S) es xs is∧ids = b::is.flatten∧ids.Nodup∧es.length = xs.length:=by
 obtain ⟨v',hv,⟨fl,rfl,rfl,rfl⟩ | ⟨b,fl,pl,es,is,rs,rfl,h1,h2,h3,rfl,h5⟩⟩:=h
 ·unfold Av at hx
  split at hx <;> simp at hx
 ·injection hv with hv
  exact ⟨b,fl,pl,es,is,rs,hv,h1,h2,h3,rfl,h5,h3.len.1⟩
theorem EN {α:Type} {es rs:List α} {i:Nat} (h:i < es.length):(es++rs)[i]? = es[i]?:=List.getElem?_append_left h
theorem NY {kk:IntKind} {i:Int} {k:AV→St→Option ρ} {mk:α→Option τ} (j:Nat) (hL:L[j]? = some (tr ids [v] xs)) (hn:e.sz = n) (hk:∀ x,Av xs i = some x→Okh L (k (elP n v i.toNat)) (mk x) P) :
  Okh L (fun S=>pk (B8 n v (.int kk i) S) S fun r=>k r S) ((Av xs i).bind mk) P:=fun S hS=>by
 intro y hy
 rw [Option.bind_eq_some_iff] at hy
 obtain ⟨x,hx,hm⟩:=hy
 obtain ⟨h0,h1,h2⟩:=DU hx
 obtain ⟨b,fl,pl,es,is,rs,rfl,q1,_⟩:=Hj (hS.get hL) hx
 have hp:B8 n (.bsl b 0 xs.length (xs.length + rs.length) fl) (.int kk i) S = some (elP n (.bsl b 0 xs.length (xs.length + rs.length) fl) i.toNat):=by
  simp only [B8,elP]
  rw [if_pos ⟨h0,by omega⟩,q1]
  simp [hn]
 show ∃ r,pk (B8 n (.bsl b 0 xs.length (xs.length + rs.length) fl) (.int kk i) S) S (fun r=>k r S) = some r∧_
 rw [hp]
 exact hk x hx S hS y hm
theorem EJ {i:Int} {x:α} {o c:Nat} {k:AV→St→Option ρ} (j:Nat) (hL:L[j]? = some (tr ids [v] xs)) (hx:Av xs i = some x) (ho:o + c≤n) (hk:Okh L (k (flP o c (elP n v i.toNat))) m P):Okh L (fun S=>pk (CL (elP n v i.toNat) o c) S fun r=>k r S) m P:=fun S hS=>by
 obtain ⟨b,fl,pl,es,is,rs,rfl,q1,_⟩:=Hj (hS.get hL) hx
 have hp:CL (elP n (.bsl b 0 xs.length (xs.length + rs.length) fl) i.toNat) o c = some (flP o c (elP n (.bsl b 0 xs.length (xs.length + rs.length) fl) i.toNat)):=by
  simp only [elP,CL,flP,if_pos ho]
 show Fit (pk (CL (elP n (.bsl b 0 xs.length (xs.length + rs.length) fl) i.toNat) o c) S fun r=>k r S) m P
 rw [hp]
 exact hk S hS
theorem jI {i:Int} {x:α} {o:Nat} {c:AV} {f:α→α} {k:AV→St→Option ρ} (j:Nat) (hL:L[j]? = some (tr ids [v] xs)) (hn:e.sz = n) (hx:Av xs i = some x) (hc:AC c = true) (hu:Up o c f) (hk:Okh (L.set j (tr ids [v] (xs.set i.toNat (f x)))) (k und) m P) :
  Okh L (fun S=>pe (Aj 1 (flP o 1 (elP n v i.toNat)) c S) k) m P:=fun S hS=>by
 obtain ⟨h0,h1,h2⟩:=DU hx
 have hw:trList.ow S ids [v] xs:=hS.get hL
 obtain ⟨b,fl,pl,es,is,rs,rfl,q1,q2,q3,rfl,q5,q6⟩:=Hj hw hx
 obtain ⟨ec,ic,g1,g2,g3⟩:=q3.get i.toNat h2
 obtain ⟨u1,u2⟩:=hu S ic ec x g3
 have qa:(es++rs).length = xs.length + rs.length:=by rw [List.length_append,q6]
 have qs:∀ y,(es++rs).set i.toNat y = es.set i.toNat y++rs:=fun y=>List.set_append_left _ _ (by omega)
 have qg:(es++rs)[i.toNat]? = some ec:=(EN (by omega)).trans g1
 have hb:b < S.length:=(List.getElem?_eq_some_iff.1 q1).1
 have hcell:AK c = [c]:=by cases c <;> first | rfl | cases hc
 have hput:BL ec o [c] = ec.set o c:=by
  unfold BL
  rw [List.set_eq_take_append_cons_drop,if_pos u1]
  rfl
 have hst:Aj 1 (flP o 1 (elP n (.bsl b 0 xs.length (xs.length + rs.length) fl) i.toNat)) c S = some (und,S.set b ⟨e.sz,es.set i.toNat (ec.set o c)++rs,pl⟩):=by
  unfold Aj
  rw [hcell,if_pos ⟨rfl,by decide⟩]
  simp only [elP,flP,stA,q1,qa,Nat.zero_add,List.length_singleton,and_self,if_true,qg,qs,Option.map_some,hput,List.all_cons,hc,List.all_nil,Bool.and_true]
 show Fit (pe (Aj 1 (flP o 1 (elP n (.bsl b 0 xs.length (xs.length + rs.length) fl) i.toNat)) c S) k) m P
 rw [hst]
 have hbn:b ∉ is.flatten:=(List.nodup_cons.1 q5).1
 have hrows:B0 (t.ow (S.set b ⟨e.sz,es.set i.toNat (ec.set o c)++rs,pl⟩)) es xs is:=q3.monoS fun i' e' x' hi' h'=>t.st (fun j' hj'=>List.getElem?_set_ne (by
  rintro rfl
  exact hbn (List.mem_flatten.2 ⟨i',hi',hj'⟩))) h'
 have hicn:b ∉ ic:=fun hbi=>hbn (List.mem_flatten.2 ⟨ic,List.mem_of_getElem? g2,hbi⟩)
 have hu2:t.ow (S.set b ⟨e.sz,es.set i.toNat (ec.set o c)++rs,pl⟩) ic (ec.set o c) (f x):=t.st (fun j' hj'=>List.getElem?_set_ne (by rintro rfl; exact hicn hj')) u2
 have hset:=hrows.set i.toNat hu2
 have his:is.set i.toNat ic = is:=by
  apply List.ext_getElem?
  intro q
  rw [List.getElem?_set]
  split
  ·rename_i e1; subst e1
   split
   ·exact g2.symm
   ·rename_i hq; rw [List.getElem?_eq_none (by omega)]
  ·rfl
 rw [his] at hset
 refine hk _ (hS.upd hL (fun j' hj' _=>List.getElem?_set_ne (by rintro rfl; exact hj' (by simp [tr]))) (fun j' hj'=>.inl hj') ⟨_,rfl,.inr ⟨b,fl,pl,es.set i.toNat (ec.set o c),is,rs,by simp,by rw [List.getElem?_set_self hb],fun hp=>?_,hset,rfl,q5⟩⟩)
 have hall:=q2 hp
 rw [List.all_append,Bool.and_eq_true] at hall ⊢
 refine ⟨?_,hall.2⟩
 have hall:=hall.1
 rw [List.all_eq_true] at hall ⊢
 intro z hz
 rcases List.mem_or_eq_of_mem_set hz with h | h
 ·exact hall z h
 ·subst h
  rw [List.all_eq_true]
  intro q hq
  rcases List.mem_or_eq_of_mem_set hq with h | h
  ·exact List.all_eq_true.1 (hall ec (List.mem_of_getElem? g1)) q h
  ·subst h; exact hc
def tra (ids:List Nat) (v:AV) (xs:List α):En where
 ids:=ids
 ok S:=trList.ow S ids [v] xs∧(∀ fl,v = .rsl false fl []→fl = true)∧∀ b n L fl,v = .bsl b 0 n L fl→L = n
 st _ _ h hh:=⟨trList.st h hh.1,hh.2⟩
 lt _ h:=trList.lt h.1
theorem q_wk {k:St→Option ρ} (hk:Okh (tr ids [v] xs::L) k m P):Okh (tra ids v xs::L) k m P:=fun S hS=>by
 have hp:=List.pairwise_cons.1 hS.2
 refine hk S ⟨fun en hen=>?_,List.pairwise_cons.2 ⟨fun en hen j hj=>hp.1 en hen j hj,hp.2⟩⟩
 rcases List.mem_cons.1 hen with rfl | hen
 ·exact (show trList.ow S ids [v] xs∧_ from hS.get (k:=0) rfl).1
 ·exact hS.1 en (by simp [hen])
theorem Vr {k:St→Option ρ} (hk:Okh (tra (α:=α) [] (.rsl false true []) []::L) k m P):Okh L k m P:=fun S hS=>hk S (hS.new (fun _ _=>rfl) (fun i hi=>by cases hi) ⟨⟨_,rfl,.inl ⟨true,rfl,rfl,rfl⟩⟩,⟨fun fl h=>(by injection h with _ h _; exact h.symm),fun b n L fl h=>(by cases h)⟩⟩)
theorem ZS {ids2:List Nat} {cs2:List AV} {x:α} {a:AV} {by_:Nat} {G:Program} {tt:TypeId} {k:AV→St→Option ρ} {mk:List α→Option τ} (hn:e.sz = n) (hb:∀ S:St,A3 G tt 1 [(0,a)] S = (Dh n 0 [(0,a)]).map fun es=>mkS n es S) (ha:AK a = cs2)
  (hk:∀ z,Bw by_ xs [x] = some z→∀ v' ids',Okh (tra ids' v' z::L) (k v') (mk z) P) :
  Okh (tr ids2 cs2 x::tra ids v xs::L) (fun S=>pe (A3 G tt 1 [(0,a)] S) fun r S1=>pe (BJ n by_ v r S1) k) ((Bw by_ xs [x]).bind mk) P:=fun S hS=>by
 intro y hy
 rw [Option.bind_eq_some_iff] at hy
 obtain ⟨z,hz,hm⟩:=hy
 have hz0:=hz
 unfold Bw at hz
 split at hz <;> try (cases hz; done)
 rename_i hbound
 injection hz with hz
 subst hz
 rw [List.length_singleton] at hbound
 have hx:t.ow S ids2 cs2 x:=hS.get (k:=0) rfl
 obtain ⟨hv,hvt,hvL⟩:trList.ow S ids [v] xs∧(∀ fl,v = .rsl false fl []→fl = true)∧∀ b n L fl,v = .bsl b 0 n L fl→L = n:=hS.get (k:=1) rfl
 have hlen:cs2.length = n:=by rw [t.len hx,hn]
 have hp1:=List.pairwise_cons.1 hS.2
 have hp2:=List.pairwise_cons.1 hp1.2
 have hdis:∀ j∈ids2,j ∉ ids:=fun j hj=>hp1.1 (tra ids v xs) (by simp) j hj
 have hLok:∀ en∈L,en.ok S:=fun en hen=>hS.1 en (by simp [hen])
 -- the literal
 obtain ⟨r,S1,hr,hS1,hel,hS1l⟩:∃ r S1,A3 G tt 1 [(0,a)] S = some (r,S1)∧(∀ j,j < S.length→S1[j]? = S[j]?)∧BU S1 r = some [cs2]∧S.length≤S1.length:=by
  have hparts:Dh n 0 [(0,a)] = some [cs2]:=by simp [Dh,ha,hlen]
  rw [hb S,hparts]
  show ∃ r S1,some (mkS n [cs2] S) = some (r,S1)∧_
  unfold mkS
  split
  ·exact ⟨_,_,rfl,fun _ _=>rfl,rfl,Nat.le_refl _⟩
  ·exact ⟨_,_,rfl,fun j hj=>List.getElem?_append_left hj,by simp [BU],by simp⟩
 have hx1:t.ow S1 ids2 cs2 x:=t.st (fun j hj=>hS1 j (t.lt hx j hj)) hx
 have hv1:trList.ow S1 ids [v] xs:=trList.st (fun j hj=>hS1 j (trList.lt hv j hj)) hv
 have hguard:([cs2].all (·.length == n)) = true:=by simp [hlen]
 -- what comes
 obtain ⟨v',S2,ids',h2,h3,h4,h5⟩:∃ v' S2 ids',BJ n by_ v r S1 = some (v',S2)∧(trList.ow S2 ids' [v'] (xs++[x])∧(∀ fl,v' = .rsl false fl []→fl = true)∧∀ b n L fl,v' = .bsl b 0 n L fl→L = n)∧(∀ j,j ∉ ids→j < S.length→S2[j]? = S1[j]?)∧(∀ j∈ids',j∈ids∨j∈ids2∨S.length≤j):=by
  unfold BJ
  rw [hel]
  obtain ⟨v0,hv0,⟨fl,rfl,rfl,rfl⟩ | ⟨b,fl,pl,es,is,rs,rfl,q1,q2,q3,rfl,q5⟩⟩:=hv1
  ·injection hv0 with hv0
   subst hv0
   have hfl0:=hvt fl rfl
   subst hfl0
   refine ⟨.bsl S1.length 0 1 1 false,S1++[⟨n,[cs2],cs2.all AC⟩],S1.length::ids2,?_,⟨⟨_,rfl,.inr ⟨S1.length,false,cs2.all AC,[cs2],[ids2],[],rfl,by simp [hn],fun hp=>by simpa using hp,⟨t.st (fun j hj=>List.getElem?_append_left (t.lt hx1 j hj)) hx1,trivial⟩,by simp,List.nodup_cons.2 ⟨fun h=>by have:=t.lt hx1 _ h; omega,t.nd hx1⟩⟩⟩,⟨fun fl h=>(by cases h),fun b n L fl h=>(by injection h with _ _ h1 h2 _; omega)⟩⟩,fun j _ hj=>List.getElem?_append_left (by omega),fun j hj=>?_⟩
   ·simp only [FC,hguard,Bool.not_true,Bool.false_eq_true,if_false]
    rw [if_pos ⟨trivial,rfl,by simpa using hbound⟩]
    simp
   ·rcases List.mem_cons.1 hj with rfl | hj
    ·exact .inr (.inr hS1l)
    ·exact .inr (.inl hj)
  ·injection hv0 with hv0
   subst hv0
   have hrs:rs = []:=by
    have:=hvL _ _ _ _ rfl
    exact List.eq_nil_of_length_eq_zero (by omega)
   subst hrs
   rw [List.append_nil] at q1 q2
   have hle:=q3.len.1
   have hb1:b < S1.length:=(List.getElem?_eq_some_iff.1 q1).1
   have hbS:b < S.length:=trList.lt hv b (by simp)
   have hbn2:b ∉ ids2:=fun h=>hdis b h (by simp)
   have hfl:is.flatten++ids2 = (is++[ids2]).flatten:=by simp
   have hnd:(is.flatten++ids2).Nodup:=by
    rw [List.nodup_append]
    exact ⟨(List.nodup_cons.1 q5).2,t.nd hx1,fun i hi j hj e=>hdis j hj (e ▸ List.mem_cons_of_mem _ hi)⟩
   cases fl
   ·-- in place
    refine ⟨.bsl b 0 (xs.length + 1) (xs.length + 1) false,S1.set b ⟨e.sz,es++[cs2],pl && cs2.all AC⟩,b::(is++[ids2]).flatten,?_,⟨⟨_,rfl,.inr ⟨b,false,pl && cs2.all AC,es++[cs2],is++[ids2],[],by simp,by rw [List.getElem?_set_self hb1,List.append_nil],fun hp=>?_,?_,rfl,?_⟩⟩,⟨fun fl h=>(by cases h),fun b n L fl h=>(by injection h with _ _ h1 h2 _; omega)⟩⟩,fun j hj _=>List.getElem?_set_ne (by rintro rfl; exact hj (by simp)),fun j hj=>?_⟩
    ·simp only [FC,hguard,Bool.not_true,Bool.false_eq_true,if_false,q1,List.length_nil,Nat.add_zero]
     rw [if_pos ⟨by omega,hn,by omega,by simpa using hbound⟩,if_pos (by omega),if_pos trivial]
     simp
    ·rw [Bool.and_eq_true] at hp
     rw [List.append_nil,List.all_append,q2 hp.1]
     simpa using hp.2
    ·refine B0.snoc (q3.monoS fun i' e' x' hi' h'=>t.st (fun j' hj'=>List.getElem?_set_ne ?_) h') (t.st (fun j' hj'=>List.getElem?_set_ne (by rintro rfl; exact hbn2 hj')) hx1)
     rintro rfl
     exact (List.nodup_cons.1 q5).1 (List.mem_flatten.2 ⟨i',hi',hj'⟩)
    ·rw [← hfl]
     refine List.nodup_cons.2 ⟨fun h=>?_,hnd⟩
     rcases List.mem_append.1 h with h | h
     ·exact (List.nodup_cons.1 q5).1 h
     ·exact hbn2 h
    ·rw [← hfl] at hj
     rcases List.mem_cons.1 hj with rfl | hj
     ·exact .inl (by simp)
     ·rcases List.mem_append.1 hj with hj | hj
      ·exact .inl (List.mem_cons_of_mem _ hj)
      ·exact .inr (.inl hj)
   ·-- a new array
    refine ⟨.bsl S1.length 0 (xs.length + 1) (xs.length + 1) false,S1++[⟨n,es++[cs2],pl && cs2.all AC⟩],S1.length::(is++[ids2]).flatten,?_,⟨⟨_,rfl,.inr ⟨S1.length,false,pl && cs2.all AC,es++[cs2],is++[ids2],[],by simp,by simp [hn],fun hp=>?_,?_,rfl,?_⟩⟩,⟨fun fl h=>(by cases h),fun b n L fl h=>(by injection h with _ _ h1 h2 _; omega)⟩⟩,fun j _ hj=>List.getElem?_append_left (by omega),fun j hj=>?_⟩
    ·simp only [FC,hguard,Bool.not_true,Bool.false_eq_true,if_false,q1,List.length_nil,Nat.add_zero]
     rw [if_pos ⟨by omega,hn,by omega,by simpa using hbound⟩,if_pos trivial,List.drop_zero,List.take_of_length_le (by omega)]
     simp
    ·rw [Bool.and_eq_true] at hp
     rw [List.append_nil,List.all_append,q2 hp.1]
     simpa using hp.2
    ·refine B0.snoc (q3.monoS fun i' e' x' hi' h'=>t.st (fun j' hj'=>List.getElem?_append_left ?_) h') (t.st (fun j' hj'=>List.getElem?_append_left (t.lt hx1 j' hj')) hx1)
     exact t.lt h' j' hj'
    ·rw [← hfl]
     refine List.nodup_cons.2 ⟨fun h=>?_,hnd⟩
     rcases List.mem_append.1 h with h | h
     ·have:=trList.lt hv S1.length (List.mem_cons_of_mem _ h); omega
     ·have:=t.lt hx1 _ h; omega
    ·rw [← hfl] at hj
     rcases List.mem_cons.1 hj with rfl | hj
     ·exact .inr (.inr hS1l)
     ·rcases List.mem_append.1 hj with hj | hj
      ·exact .inl (List.mem_cons_of_mem _ hj)
      ·exact .inr (.inl hj)
 show ∃ q,pe (A3 G tt 1 [(0,a)] S) (fun r S1=>pe (BJ n by_ v r S1) k) = some q∧_
 rw [hr]
 show ∃ q,pe (BJ n by_ v r S1) k = some q∧_
 rw [h2]
 refine hk _ hz0 v' ids' S2 ⟨fun en hen=>?_,List.pairwise_cons.2 ⟨fun en hen j hj hin=>?_,hp2.2⟩⟩ y hm
 ·rcases List.mem_cons.1 hen with rfl | hen
  ·exact h3
  ·refine en.st S S2 (fun j hj=>?_) (hLok en hen)
   have hjl:=en.lt S (hLok en hen) j hj
   rw [h4 j (fun h=>hp2.1 en hen j h hj) hjl,hS1 j hjl]
 ·rcases h5 j hj with h | h | h
  ·exact hp2.1 en hen j h hin
  ·exact hp1.1 en (by simp [hen]) j h hin
  ·have:=en.lt S (hLok en hen) j hin; omega
theorem IY {i:Int} {x:α} {o:Nat} {c:AV} {f:α→α} {k:AV→St→Option ρ} {mk:List α→Option τ} (j:Nat) (hL:L[j]? = some (tr ids [v] xs)) (hn:e.sz = n) (hx:Av xs i = some x) (hc:AC c = true) (hu:Up o c f) (hk:∀ z,z = xs.set i.toNat (f x)→Okh (L.set j (tr ids [v] z)) (k und) (mk z) P) :
  Okh L (fun S=>pe (Aj 1 (flP o 1 (elP n v i.toNat)) c S) k) (Lu (xs.set i.toNat (f x)) mk) P:=jI j hL hn hx hc hu (hk _ rfl)
end
end
end Go.Rf
