/- Trees in the store: read, written, parted and joined. -/
import Derived.Test.YtgjljhchmokhfaaGreatRh8
set_option linter.unusedVariables false
set_option linter.unusedSimpArgs false
namespace Go.Rf
open Go
def flP (o c:Nat):AV→AV
 | .bp b i o' _ L=>.bp b i (o' + o) c L
 | _=>.non
def Wh {α γ:Type} [ea:Enc α] [eg:Enc γ] [a:Tr α] [g:Tr γ] (ids i:List Nat) (cs ws:List AV) (put:γ→α):En where
 ids:=ids.filter fun j=>decide (j ∉ i)
 ok S:=(∀ j∈ids,j ∉ i→j < S.length)∧∀ (S':St) (y:γ),(∀ j∈ids,j ∉ i→S'[j]? = S[j]?)→g.ow S' i ws y→a.ow S' ids cs (put y)
 st S S' h:=by
  rintro ⟨h1,h2⟩
  have h':∀ j∈ids,j ∉ i→S'[j]? = S[j]?:=fun j hj hji=>h j (by simp [hj,hji])
  refine ⟨fun j hj hji=>?_,fun S'' y hS hy=>h2 S'' y (fun j hj hji=>(hS j hj hji).trans (h' j hj hji)) hy⟩
  have h3:=h1 j hj hji
  have h4:=h' j hj hji
  rw [List.getElem?_eq_getElem h3] at h4
  exact (List.getElem?_eq_some_iff.1 h4).1
 lt S h j hj:=by
  simp only [List.mem_filter,decide_eq_true_eq] at hj
  exact h.1 j hj.1 hj.2
noncomputable def letO {T τ:Type} (x:T) (f:T→Option τ):Option τ:=f x
section
variable {ρ τ:Type} {L:List En} {m:Option τ} {P:τ→ρ→Prop}
theorem HP.part {α γ:Type} [ea:Enc α] [eg:Enc γ] [a:Tr α] [g:Tr γ] {S:St} {ids i:List Nat} {cs ws:List AV} {put:γ→α} {x:α} {y:γ} (hS:HP S (tr ids cs x::L)) (h1:g.ow S i ws y) (hi:∀ j∈i,j∈ids) (hc:∀ (S':St) (y:γ),(∀ j∈ids,j ∉ i→S'[j]? = S[j]?)→g.ow S' i ws y→a.ow S' ids cs (put y)):HP S (tr i ws y::Wh ids i cs ws put::L):=by
 have h0:a.ow S ids cs x:=hS.get (k:=0) rfl
 have hp:=List.pairwise_cons.1 hS.2
 refine ⟨fun en hen=>?_,List.pairwise_cons.2 ⟨fun en hen j hj hin=>?_,List.pairwise_cons.2 ⟨fun en hen j hj hin=>?_,hp.2⟩⟩⟩
 ·rcases List.mem_cons.1 hen with rfl | hen
  ·exact h1
  ·rcases List.mem_cons.1 hen with rfl | hen
   ·exact ⟨fun j hj _=>a.lt h0 j hj,hc⟩
   ·exact hS.1 en (by simp [hen])
 ·rcases List.mem_cons.1 hen with rfl | hen
  ·simp only [Wh,List.mem_filter,decide_eq_true_eq] at hin
   exact hin.2 hj
  ·exact hp.1 en hen j (hi j hj) hin
 ·simp only [Wh,List.mem_filter,decide_eq_true_eq] at hj
  exact hp.1 en hen j hj.1 hin
section
variable {α:Type} [e:Enc α] [t:Tr α] {ids:List Nat} {v:AV} {xs:List α} {n:Nat}
def tra (ids:List Nat) (v:AV) (xs:List α):En where
 ids:=ids
 ok S:=trList.ow S ids [v] xs∧(∀ fl,v = .rsl false fl []→fl = true)∧∀ b n L fl,v = .bsl b 0 n L fl→L = n
 st _ _ h hh:=⟨trList.st h hh.1,hh.2⟩
 lt _ h:=trList.lt h.1
theorem EN {k:St→Option ρ} (hk:Okh (tra (α:=α) [] (.rsl false true []) []::L) k m P):Okh L k m P:=fun S hS=>hk S (hS.new (fun _ _=>rfl) (fun i hi=>by cases hi) ⟨⟨_,rfl,.inl ⟨true,rfl,rfl,rfl⟩⟩,⟨fun fl h=>(by injection h with _ h _; exact h.symm),fun b n L fl h=>(by cases h)⟩⟩)
theorem HJ {ids2:List Nat} {cs2:List AV} {x:α} {a:AV} {by_:Nat} {G:Program} {tt:TypeId} {k:AV→St→Option ρ} {mk:List α→Option τ} (hn:e.sz = n) (hb:∀ S:St,An G tt 1 [(0,a)] S = (Ef n 0 [(0,a)]).map fun es=>mkS n es S) (ha:A5 a = cs2)
  (hk:∀ z,BV by_ xs [x] = some z→∀ v' ids',Okh (tra ids' v' z::L) (k v') (mk z) P) :
  Okh (tr ids2 cs2 x::tra ids v xs::L) (fun S=>pe (An G tt 1 [(0,a)] S) fun r S1=>pe (BW n by_ v r S1) k) ((BV by_ xs [x]).bind mk) P:=fun S hS=>by
 intro y hy
 rw [Option.bind_eq_some_iff] at hy
 obtain ⟨z,hz,hm⟩:=hy
 have hz0:=hz
 unfold BV at hz
 split at hz <;> try (cases hz; done)
 rename_i hbound
 injection hz with hz
 subst hz
 rw [List.length_singleton] at hbound
 have hx:t.ow S ids2 cs2 x:=hS.get (k:=0) rfl
 obtain ⟨hv,hvt,hvL⟩:trList.ow S ids [v] xs∧(∀ fl,v = .rsl false fl []→fl = true)∧∀ b n L fl,v = .bsl b 0 n L fl→L = n:=hS.get (k:=1) rfl
 have hlen:cs2.length = n:=by rw [t.len hx,hn]
 have hp1:=List.pairwise_cons.1 hS.2
 have hp2:=List.pairwise_cons.1 hp1.2
 have hdis:∀ j∈ids2,j ∉ ids:=fun j hj=>hp1.1 (tra ids v xs) (by simp) j hj
 have hLok:∀ en∈L,en.ok S:=fun en hen=>hS.1 en (by simp [hen])
 -- the literal
 obtain ⟨r,S1,hr,hS1,hel,hS1l⟩:∃ r S1,An G tt 1 [(0,a)] S = some (r,S1)∧(∀ j,j < S.length→S1[j]? = S[j]?)∧BQ S1 r = some [cs2]∧S.length≤S1.length:=by
  have hparts:Ef n 0 [(0,a)] = some [cs2]:=by simp [Ef,ha,hlen]
  rw [hb S,hparts]
  show ∃ r S1,some (mkS n [cs2] S) = some (r,S1)∧_
  unfold mkS
  split
  ·exact ⟨_,_,rfl,fun _ _=>rfl,rfl,Nat.le_refl _⟩
  ·exact ⟨_,_,rfl,fun j hj=>List.getElem?_append_left hj,by simp [BQ],by simp⟩
 have hx1:t.ow S1 ids2 cs2 x:=t.st (fun j hj=>hS1 j (t.lt hx j hj)) hx
 have hv1:trList.ow S1 ids [v] xs:=trList.st (fun j hj=>hS1 j (trList.lt hv j hj)) hv
 have hguard:([cs2].all (·.length == n)) = true:=by simp [hlen]
 -- what comes
 obtain ⟨v',S2,ids',h2,h3,h4,h5⟩:∃ v' S2 ids',BW n by_ v r S1 = some (v',S2)∧(trList.ow S2 ids' [v'] (xs++[x])∧(∀ fl,v' = .rsl false fl []→fl = true)∧∀ b n L fl,v' = .bsl b 0 n L fl→L = n)∧(∀ j,j ∉ ids→j < S.length→S2[j]? = S1[j]?)∧(∀ j∈ids',j∈ids∨j∈ids2∨S.length≤j):=by
  unfold BW
  rw [hel]
  obtain ⟨v0,hv0,⟨fl,rfl,rfl,rfl⟩ | ⟨b,fl,pl,es,is,rs,rfl,q1,q2,q3,rfl,q5⟩⟩:=hv1
  ·injection hv0 with hv0
   subst hv0
   have hfl0:=hvt fl rfl
   subst hfl0
   refine ⟨.bsl S1.length 0 1 1 false,S1++[⟨n,[cs2],cs2.all Az⟩],S1.length::ids2,?_,⟨⟨_,rfl,.inr ⟨S1.length,false,cs2.all Az,[cs2],[ids2],[],rfl,by simp [hn],fun hp=>by simpa using hp,⟨t.st (fun j hj=>List.getElem?_append_left (t.lt hx1 j hj)) hx1,trivial⟩,by simp,List.nodup_cons.2 ⟨fun h=>by have:=t.lt hx1 _ h; omega,t.nd hx1⟩⟩⟩,⟨fun fl h=>(by cases h),fun b n L fl h=>(by injection h with _ _ h1 h2 _; omega)⟩⟩,fun j _ hj=>List.getElem?_append_left (by omega),fun j hj=>?_⟩
   ·simp only [FC,hguard,Bool.not_true,Bool.false_eq_true,if_false]
    rw [if_pos ⟨trivial,rfl,by simpa using hbound⟩]
    simp
   ·rcases List.mem_cons.1 hj with rfl | hj
    ·exact .inr (.inr hS1l)
    ·exact .inr (.inl hj)
  ·injection hv0 with hv0
   subst hv0
   have hrs:rs = []:=by
    have:=hvL _ _ _ _ rfl
    exact List.eq_nil_of_length_eq_zero (by omega)
   subst hrs
   rw [List.append_nil] at q1 q2
   have hle:=q3.len.1
   have hb1:b < S1.length:=(List.getElem?_eq_some_iff.1 q1).1
   have hbS:b < S.length:=trList.lt hv b (by simp)
   have hbn2:b ∉ ids2:=fun h=>hdis b h (by simp)
   have hfl:is.flatten++ids2 = (is++[ids2]).flatten:=by simp
   have hnd:(is.flatten++ids2).Nodup:=by
    rw [List.nodup_append]
    exact ⟨(List.nodup_cons.1 q5).2,t.nd hx1,fun i hi j hj e=>hdis j hj (e ▸ List.mem_cons_of_mem _ hi)⟩
   cases fl
   ·-- in place
    refine ⟨.bsl b 0 (xs.length + 1) (xs.length + 1) false,S1.set b ⟨e.sz,es++[cs2],pl && cs2.all Az⟩,b::(is++[ids2]).flatten,?_,⟨⟨_,rfl,.inr ⟨b,false,pl && cs2.all Az,es++[cs2],is++[ids2],[],by simp,by rw [List.getElem?_set_self hb1,List.append_nil],fun hp=>?_,?_,rfl,?_⟩⟩,⟨fun fl h=>(by cases h),fun b n L fl h=>(by injection h with _ _ h1 h2 _; omega)⟩⟩,fun j hj _=>List.getElem?_set_ne (by rintro rfl; exact hj (by simp)),fun j hj=>?_⟩
    ·simp only [FC,hguard,Bool.not_true,Bool.false_eq_true,if_false,q1,List.length_nil,Nat.add_zero]
     rw [if_pos ⟨by omega,hn,by omega,by simpa using hbound⟩,if_pos (by omega),if_pos trivial]
     simp
    ·rw [Bool.and_eq_true] at hp
     rw [List.append_nil,List.all_append,q2 hp.1]
     simpa using hp.2
    ·refine AZ.snoc (q3.monoS fun i' e' x' hi' h'=>t.st (fun j' hj'=>List.getElem?_set_ne ?_) h') (t.st (fun j' hj'=>List.getElem?_set_ne (by rintro rfl; exact hbn2 hj')) hx1)
     rintro rfl
     exact (List.nodup_cons.1 q5).1 (List.mem_flatten.2 ⟨i',hi',hj'⟩)
    ·rw [← hfl]
     refine List.nodup_cons.2 ⟨fun h=>?_,hnd⟩
     rcases List.mem_append.1 h with h | h
     ·exact (List.nodup_cons.1 q5).1 h
     ·exact hbn2 h
    ·rw [← hfl] at hj
     rcases List.mem_cons.1 hj with rfl | hj
     ·exact .inl (by simp)
     ·rcases List.mem_append.1 hj with hj | hj
      ·exact .inl (List.mem_cons_of_mem _ hj)
      ·exact .inr (.inl hj)
   ·-- a new array
    refine ⟨.bsl S1.length 0 (xs.length + 1) (xs.length + 1) false,S1++[⟨n,es++[cs2],pl && cs2.all Az⟩],S1.length::(is++[ids2]).flatten,?_,⟨⟨_,rfl,.inr ⟨S1.length,false,pl && cs2.all Az,es++[cs2],is++[ids2],[],by simp,by simp [hn],fun hp=>?_,?_,rfl,?_⟩⟩,⟨fun fl h=>(by cases h),fun b n L fl h=>(by injection h with _ _ h1 h2 _; omega)⟩⟩,fun j _ hj=>List.getElem?_append_left (by omega),fun j hj=>?_⟩
    ·simp only [FC,hguard,Bool.not_true,Bool.false_eq_true,if_false,q1,List.length_nil,Nat.add_zero]
     rw [if_pos ⟨by omega,hn,by omega,by simpa using hbound⟩,if_pos trivial,List.drop_zero,List.take_of_length_le (by omega)]
     simp
    ·rw [Bool.and_eq_true] at hp
     rw [List.append_nil,List.all_append,q2 hp.1]
     simpa using hp.2
    ·refine AZ.snoc (q3.monoS fun i' e' x' hi' h'=>t.st (fun j' hj'=>List.getElem?_append_left ?_) h') (t.st (fun j' hj'=>List.getElem?_append_left (t.lt hx1 j' hj')) hx1)
     exact t.lt h' j' hj'
    ·rw [← hfl]
     refine List.nodup_cons.2 ⟨fun h=>?_,hnd⟩
     rcases List.mem_append.1 h with h | h
     ·have:=trList.lt hv S1.length (List.mem_cons_of_mem _ h); omega
     ·have:=t.lt hx1 _ h; omega
    ·rw [← hfl] at hj
     rcases List.mem_cons.1 hj with rfl | hj
     ·exact .inr (.inr hS1l)
     ·rcases List.mem_append.1 hj with hj | hj
      ·exact .inl (List.mem_cons_of_mem _ hj)
      ·exact .inr (.inl hj)
 show ∃ q,pe (An G tt 1 [(0,a)] S) (fun r S1=>pe (BW n by_ v r S1) k) = some q∧_
 rw [hr]
 show ∃ q,pe (BW n by_ v r S1) k = some q∧_
 rw [h2]
 refine hk _ hz0 v' ids' S2 ⟨fun en hen=>?_,List.pairwise_cons.2 ⟨fun en hen j hj hin=>?_,hp2.2⟩⟩ y hm
 ·rcases List.mem_cons.1 hen with rfl | hen
  ·exact h3
  ·refine en.st S S2 (fun j hj=>?_) (hLok en hen)
   have hjl:=en.lt S (hLok en hen) j hj
   rw [h4 j (fun h=>hp2.1 en hen j h hj) hjl,hS1 j hjl]
 ·rcases h5 j hj with h | h | h
  ·exact hp2.1 en hen j h hin
  ·exact hp1.1 en (by simp [hen]) j h hin
  ·have:=en.lt S (hLok en hen) j hin; omega
end
end
end Go.Rf
