/- A row that is put D8 a row of weak rows; slices of trees that come back and may grow. -/
import Derived.Test.YthbiabieiopobaaGreatDoorRh13
set_option linter.unusedVariables false
set_option linter.unusedSimpArgs false
namespace Go.Rf
open Go
theorem CVs.any {n:Nat} {L:List En} {q:Bool} {c:List AV} {f:Bool→List AV} (h:CVs n [] q c f):CVs n L q c f:=fun S _=>h S HP.nil
section
variable {ρ τ:Type} {L:List En} {m:Option τ} {P:τ→ρ→Prop}
theorem cQ {c:Bool} {x y:St→Option ρ} (h:c = true) (hk:Okh L x m P):Okh L (fun S=>ifA (.bool c) (x S) (y S)) m P:=by subst h; exact hk
theorem cR {c:Bool} {x y:St→Option ρ} (h:c = false) (hk:Okh L y m P):Okh L (fun S=>ifA (.bool c) (x S) (y S)) m P:=by subst h; exact hk
end
section
variable {α:Type} [e:Enc α]
def P8 (ids:List Nat) (v:AV) (xs:List α) (L:List En) (t:List α×Int) (r:AV×St):Prop:=
 ((t.2 == 0) = true∧∃ ids' w,r.1 = .tup [w,.int .i64 t.2]∧HP r.2 (wls ids' w t.1::L))∨((t.2 == 0) = false∧r.1 = .tup [.rsl false true [],.int .i64 t.2]∧HP r.2 (wls ids v xs::L))
section
variable {ρ τ:Type} {L:List En} {P:τ→ρ→Prop}
theorem q_s8 {ids:List Nat} {v:AV} {xs:List α} {run:CW} {g:FuncId} {args:List AV} {mg:Option (List α×Int)} {k:AV→St→Option ρ} {m1 m2:List α×Int→Option τ}
  (hf:Okh (wls ids v xs::L) (fun S=>run g args S) mg (P8 ids v xs L))
  (h1:∀ t,mg = some t→(t.2 == 0) = true→∀ ids' w,Okh (wls ids' w t.1::L) (k (.tup [w,.int .i64 t.2])) (m1 t) P)
  (h2:∀ t,mg = some t→(t.2 == 0) = false→Okh (wls ids v xs::L) (k (.tup [.rsl false true [],.int .i64 t.2])) (m2 t) P) :
  Okh (wls ids v xs::L) (fun S=>pe (Bc run g args S) k) (mg.bind fun t=>bif t.2 == 0 then m1 t else m2 t) P:=fun S hS=>by
 intro t ht
 rw [Option.bind_eq_some_iff] at ht
 obtain ⟨y,hy,hm⟩:=ht
 obtain ⟨⟨u,S1⟩,q1,⟨c,ids',w,q2,q3⟩ | ⟨c,q2,q3⟩⟩:=hf S hS y hy
 ·have q2:u = _:=q2
  subst q2
  rw [c] at hm
  show ∃ r,pe (Bc run g args S) k = some r∧_
  unfold Bc
  have q1:run g args S = some _:=q1
  rw [q1]
  exact h1 y hy c ids' w S1 q3 t hm
 ·have q2:u = _:=q2
  subst q2
  rw [c] at hm
  show ∃ r,pe (Bc run g args S) k = some r∧_
  unfold Bc
  have q1:run g args S = some _:=q1
  rw [q1]
  exact h2 y hy c S1 q3 t hm
theorem ZO {ids:List Nat} {v:AV} {xs:List α} {K:List En} {ids':List Nat} {w u:AV} {z:List α} {c:Int} (n:Nat) (hc:(c == 0) = true) (hu:u = .tup [w,.int .i64 c]) (hF:L.drop n = wls ids' w z::K) :
  Okh L (fun S=>some (u,S)) (some (z,c)) (P8 ids v xs K):=fun S hS t ht=>by
 injection ht with ht; subst ht
 exact ⟨_,rfl,.inl ⟨hc,ids',w,hu,hF ▸ hS.drop n⟩⟩
theorem ZP {ids:List Nat} {v:AV} {xs:List α} {K:List En} {u:AV} {z:List α} {c:Int} (n:Nat) (hc:(c == 0) = false) (hu:u = .tup [.rsl false true [],.int .i64 c]) (hF:L.drop n = wls ids v xs::K) :
  Okh L (fun S=>some (u,S)) (some (z,c)) (P8 ids v xs K):=fun S hS t ht=>by
 injection ht with ht; subst ht
 exact ⟨_,rfl,.inr ⟨hc,hu,hF ▸ hS.drop n⟩⟩
theorem jH {ids:List Nat} {v:AV} {xs:List α} {m:Option τ} {k:St→Option ρ} (hk:Okh (wls ids v xs::L) k m P):Okh (wla ids v xs::L) k m P:=fun S hS=>by
 have hp:=List.pairwise_cons.1 hS.2
 refine hk S ⟨fun en hen=>?_,List.pairwise_cons.2 ⟨hp.1,hp.2⟩⟩
 rcases List.mem_cons.1 hen with rfl | hen
 ·rcases hS.get (k:=0) rfl with ⟨rfl,rfl,rfl⟩ | ⟨b,fl,pl,es,is,rfl,h2,h3,h4,rfl,h6⟩
  ·exact .inl ⟨false,true,rfl,rfl⟩
  ·exact .inr ⟨b,fl,pl,es,is,[],rfl,by simpa using h2,by simpa using h3,h4,rfl,h6⟩
 ·exact hS.1 en (by simp [hen])
theorem QR {ids:List Nat} {v:AV} {xs:List α} {run:CW} {g:FuncId} {G:Program} {t0 e0:TypeId} {n by_:Nat} {mg:Option (List α)} {k:AV→St→Option ρ} {mk:List α→Option τ}
  (hr:∀ S,run g [v] S = pk (Ec G t0 v) S fun r1=>ifA r1 (some (AV.rsl false true [],S)) (pq (AN (A3 G t0 0 [] S) S) fun r2=>pe (BJ n by_ r2 v S) fun r3 S3=>some (r3,S3)))
  (hu:G.underlying t0 = some (.slice e0)) (hq:∀ {S:St},AN (A3 G t0 0 [] S) S = some (.rsl false true [],S)) (hn:e.sz = n) (hm:mg = Bw by_ [] xs)
  (hk:∀ z,mg = some z→∀ ids' v',Okh (wla ids' v' z::L) (k v') (mk z) P):Okh (wls ids v xs::L) (fun S=>pe (Lj run g [v] S) k) (mg.bind mk) P:=fun S hS=>by
 intro u hu'
 rw [Option.bind_eq_some_iff] at hu'
 obtain ⟨z,hz,hmk⟩:=hu'
 have hz0:=hz
 rw [hm] at hz
 unfold Bw at hz
 split at hz <;> try (cases hz; done)
 rename_i hb
 rw [List.nil_append] at hz
 injection hz with hz
 subst hz
 have hp:=List.pairwise_cons.1 hS.2
 have hw:(wls ids v xs).ok S:=hS.get (k:=0) rfl
 obtain ⟨es,is,h1,h2,h3⟩:=SB hw
 have step:∀ (v':AV) (S':St) (ids':List Nat),run g [v] S = some (v',S')→(∃ E,S' = S++E)→(wla ids' v' xs).ok S'→(∀ j∈ids',j∈ids∨S.length≤j)→∃ q,pe (Lj run g [v] S) k = some q∧P u q:=by
  intro v' S' ids' g1 g2 g3 g4
  unfold Lj
  rw [g1]
  have hg:XC S S':=g2
  simp only [if_pos hg]
  obtain ⟨E,rfl⟩:=g2
  refine hk _ hz0 ids' v' _ ⟨fun en hen=>?_,List.pairwise_cons.2 ⟨fun en hen j hj hin=>?_,hp.2⟩⟩ u hmk
  ·rcases List.mem_cons.1 hen with rfl | hen
   ·exact g3
   ·exact en.st S _ (fun j hj=>List.getElem?_append_left (en.lt S (hS.1 en (by simp [hen])) j hj)) (hS.1 en (by simp [hen]))
  ·rcases g4 j hj with h | h
   ·exact hp.1 en hen j h hin
   ·have:=en.lt S (hS.1 en (by simp [hen])) j hin
    omega
 have hle:=h2.len
 cases xs with
 | nil=>
  have he:es = []:=List.eq_nil_of_length_eq_zero (by simpa using hle.1)
  subst he
  refine step (.rsl false true []) S [] ?_ ⟨[],by simp⟩ (.inl ⟨rfl,rfl,rfl⟩) (fun j hj=>by cases hj)
  rw [hr,hq]
  have hy:(pq (some (AV.rsl false true [],S)) fun r2=>pe (BJ n by_ r2 v S) fun r3 S3=>some (r3,S3)) = some (.rsl false true [],S):=by
   simp only [pq]
   unfold BJ
   rw [h1]; rfl
  rcases hw with ⟨l,fl,rfl,_⟩ | ⟨b,fl,pl,es,is,rs,rfl,_⟩
  ·have:Ec G t0 (.rsl l fl (([]:List α).map (e.cs l))) = some .ub:=by simp [Ec,hu]
   rw [this]
   simp only [pk,Option.map_some,ifA]
   rw [hy]
   exact OP rfl
  ·have:Ec G t0 (.bsl b 0 ([]:List α).length (([]:List α).length + rs.length) fl) = some (.bool false):=by simp [Ec,hu]
   rw [this]
   simp only [pk,Option.map_some,ifA,cond_false]
   exact hy
 | cons x xs=>
  cases es with
  | nil=>simp at hle
  | cons c es=>
  have hall:(c::es).all (·.length == n) = true:=by
   rw [List.all_eq_true]
   intro a ha
   obtain ⟨j,hj,rfl⟩:=List.mem_iff_getElem.1 ha
   have hjx:j < (x::xs).length:=by rw [← hle.1]; exact hj
   obtain ⟨c',i',k1,k2,k3⟩:=h2.get j (List.getElem?_eq_getElem hjx)
   rw [List.getElem?_eq_getElem hj] at k1
   injection k1 with k1
   rw [k1,k3.1,hn]
   simp
  have hmem:∀ i∈is,∀ j∈i,j < S.length:=fun i hi j hj=>(wls ids v (x::xs)).lt S hw j (h3 j (List.mem_flatten.2 ⟨i,hi,hj⟩))
  refine step (.bsl S.length 0 (x::xs).length (x::xs).length false) (S++[⟨n,c::es,(c::es).all (·.all AC)⟩]) (S.length::is.flatten) ?_ ⟨_,rfl⟩ (.inr ⟨S.length,false,(c::es).all (·.all AC),c::es,is,rfl,by simp [hn],fun h=>h,?_,rfl,fun h=>?_⟩) (fun j hj=>?_)
  ·rw [hr,hq]
   have hy:(pq (some (AV.rsl false true [],S)) fun r2=>pe (BJ n by_ r2 v S) fun r3 S3=>some (r3,S3)) = some (.bsl S.length 0 (x::xs).length (x::xs).length false,S++[⟨n,c::es,(c::es).all (·.all AC)⟩]):=by
    simp only [pq]
    unfold BJ
    rw [h1]
    unfold FC
    simp only [hall,Bool.not_true,Bool.false_eq_true,if_false,List.length_nil,Nat.zero_add,List.nil_append,hle.1]
    rw [if_pos ⟨trivial,by simp,by simpa using hb⟩]
    rfl
   rcases hw with ⟨l,fl,rfl,_⟩ | ⟨b,fl,pl,es,is,rs,rfl,_⟩
   ·have:Ec G t0 (.rsl l fl ((x::xs).map (e.cs l))) = some (.bool false):=by simp [Ec,hu]
    rw [this]
    simp only [pk,Option.map_some,ifA,cond_false]
    exact hy
   ·have:Ec G t0 (.bsl b 0 (x::xs).length ((x::xs).length + rs.length) fl) = some (.bool false):=by simp [Ec,hu]
    rw [this]
    simp only [pk,Option.map_some,ifA,cond_false]
    exact hy
  ·exact h2.monoS fun i c x hi hh=>wrk.st (fun j hj=>List.getElem?_append_left (hmem i hi j hj)) hh
  ·obtain ⟨i,hi,hj⟩:=List.mem_flatten.1 h
   have:=hmem i hi _ hj
   omega
  ·rcases List.mem_cons.1 hj with rfl | hj
   ·exact .inr (Nat.le_refl _)
   ·exact .inl (h3 j hj)
end
end
theorem N1 {brw:Bool} {S:St} {k:Nat} {l:Bool} {cs:List AV} (h:1≤k):[AV.rp l cs].map (frz brw S k) = [AV.rp l cs]:=by
 obtain ⟨k,rfl⟩:∃ j,k = j + 1:=⟨k - 1,by omega⟩
 rfl
theorem KZ {n:Nat} {L:List En} {q:Bool} {b o m:Nat} {cs:List AV} (i:Nat) (hL:L[i]? = some (bx b cs)) (hp:((cs.drop o).take m).all AC = true) (hn:0 < n:=by decide):CV (n + 1) L q (.bp b 0 o m 1) (fun l=>.rp l ((cs.drop o).take m)):=fun S hS=>by
 have hpl:=List.all_eq_true.1 hp
 obtain ⟨pl,h2,h3⟩:=hS.get hL
 have e:∀ (brw:Bool) (k:Nat),0 < k→((cs.drop o).take m).map (frz brw S k) = (cs.drop o).take m:=fun brw k hk=>by
  calc _ = ((cs.drop o).take m).map id:=List.map_congr_left fun a ha=>E7 (hpl a ha) hk
   _ = _:=by simp
 have hlt:((cs.drop o).take m).any lt = false:=by
  rw [List.any_eq_false]
  intro a ha
  have:=hpl a ha
  cases a <;> simp [AC] at this <;> simp [lt]
 refine ⟨fun brw k j l hk hj=>?_,fun h0 k j hk hj=>?_⟩
 ·obtain ⟨k,rfl⟩:∃ j,k = j + 1:=⟨k - 1,by omega⟩
  obtain ⟨j,rfl⟩:∃ i,j = i + 1:=⟨j - 1,by omega⟩
  have e2:((cs.drop o).take m).map (nrm l j) = (cs.drop o).take m:=by
   calc _ = ((cs.drop o).take m).map id:=List.map_congr_left fun a ha=>IB (hpl a ha)
    _ = _:=by simp
  simp only [frz,h2,List.length_singleton,if_true,List.getElem?_cons_zero]
  cases pl
  ·simp only [Bool.false_eq_true,if_false,nrm,e brw k (by omega),e2]
  ·simp only [if_true,nrm,e2]
 ·obtain ⟨k,rfl⟩:∃ j,k = j + 1:=⟨k - 1,by omega⟩
  obtain ⟨j,rfl⟩:∃ i,j = i + 1:=⟨j - 1,by omega⟩
  have e2:((cs.drop o).take m).any (ltD j) = false:=by
   rw [List.any_eq_false]
   intro a ha
   rw [GN (hpl a ha) (by omega)]
   simp
  simp only [frz,h2,List.length_singleton,if_true,List.getElem?_cons_zero]
  cases pl
  ·simp only [Bool.false_eq_true,if_false,ltD,e false k (by omega),hlt,e2,Bool.or_false]
  ·simp only [if_true,ltD,e2,Bool.or_false]
section
variable {α:Type} [e:Enc α] [t:Tr α]
def Qa (v:AV):Prop:=(∀ fl,v = .rsl false fl []→fl = true)∧∀ b n L fl,v = .bsl b 0 n L fl→L = n
def P1a (x:List α) (r:AV×St):Prop:=∃ ids,trList.ow r.2 ids [r.1] x∧Qa r.1
section
variable {ρ τ:Type} {L:List En} {P:τ→ρ→Prop}
end
end
section
variable {ρ τ:Type} {L:List En} {m:Option τ} {P:τ→ρ→Prop}
end
end Go.Rf
