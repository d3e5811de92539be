/- Trees in the store: read, written, parted and joined. -/
import Derived.Test.YtdlleiaejipncaaGreatDoorRh8
set_option linter.unusedVariables false
set_option linter.unusedSimpArgs false
namespace Go.Rf
open Go
def flP (o c:Nat):AV→AV
 | .bp b i o' _ L=>.bp b i (o' + o) c L
 | _=>.non
def L8 {α γ:Type} [ea:Enc α] [eg:Enc γ] [a:Tr α] [g:Tr γ] (ids i:List Nat) (cs ws:List AV) (put:γ→α):En where
 ids:=ids.filter fun j=>decide (j ∉ i)
 ok S:=(∀ j∈ids,j ∉ i→j < S.length)∧∀ (S':St) (y:γ),(∀ j∈ids,j ∉ i→S'[j]? = S[j]?)→g.ow S' i ws y→a.ow S' ids cs (put y)
 st S S' h:=by
  rintro ⟨h1,h2⟩
  have h':∀ j∈ids,j ∉ i→S'[j]? = S[j]?:=fun j hj hji=>h j (by simp [hj,hji])
  refine ⟨fun j hj hji=>?_,fun S'' y hS hy=>h2 S'' y (fun j hj hji=>(hS j hj hji).trans (h' j hj hji)) hy⟩
  have h3:=h1 j hj hji
  have h4:=h' j hj hji
  rw [List.getElem?_eq_getElem h3] at h4
  exact (List.getElem?_eq_some_iff.1 h4).1
 lt S h j hj:=by
  simp only [List.mem_filter,decide_eq_true_eq] at hj
  exact h.1 j hj.1 hj.2
noncomputable def CG {T τ:Type} (x:T) (f:T→Option τ):Option τ:=f x
section
variable {ρ τ:Type} {L:List En} {m:Option τ} {P:τ→ρ→Prop}
theorem gC {α γ:Type} [ea:Enc α] [eg:Enc γ] [a:Tr α] [g:Tr γ] {ids i:List Nat} {cs ws:List AV} {put:γ→α} {y:γ} {k:St→Option ρ} (hk:Okh (tr ids cs (put y)::L) k m P):Okh (tr i ws y::L8 ids i cs ws put::L) k m P:=fun S hS=>by
 have h1:g.ow S i ws y:=hS.get (k:=0) rfl
 have h2:(L8 ids i cs ws put).ok S:=hS.get (k:=1) rfl
 have hp:=List.pairwise_cons.1 hS.2
 have hp2:=List.pairwise_cons.1 hp.2
 refine hk S ⟨fun en hen=>?_,List.pairwise_cons.2 ⟨fun en hen j hj hin=>?_,hp2.2⟩⟩
 ·rcases List.mem_cons.1 hen with rfl | hen
  ·exact h2.2 S y (fun _ _ _=>rfl) h1
  ·exact hS.1 en (by simp [hen])
 ·by_cases hji:j∈i
  ·exact hp.1 en (by simp [hen]) j hji hin
  ·exact hp2.1 en hen j (by simp only [L8,List.mem_filter,decide_eq_true_eq]; exact ⟨hj,hji⟩) hin
theorem FU {α γ:Type} [ea:Enc α] [eg:Enc γ] [a:Tr α] [g:Tr γ] {ids i:List Nat} {cs ws:List AV} {put:γ→α} {y:γ} {k:St→Option ρ} {mk:α→Option τ} (hk:∀ z,z = put y→Okh (tr ids cs z::L) k (mk z) P):Okh (tr i ws y::L8 ids i cs ws put::L) k (CG (put y) mk) P:=gC (hk _ rfl)
theorem HP.part {α γ:Type} [ea:Enc α] [eg:Enc γ] [a:Tr α] [g:Tr γ] {S:St} {ids i:List Nat} {cs ws:List AV} {put:γ→α} {x:α} {y:γ} (hS:HP S (tr ids cs x::L)) (h1:g.ow S i ws y) (hi:∀ j∈i,j∈ids) (hc:∀ (S':St) (y:γ),(∀ j∈ids,j ∉ i→S'[j]? = S[j]?)→g.ow S' i ws y→a.ow S' ids cs (put y)):HP S (tr i ws y::L8 ids i cs ws put::L):=by
 have h0:a.ow S ids cs x:=hS.get (k:=0) rfl
 have hp:=List.pairwise_cons.1 hS.2
 refine ⟨fun en hen=>?_,List.pairwise_cons.2 ⟨fun en hen j hj hin=>?_,List.pairwise_cons.2 ⟨fun en hen j hj hin=>?_,hp.2⟩⟩⟩
 ·rcases List.mem_cons.1 hen with rfl | hen
  ·exact h1
  ·rcases List.mem_cons.1 hen with rfl | hen
   ·exact ⟨fun j hj _=>a.lt h0 j hj,hc⟩
   ·exact hS.1 en (by simp [hen])
 ·rcases List.mem_cons.1 hen with rfl | hen
  ·simp only [L8,List.mem_filter,decide_eq_true_eq] at hin
   exact hin.2 hj
  ·exact hp.1 en hen j (hi j hj) hin
 ·simp only [L8,List.mem_filter,decide_eq_true_eq] at hj
  exact hp.1 en hen j hj.1 hin
theorem Mr {α γ:Type} [ea:Enc α] [eg:Enc γ] [a:Tr α] [g:Tr γ] {ids:List Nat} {cs ws:List AV} {x:α} {o:Nat} {get:α→γ} {set:γ→α→α} {k:St→Option ρ} (hf:Fo o get set) (hw:(cs.drop o).take eg.sz = ws) (hk:∀ ic,Okh (tr ic ws (get x)::L8 ids ic cs ws (fun y=>set y x)::L) k m P):Okh (tr ids cs x::L) k m P:=fun S hS=>by
 have h0:a.ow S ids cs x:=hS.get (k:=0) rfl
 obtain ⟨_,i,k2,k3,k4⟩:=hf S ids cs x h0
 rw [hw] at k2 k4
 exact hk i S (hS.part k2 k3 k4)
section
variable {α:Type} [e:Enc α] [t:Tr α] {ids:List Nat} {v:AV} {xs:List α} {n:Nat}
theorem Ff {S:St} {i:Int} {x:α} (h:trList.ow S ids [v] xs) (hx:Al xs i = some x):∃ b fl pl es is rs,v = .bsl b 0 xs.length (xs.length + List.length rs) fl∧S[b]? = some ⟨e.sz,es++rs,pl⟩∧(pl = true→(es++rs).all (·.all A6) = true)∧Bf (t.ow S) es xs is∧ids = b::is.flatten∧ids.Nodup∧es.length = xs.length:=by
 obtain ⟨v',hv,⟨fl,rfl,rfl,rfl⟩ | ⟨b,fl,pl,es,is,rs,rfl,h1,h2,h3,rfl,h5⟩⟩:=h
 ·unfold Al at hx
  split at hx <;> simp at hx
 ·injection hv with hv
  exact ⟨b,fl,pl,es,is,rs,hv,h1,h2,h3,rfl,h5,h3.len.1⟩
theorem HM {α:Type} {es rs:List α} {i:Nat} (h:i < es.length):(es++rs)[i]? = es[i]?:=List.getElem?_append_left h
theorem Ik {k:AV→St→Option ρ} (j:Nat) (hL:L[j]? = some (tr ids [v] xs)) (hk:Okh L (k (.int .i64 xs.length)) m P):Okh L (fun S=>pk (FB v) S fun r=>k r S) m P:=fun S hS=>by
 have h1:FB v = some (.int .i64 xs.length):=by
  obtain ⟨v',hv,⟨fl,rfl,rfl,_⟩ | ⟨b,fl,pl,es,is,rs,rfl,_⟩⟩:=(show trList.ow S ids [v] xs from hS.get hL)
  ·injection hv with hv; subst hv; rfl
  ·injection hv with hv; subst hv; rfl
 show Fit (pk (FB v) S fun r=>k r S) m P
 rw [h1]
 exact hk S hS
theorem BZ {kk:IntKind} {i:Int} {k:AV→St→Option ρ} {mk:α→Option τ} (j:Nat) (hL:L[j]? = some (tr ids [v] xs)) (hn:e.sz = n) (hk:∀ x,Al xs i = some x→Okh L (k (elP n v i.toNat)) (mk x) P) :
  Okh L (fun S=>pk (Bj n v (.int kk i) S) S fun r=>k r S) ((Al xs i).bind mk) P:=fun S hS=>by
 intro y hy
 rw [Option.bind_eq_some_iff] at hy
 obtain ⟨x,hx,hm⟩:=hy
 obtain ⟨h0,h1,h2⟩:=Cn hx
 obtain ⟨b,fl,pl,es,is,rs,rfl,q1,_⟩:=Ff (hS.get hL) hx
 have hp:Bj n (.bsl b 0 xs.length (xs.length + rs.length) fl) (.int kk i) S = some (elP n (.bsl b 0 xs.length (xs.length + rs.length) fl) i.toNat):=by
  simp only [Bj,elP]
  rw [if_pos ⟨h0,by omega⟩,q1]
  simp [hn]
 show ∃ r,pk (Bj n (.bsl b 0 xs.length (xs.length + rs.length) fl) (.int kk i) S) S (fun r=>k r S) = some r∧_
 rw [hp]
 exact hk x hx S hS y hm
theorem Ci {i:Int} {x:α} {o c:Nat} {k:AV→St→Option ρ} (j:Nat) (hL:L[j]? = some (tr ids [v] xs)) (hx:Al xs i = some x) (ho:o + c≤n) (hk:Okh L (k (flP o c (elP n v i.toNat))) m P):Okh L (fun S=>pk (Cm (elP n v i.toNat) o c) S fun r=>k r S) m P:=fun S hS=>by
 obtain ⟨b,fl,pl,es,is,rs,rfl,q1,_⟩:=Ff (hS.get hL) hx
 have hp:Cm (elP n (.bsl b 0 xs.length (xs.length + rs.length) fl) i.toNat) o c = some (flP o c (elP n (.bsl b 0 xs.length (xs.length + rs.length) fl) i.toNat)):=by
  simp only [elP,Cm,flP,if_pos ho]
 show Fit (pk (Cm (elP n (.bsl b 0 xs.length (xs.length + rs.length) fl) i.toNat) o c) S fun r=>k r S) m P
 rw [hp]
 exact hk S hS
theorem fZ {i:Int} {x:α} {o:Nat} {c:AV} {f:α→α} {k:AV→St→Option ρ} (j:Nat) (hL:L[j]? = some (tr ids [v] xs)) (hn:e.sz = n) (hx:Al xs i = some x) (hc:A6 c = true) (hu:Up o c f) (hk:Okh (L.set j (tr ids [v] (xs.set i.toNat (f x)))) (k und) m P) :
  Okh L (fun S=>pe (An 1 (flP o 1 (elP n v i.toNat)) c S) k) m P:=fun S hS=>by
 obtain ⟨h0,h1,h2⟩:=Cn hx
 have hw:trList.ow S ids [v] xs:=hS.get hL
 obtain ⟨b,fl,pl,es,is,rs,rfl,q1,q2,q3,rfl,q5,q6⟩:=Ff hw hx
 obtain ⟨ec,ic,g1,g2,g3⟩:=q3.get i.toNat h2
 obtain ⟨u1,u2⟩:=hu S ic ec x g3
 have qa:(es++rs).length = xs.length + rs.length:=by rw [List.length_append,q6]
 have qs:∀ y,(es++rs).set i.toNat y = es.set i.toNat y++rs:=fun y=>List.set_append_left _ _ (by omega)
 have qg:(es++rs)[i.toNat]? = some ec:=(HM (by omega)).trans g1
 have hb:b < S.length:=(List.getElem?_eq_some_iff.1 q1).1
 have hcell:AE c = [c]:=by cases c <;> first | rfl | cases hc
 have hput:Br ec o [c] = ec.set o c:=by
  unfold Br
  rw [List.set_eq_take_append_cons_drop,if_pos u1]
  rfl
 have hst:An 1 (flP o 1 (elP n (.bsl b 0 xs.length (xs.length + rs.length) fl) i.toNat)) c S = some (und,S.set b ⟨e.sz,es.set i.toNat (ec.set o c)++rs,pl⟩):=by
  unfold An
  rw [hcell,if_pos ⟨rfl,by decide⟩]
  simp only [elP,flP,stA,q1,qa,Nat.zero_add,List.length_singleton,and_self,if_true,qg,qs,Option.map_some,hput,List.all_cons,hc,List.all_nil,Bool.and_true]
 show Fit (pe (An 1 (flP o 1 (elP n (.bsl b 0 xs.length (xs.length + rs.length) fl) i.toNat)) c S) k) m P
 rw [hst]
 have hbn:b ∉ is.flatten:=(List.nodup_cons.1 q5).1
 have hrows:Bf (t.ow (S.set b ⟨e.sz,es.set i.toNat (ec.set o c)++rs,pl⟩)) es xs is:=q3.monoS fun i' e' x' hi' h'=>t.st (fun j' hj'=>List.getElem?_set_ne (by
  rintro rfl
  exact hbn (List.mem_flatten.2 ⟨i',hi',hj'⟩))) h'
 have hicn:b ∉ ic:=fun hbi=>hbn (List.mem_flatten.2 ⟨ic,List.mem_of_getElem? g2,hbi⟩)
 have hu2:t.ow (S.set b ⟨e.sz,es.set i.toNat (ec.set o c)++rs,pl⟩) ic (ec.set o c) (f x):=t.st (fun j' hj'=>List.getElem?_set_ne (by rintro rfl; exact hicn hj')) u2
 have hset:=hrows.set i.toNat hu2
 have his:is.set i.toNat ic = is:=by
  apply List.ext_getElem?
  intro q
  rw [List.getElem?_set]
  split
  ·rename_i e1; subst e1
   split
   ·exact g2.symm
   ·rename_i hq; rw [List.getElem?_eq_none (by omega)]
  ·rfl
 rw [his] at hset
 refine hk _ (hS.upd hL (fun j' hj' _=>List.getElem?_set_ne (by rintro rfl; exact hj' (by simp [tr]))) (fun j' hj'=>.inl hj') ⟨_,rfl,.inr ⟨b,fl,pl,es.set i.toNat (ec.set o c),is,rs,by simp,by rw [List.getElem?_set_self hb],fun hp=>?_,hset,rfl,q5⟩⟩)
 have hall:=q2 hp
 rw [List.all_append,Bool.and_eq_true] at hall ⊢
 refine ⟨?_,hall.2⟩
 have hall:=hall.1
 rw [List.all_eq_true] at hall ⊢
 intro z hz
 rcases List.mem_or_eq_of_mem_set hz with h | h
 ·exact hall z h
 ·subst h
  rw [List.all_eq_true]
  intro q hq
  rcases List.mem_or_eq_of_mem_set hq with h | h
  ·exact List.all_eq_true.1 (hall ec (List.mem_of_getElem? g1)) q h
  ·subst h; exact hc
theorem IA:∀ {is:List (List Nat)} {i:Nat} {j:List Nat},is.flatten.Nodup→j.Nodup→(∀ q∈j,q ∉ is.flatten)→(is.set i j).flatten.Nodup
 | [],_,_,_,_,_=>by simp
 | a::is,0,j,h,hj,hd=>by
  simp only [List.set_cons_zero,List.flatten_cons,List.nodup_append] at h hd ⊢
  exact ⟨hj,h.2.1,fun x hx y hy e=>hd x hx (List.mem_append_right _ (e ▸ hy))⟩
 | a::is,i + 1,j,h,hj,hd=>by
  simp only [List.set_cons_succ,List.flatten_cons,List.nodup_append] at h hd ⊢
  refine ⟨h.1,IA h.2.1 hj fun q hq hn=>hd q hq (List.mem_append_right _ hn),fun x hx y hy e=>?_⟩
  obtain ⟨l,hl,hy2⟩:=List.mem_flatten.1 hy
  rcases List.mem_or_eq_of_mem_set hl with hl | rfl
  ·exact h.2.2 x hx y (List.mem_flatten.2 ⟨l,hl,hy2⟩) e
  ·exact hd y hy2 (List.mem_append_left _ (e ▸ hx))
theorem HH {is:List (List Nat)} {i:Nat} {j:List Nat} {q:Nat} (h:q∈(is.set i j).flatten):q∈is.flatten∨q∈j:=by
 obtain ⟨l,hl,hq⟩:=List.mem_flatten.1 h
 rcases List.mem_or_eq_of_mem_set hl with hl | rfl
 ·exact .inl (List.mem_flatten.2 ⟨l,hl,hq⟩)
 ·exact .inr hq
theorem Z8 {ids2:List Nat} {cs2:List AV} {i:Int} {x y:α} {a:AV} {k:AV→St→Option ρ} (hn:e.sz = n) (h0:n≠0) (hx:Al xs i = some x) (ha:AE a = cs2) (hk:∀ ids',Okh (tr ids' [v] (xs.set i.toNat y)::L) (k und) m P) :
  Okh (tr ids2 cs2 y::tr ids [v] xs::L) (fun S=>pe (An n (elP n v i.toNat) a S) k) m P:=fun S hS=>by
 obtain ⟨_,h1,h2⟩:=Cn hx
 have hy:t.ow S ids2 cs2 y:=hS.get (k:=0) rfl
 have hw:trList.ow S ids [v] xs:=hS.get (k:=1) rfl
 obtain ⟨b,fl,pl,es,is,rs,rfl,q1,q2,q3,rfl,q5,q6⟩:=Ff hw hx
 obtain ⟨ec,ic,g1,g2,g3⟩:=q3.get i.toNat h2
 have qa:(es++rs).length = xs.length + rs.length:=by rw [List.length_append,q6]
 have qs:∀ y,(es++rs).set i.toNat y = es.set i.toNat y++rs:=fun y=>List.set_append_left _ _ (by omega)
 have qg:(es++rs)[i.toNat]? = some ec:=(HM (by omega)).trans g1
 have hb:b < S.length:=(List.getElem?_eq_some_iff.1 q1).1
 have hp1:=List.pairwise_cons.1 hS.2
 have hp2:=List.pairwise_cons.1 hp1.2
 have hdis:∀ j∈ids2,j ∉ b::is.flatten:=fun j hj=>hp1.1 (tr (b::is.flatten) [.bsl b 0 xs.length (xs.length + rs.length) fl] xs) (by simp) j hj
 have hl2:cs2.length = n:=by rw [t.len hy,hn]
 have hle:ec.length = n:=by rw [t.len g3,hn]
 have hput:Br ec 0 cs2 = cs2:=by simp [Br,hl2,hle]
 have hst:An n (elP n (.bsl b 0 xs.length (xs.length + rs.length) fl) i.toNat) a S = some (und,S.set b ⟨e.sz,es.set i.toNat cs2++rs,pl && cs2.all A6⟩):=by
  unfold An
  rw [ha,if_pos ⟨hl2,h0⟩]
  simp only [elP,stA,q1,qa,Nat.zero_add,hl2,and_self,if_true,qg,qs,Option.map_some,hput]
 show Fit (pe (An n (elP n (.bsl b 0 xs.length (xs.length + rs.length) fl) i.toNat) a S) k) m P
 rw [hst]
 have hbn:b ∉ is.flatten:=(List.nodup_cons.1 q5).1
 have hfr:∀ j,j≠b→(S.set b ⟨e.sz,es.set i.toNat cs2++rs,pl && cs2.all A6⟩)[j]? = S[j]?:=fun j hj=>List.getElem?_set_ne (Ne.symm hj)
 have hrows:Bf (t.ow (S.set b ⟨e.sz,es.set i.toNat cs2++rs,pl && cs2.all A6⟩)) (es.set i.toNat cs2) (xs.set i.toNat y) (is.set i.toNat ids2):=
  (q3.monoS fun i' e' x' hi' h'=>t.st (fun j' hj'=>hfr j' (by
   rintro rfl
   exact hbn (List.mem_flatten.2 ⟨i',hi',hj'⟩))) h').set i.toNat (t.st (fun j hj=>hfr j (by
   rintro rfl
   exact hdis j hj (by simp))) hy)
 refine hk (b::(is.set i.toNat ids2).flatten) _ ⟨fun en hen=>?_,List.pairwise_cons.2 ⟨fun en hen j hj hin=>?_,hp2.2⟩⟩
 ·rcases List.mem_cons.1 hen with rfl | hen
  ·refine ⟨_,rfl,.inr ⟨b,fl,pl && cs2.all A6,es.set i.toNat cs2,is.set i.toNat ids2,rs,by simp,by rw [List.getElem?_set_self hb],fun hp=>?_,hrows,rfl,?_⟩⟩
   ·simp only [Bool.and_eq_true] at hp
    have hall:=q2 hp.1
    rw [List.all_append,Bool.and_eq_true] at hall ⊢
    refine ⟨?_,hall.2⟩
    have hall:=hall.1
    rw [List.all_eq_true] at hall ⊢
    intro z hz
    rcases List.mem_or_eq_of_mem_set hz with h | h
    ·exact hall z h
    ·subst h; exact hp.2
   ·refine List.nodup_cons.2 ⟨fun h=>?_,IA (List.nodup_cons.1 q5).2 (t.nd hy) fun q hq hn=>hdis q hq (List.mem_cons_of_mem _ hn)⟩
    rcases HH h with h | h
    ·exact hbn h
    ·exact hdis b h (by simp)
  ·exact en.st S _ (fun j hj=>hfr j fun e=>hp2.1 en hen b (by simp [tr]) (e ▸ hj)) (hS.1 en (by simp [hen]))
 ·rcases List.mem_cons.1 hj with rfl | hj
  ·exact hp2.1 en hen j (by simp [tr]) hin
  ·rcases HH hj with hj | hj
   ·exact hp2.1 en hen j (List.mem_cons_of_mem _ hj) hin
   ·exact hp1.1 en (by simp [hen]) j hj hin
theorem ZB {by_:Nat} {i:Int} {z:α} {zc:List AV} {k:AV→St→Option ρ} {mk:List α→Option τ} {G:Program} {tt:TypeId}
  (hm:∀ (S:St) (n:Nat),(n + 1) * (by_ + 1)≤70368744177664→Cq G tt (.int .i64 n) (.int .i64 n) S = some (.bsl S.length 0 n n true,S++[⟨e.sz,List.replicate n zc,false⟩]))
  (hz:∀ S,t.ow S [] zc z) (hk:∀ x,mkO by_ i z = some x→∀ v' ids',Okh (tr ids' [v'] x::L) (k v') (mk x) P):Okh L (fun S=>pe (Cq G tt (.int .i64 i) (.int .i64 i) S) k) ((mkO by_ i z).bind mk) P:=fun S hS=>by
 intro y hy
 rw [Option.bind_eq_some_iff] at hy
 obtain ⟨zs,hzs,hmm⟩:=hy
 have hzs0:=hzs
 unfold mkO at hzs
 split at hzs <;> try (cases hzs; done)
 rename_i hb
 injection hzs with hzs; subst hzs
 have h1:=hm S i.toNat hb.2
 rw [Int.toNat_of_nonneg hb.1] at h1
 show ∃ r,pe (Cq G tt (.int .i64 i) (.int .i64 i) S) k = some r∧_
 rw [h1]
 have hrows:∀ (S:St) (n:Nat),Bf (t.ow S) (List.replicate n zc) (List.replicate n z) (List.replicate n []):=by
  intro S n
  induction n with
  | zero=>trivial
  | succ n ih=>exact ⟨hz S,ih⟩
 have hfl:(List.replicate i.toNat ([]:List Nat)).flatten = []:=by simp
 refine hk _ hzs0 _ [S.length] _ (hS.new (fun j hj=>List.getElem?_append_left hj) (fun j hj=>by
  rw [List.mem_singleton.1 (show j∈[S.length] from hj)]; exact Nat.le_refl _) ⟨_,rfl,.inr ⟨S.length,true,false,_,_,[],by simp,by simp,fun h=>(by cases h),hrows _ _,by rw [hfl],by simp⟩⟩) y hmm
theorem Ut {γ:Type} [eg:Enc γ] [g:Tr γ] {i:Int} {x:α} {o:Nat} {get:α→γ} {set:γ→α→α} {k:AV→St→Option ρ} (hn:e.sz = n) (h1s:eg.sz = 1) (hx:Al xs i = some x) (hf:Fo o get set) (hk:∀ (w:AV) (ic:List Nat),Okh (tr ic [w] (get x)::L8 ids ic [v] [w] (fun y=>xs.set i.toNat (set y x))::L) (k w) m P) :
  Okh (tr ids [v] xs::L) (fun S=>pk (ld1 S (flP o 1 (elP n v i.toNat))) S fun r=>k r S) m P:=fun S hS=>by
 obtain ⟨h0,h1,h2⟩:=Cn hx
 have hw:trList.ow S ids [v] xs:=hS.get (k:=0) rfl
 obtain ⟨b,fl,pl,es,is,rs,rfl,q1,q2,q3,rfl,q5,q6⟩:=Ff hw hx
 obtain ⟨ec,ix,g1,g2,g3⟩:=q3.get i.toNat h2
 obtain ⟨k0,ic,k2,k3,k4⟩:=hf S ix ec x g3
 have qa:(es++rs).length = xs.length + rs.length:=by rw [List.length_append,q6]
 have qg:(es++rs)[i.toNat]? = some ec:=(HM (by omega)).trans g1
 rw [h1s] at k0 k2 k4
 have ho:o < ec.length:=by omega
 obtain ⟨w,hwd⟩:∃ w,(ec.drop o).take 1 = [w]:=⟨ec[o],by rw [List.drop_eq_getElem_cons ho]; rfl⟩
 rw [hwd] at k2 k4
 have hld:ld1 S (flP o 1 (elP n (.bsl b 0 xs.length (xs.length + rs.length) fl) i.toNat)) = some w:=by
  simp only [ld1,flP,elP,B9,q1,qa,if_true,Nat.zero_add,qg,hwd]
 show Fit (pk (ld1 S (flP o 1 (elP n (.bsl b 0 xs.length (xs.length + rs.length) fl) i.toNat))) S fun r=>k r S) m P
 rw [hld]
 have hbn:b ∉ is.flatten:=(List.nodup_cons.1 q5).1
 have hixm:∀ j∈ix,j∈is.flatten:=fun j hj=>List.mem_flatten.2 ⟨ix,List.mem_of_getElem? g2,hj⟩
 refine hk w ic S (hS.part k2 (fun j hj=>List.mem_cons_of_mem _ (hixm j (k3 j hj))) fun S' y hS' hy=>?_)
 have hrows:Bf (t.ow S') (es.set i.toNat ec) (xs.set i.toNat (set y x)) (is.set i.toNat ix):=by
  -- all rows but the i-th are as they were
  have key:∀ (q:Nat),q≠i.toNat→∀ {c:List AV} {z:α} {iz:List Nat},es[q]? = some c→xs[q]? = some z→is[q]? = some iz→t.ow S iz c z→t.ow S' iz c z:=by
   intro q hq c z iz e1 e2 e3 hz
   refine t.st (fun j' hj'=>hS' j' (List.mem_cons_of_mem _ (List.mem_flatten.2 ⟨iz,List.mem_of_getElem? e3,hj'⟩)) fun hji=>?_) hz
   have hnd:=(List.nodup_cons.1 q5).2
   rw [List.Nodup,List.pairwise_flatten] at hnd
   have hpw:=List.pairwise_iff_getElem.1 hnd.2
   obtain ⟨a1,a2⟩:=List.getElem?_eq_some_iff.1 e3
   obtain ⟨b1,b2⟩:=List.getElem?_eq_some_iff.1 g2
   rcases Nat.lt_or_gt_of_ne hq with hlt | hgt
   ·exact hpw q i.toNat a1 b1 hlt j' (by rw [a2]; exact hj') j' (by rw [b2]; exact k3 j' hji) rfl
   ·exact hpw i.toNat q b1 a1 hgt j' (by rw [b2]; exact k3 j' hji) j' (by rw [a2]; exact hj') rfl
  have hnew:t.ow S' ix ec (set y x):=k4 S' y (fun j' hj' hji=>hS' j' (List.mem_cons_of_mem _ (hixm j' hj')) hji) hy
  exact Bf.build (by simp [q6]) (by simp [q3.len.2]) fun q z hz=>by
   rw [List.getElem?_set] at hz
   by_cases hq:i.toNat = q
   ·subst hq
    rw [if_pos rfl,if_pos h1] at hz
    injection hz with hz
    subst hz
    exact ⟨ec,ix,by rw [List.getElem?_set,if_pos rfl,if_pos (by omega)],by rw [List.getElem?_set,if_pos rfl,if_pos (by have:=q3.len.2; omega)],hnew⟩
   ·rw [if_neg hq] at hz
    obtain ⟨c,iz,e1,e2,e3⟩:=q3.get q hz
    exact ⟨c,iz,by rw [List.getElem?_set,if_neg hq]; exact e1,by rw [List.getElem?_set,if_neg hq]; exact e2,key q (fun h=>hq h.symm) e1 hz e2 e3⟩
 have hes:es.set i.toNat ec = es:=by
  apply List.ext_getElem?
  intro q
  rw [List.getElem?_set]
  split
  ·rename_i e1; subst e1
   split
   ·exact g1.symm
   ·rename_i hq; rw [List.getElem?_eq_none (by omega)]
  ·rfl
 have his:is.set i.toNat ix = is:=by
  apply List.ext_getElem?
  intro q
  rw [List.getElem?_set]
  split
  ·rename_i e1; subst e1
   split
   ·exact g2.symm
   ·rename_i hq; rw [List.getElem?_eq_none (by omega)]
  ·rfl
 rw [hes,his] at hrows
 have hbox:S'[b]? = some ⟨e.sz,es++rs,pl⟩:=by
  rw [hS' b (by simp) fun hbi=>hbn (hixm b (k3 b hbi))]; exact q1
 exact ⟨_,rfl,.inr ⟨b,fl,pl,es,is,rs,by simp,hbox,q2,hrows,rfl,q5⟩⟩
def tra (ids:List Nat) (v:AV) (xs:List α):En where
 ids:=ids
 ok S:=trList.ow S ids [v] xs∧(∀ fl,v = .rsl false fl []→fl = true)∧∀ b n L fl,v = .bsl b 0 n L fl→L = n
 st _ _ h hh:=⟨trList.st h hh.1,hh.2⟩
 lt _ h:=trList.lt h.1
theorem q_wk {k:St→Option ρ} (hk:Okh (tr ids [v] xs::L) k m P):Okh (tra ids v xs::L) k m P:=fun S hS=>by
 have hp:=List.pairwise_cons.1 hS.2
 refine hk S ⟨fun en hen=>?_,List.pairwise_cons.2 ⟨fun en hen j hj=>hp.1 en hen j hj,hp.2⟩⟩
 rcases List.mem_cons.1 hen with rfl | hen
 ·exact (show trList.ow S ids [v] xs∧_ from hS.get (k:=0) rfl).1
 ·exact hS.1 en (by simp [hen])
theorem J2 {k:St→Option ρ} (hk:Okh (tra (α:=α) [] (.rsl false true []) []::L) k m P):Okh L k m P:=fun S hS=>hk S (hS.new (fun _ _=>rfl) (fun i hi=>by cases hi) ⟨⟨_,rfl,.inl ⟨true,rfl,rfl,rfl⟩⟩,⟨fun fl h=>(by injection h with _ h _; exact h.symm),fun b n L fl h=>(by cases h)⟩⟩)
theorem Mv {ids2:List Nat} {cs2:List AV} {x:α} {a:AV} {by_:Nat} {G:Program} {tt:TypeId} {k:AV→St→Option ρ} {mk:List α→Option τ} (hn:e.sz = n) (hb:∀ S:St,Av G tt 1 [(0,a)] S = (Er n 0 [(0,a)]).map fun es=>mkS n es S) (ha:AE a = cs2)
  (hk:∀ z,Bu by_ xs [x] = some z→∀ v' ids',Okh (tra ids' v' z::L) (k v') (mk z) P) :
  Okh (tr ids2 cs2 x::tra ids v xs::L) (fun S=>pe (Av G tt 1 [(0,a)] S) fun r S1=>pe (Bz n by_ v r S1) k) ((Bu by_ xs [x]).bind mk) P:=fun S hS=>by
 intro y hy
 rw [Option.bind_eq_some_iff] at hy
 obtain ⟨z,hz,hm⟩:=hy
 have hz0:=hz
 unfold Bu at hz
 split at hz <;> try (cases hz; done)
 rename_i hbound
 injection hz with hz
 subst hz
 rw [List.length_singleton] at hbound
 have hx:t.ow S ids2 cs2 x:=hS.get (k:=0) rfl
 obtain ⟨hv,hvt,hvL⟩:trList.ow S ids [v] xs∧(∀ fl,v = .rsl false fl []→fl = true)∧∀ b n L fl,v = .bsl b 0 n L fl→L = n:=hS.get (k:=1) rfl
 have hlen:cs2.length = n:=by rw [t.len hx,hn]
 have hp1:=List.pairwise_cons.1 hS.2
 have hp2:=List.pairwise_cons.1 hp1.2
 have hdis:∀ j∈ids2,j ∉ ids:=fun j hj=>hp1.1 (tra ids v xs) (by simp) j hj
 have hLok:∀ en∈L,en.ok S:=fun en hen=>hS.1 en (by simp [hen])
 -- the literal
 obtain ⟨r,S1,hr,hS1,hel,hS1l⟩:∃ r S1,Av G tt 1 [(0,a)] S = some (r,S1)∧(∀ j,j < S.length→S1[j]? = S[j]?)∧B0 S1 r = some [cs2]∧S.length≤S1.length:=by
  have hparts:Er n 0 [(0,a)] = some [cs2]:=by simp [Er,ha,hlen]
  rw [hb S,hparts]
  show ∃ r S1,some (mkS n [cs2] S) = some (r,S1)∧_
  unfold mkS
  split
  ·exact ⟨_,_,rfl,fun _ _=>rfl,rfl,Nat.le_refl _⟩
  ·exact ⟨_,_,rfl,fun j hj=>List.getElem?_append_left hj,by simp [B0],by simp⟩
 have hx1:t.ow S1 ids2 cs2 x:=t.st (fun j hj=>hS1 j (t.lt hx j hj)) hx
 have hv1:trList.ow S1 ids [v] xs:=trList.st (fun j hj=>hS1 j (trList.lt hv j hj)) hv
 have hguard:([cs2].all (·.length == n)) = true:=by simp [hlen]
 -- what comes
 obtain ⟨v',S2,ids',h2,h3,h4,h5⟩:∃ v' S2 ids',Bz n by_ v r S1 = some (v',S2)∧(trList.ow S2 ids' [v'] (xs++[x])∧(∀ fl,v' = .rsl false fl []→fl = true)∧∀ b n L fl,v' = .bsl b 0 n L fl→L = n)∧(∀ j,j ∉ ids→j < S.length→S2[j]? = S1[j]?)∧(∀ j∈ids',j∈ids∨j∈ids2∨S.length≤j):=by
  unfold Bz
  rw [hel]
  obtain ⟨v0,hv0,⟨fl,rfl,rfl,rfl⟩ | ⟨b,fl,pl,es,is,rs,rfl,q1,q2,q3,rfl,q5⟩⟩:=hv1
  ·injection hv0 with hv0
   subst hv0
   have hfl0:=hvt fl rfl
   subst hfl0
   refine ⟨.bsl S1.length 0 1 1 false,S1++[⟨n,[cs2],cs2.all A6⟩],S1.length::ids2,?_,⟨⟨_,rfl,.inr ⟨S1.length,false,cs2.all A6,[cs2],[ids2],[],rfl,by simp [hn],fun hp=>by simpa using hp,⟨t.st (fun j hj=>List.getElem?_append_left (t.lt hx1 j hj)) hx1,trivial⟩,by simp,List.nodup_cons.2 ⟨fun h=>by have:=t.lt hx1 _ h; omega,t.nd hx1⟩⟩⟩,⟨fun fl h=>(by cases h),fun b n L fl h=>(by injection h with _ _ h1 h2 _; omega)⟩⟩,fun j _ hj=>List.getElem?_append_left (by omega),fun j hj=>?_⟩
   ·simp only [EJ,hguard,Bool.not_true,Bool.false_eq_true,if_false]
    rw [if_pos ⟨trivial,rfl,by simpa using hbound⟩]
    simp
   ·rcases List.mem_cons.1 hj with rfl | hj
    ·exact .inr (.inr hS1l)
    ·exact .inr (.inl hj)
  ·injection hv0 with hv0
   subst hv0
   have hrs:rs = []:=by
    have:=hvL _ _ _ _ rfl
    exact List.eq_nil_of_length_eq_zero (by omega)
   subst hrs
   rw [List.append_nil] at q1 q2
   have hle:=q3.len.1
   have hb1:b < S1.length:=(List.getElem?_eq_some_iff.1 q1).1
   have hbS:b < S.length:=trList.lt hv b (by simp)
   have hbn2:b ∉ ids2:=fun h=>hdis b h (by simp)
   have hfl:is.flatten++ids2 = (is++[ids2]).flatten:=by simp
   have hnd:(is.flatten++ids2).Nodup:=by
    rw [List.nodup_append]
    exact ⟨(List.nodup_cons.1 q5).2,t.nd hx1,fun i hi j hj e=>hdis j hj (e ▸ List.mem_cons_of_mem _ hi)⟩
   cases fl
   ·-- in place
    refine ⟨.bsl b 0 (xs.length + 1) (xs.length + 1) false,S1.set b ⟨e.sz,es++[cs2],pl && cs2.all A6⟩,b::(is++[ids2]).flatten,?_,⟨⟨_,rfl,.inr ⟨b,false,pl && cs2.all A6,es++[cs2],is++[ids2],[],by simp,by rw [List.getElem?_set_self hb1,List.append_nil],fun hp=>?_,?_,rfl,?_⟩⟩,⟨fun fl h=>(by cases h),fun b n L fl h=>(by injection h with _ _ h1 h2 _; omega)⟩⟩,fun j hj _=>List.getElem?_set_ne (by rintro rfl; exact hj (by simp)),fun j hj=>?_⟩
    ·simp only [EJ,hguard,Bool.not_true,Bool.false_eq_true,if_false,q1,List.length_nil,Nat.add_zero]
     rw [if_pos ⟨by omega,hn,by omega,by simpa using hbound⟩,if_pos (by omega),if_pos trivial]
     simp
    ·rw [Bool.and_eq_true] at hp
     rw [List.append_nil,List.all_append,q2 hp.1]
     simpa using hp.2
    ·refine Bf.snoc (q3.monoS fun i' e' x' hi' h'=>t.st (fun j' hj'=>List.getElem?_set_ne ?_) h') (t.st (fun j' hj'=>List.getElem?_set_ne (by rintro rfl; exact hbn2 hj')) hx1)
     rintro rfl
     exact (List.nodup_cons.1 q5).1 (List.mem_flatten.2 ⟨i',hi',hj'⟩)
    ·rw [← hfl]
     refine List.nodup_cons.2 ⟨fun h=>?_,hnd⟩
     rcases List.mem_append.1 h with h | h
     ·exact (List.nodup_cons.1 q5).1 h
     ·exact hbn2 h
    ·rw [← hfl] at hj
     rcases List.mem_cons.1 hj with rfl | hj
     ·exact .inl (by simp)
     ·rcases List.mem_append.1 hj with hj | hj
      ·exact .inl (List.mem_cons_of_mem _ hj)
      ·exact .inr (.inl hj)
   ·-- a new array
    refine ⟨.bsl S1.length 0 (xs.length + 1) (xs.length + 1) false,S1++[⟨n,es++[cs2],pl && cs2.all A6⟩],S1.length::(is++[ids2]).flatten,?_,⟨⟨_,rfl,.inr ⟨S1.length,false,pl && cs2.all A6,es++[cs2],is++[ids2],[],by simp,by simp [hn],fun hp=>?_,?_,rfl,?_⟩⟩,⟨fun fl h=>(by cases h),fun b n L fl h=>(by injection h with _ _ h1 h2 _; omega)⟩⟩,fun j _ hj=>List.getElem?_append_left (by omega),fun j hj=>?_⟩
    ·simp only [EJ,hguard,Bool.not_true,Bool.false_eq_true,if_false,q1,List.length_nil,Nat.add_zero]
     rw [if_pos ⟨by omega,hn,by omega,by simpa using hbound⟩,if_pos trivial,List.drop_zero,List.take_of_length_le (by omega)]
     simp
    ·rw [Bool.and_eq_true] at hp
     rw [List.append_nil,List.all_append,q2 hp.1]
     simpa using hp.2
    ·refine Bf.snoc (q3.monoS fun i' e' x' hi' h'=>t.st (fun j' hj'=>List.getElem?_append_left ?_) h') (t.st (fun j' hj'=>List.getElem?_append_left (t.lt hx1 j' hj')) hx1)
     exact t.lt h' j' hj'
    ·rw [← hfl]
     refine List.nodup_cons.2 ⟨fun h=>?_,hnd⟩
     rcases List.mem_append.1 h with h | h
     ·have:=trList.lt hv S1.length (List.mem_cons_of_mem _ h); omega
     ·have:=t.lt hx1 _ h; omega
    ·rw [← hfl] at hj
     rcases List.mem_cons.1 hj with rfl | hj
     ·exact .inr (.inr hS1l)
     ·rcases List.mem_append.1 hj with hj | hj
      ·exact .inl (List.mem_cons_of_mem _ hj)
      ·exact .inr (.inl hj)
 show ∃ q,pe (Av G tt 1 [(0,a)] S) (fun r S1=>pe (Bz n by_ v r S1) k) = some q∧_
 rw [hr]
 show ∃ q,pe (Bz n by_ v r S1) k = some q∧_
 rw [h2]
 refine hk _ hz0 v' ids' S2 ⟨fun en hen=>?_,List.pairwise_cons.2 ⟨fun en hen j hj hin=>?_,hp2.2⟩⟩ y hm
 ·rcases List.mem_cons.1 hen with rfl | hen
  ·exact h3
  ·refine en.st S S2 (fun j hj=>?_) (hLok en hen)
   have hjl:=en.lt S (hLok en hen) j hj
   rw [h4 j (fun h=>hp2.1 en hen j h hj) hjl,hS1 j hjl]
 ·rcases h5 j hj with h | h | h
  ·exact hp2.1 en hen j h hin
  ·exact hp1.1 en (by simp [hen]) j h hin
  ·have:=en.lt S (hLok en hen) j hin; omega
theorem CH {i:Int} {x:α} {o:Nat} {c:AV} {f:α→α} {k:AV→St→Option ρ} {mk:List α→Option τ} (j:Nat) (hL:L[j]? = some (tr ids [v] xs)) (hn:e.sz = n) (hx:Al xs i = some x) (hc:A6 c = true) (hu:Up o c f) (hk:∀ z,z = xs.set i.toNat (f x)→Okh (L.set j (tr ids [v] z)) (k und) (mk z) P) :
  Okh L (fun S=>pe (An 1 (flP o 1 (elP n v i.toNat)) c S) k) (CG (xs.set i.toNat (f x)) mk) P:=fZ j hL hn hx hc hu (hk _ rfl)
theorem cQ (v:AV) (i:Nat):flP 0 1 (elP 1 v i) = elP 1 v i:=by cases v <;> rfl
theorem bB {i:Int} {x:α} {c:AV} {f:α→α} {k:AV→St→Option ρ} {mk:List α→Option τ} (j:Nat) (hL:L[j]? = some (tr ids [v] xs)) (hn:e.sz = 1) (hx:Al xs i = some x) (hc:A6 c = true) (hu:Up 0 c f) (hk:∀ z,z = xs.set i.toNat (f x)→Okh (L.set j (tr ids [v] z)) (k und) (mk z) P) :
  Okh L (fun S=>pe (An 1 (elP 1 v i.toNat) c S) k) (CG (xs.set i.toNat (f x)) mk) P:=by
 rw [← cQ]
 exact CH j hL hn hx hc hu hk
end
end
end Go.Rf
