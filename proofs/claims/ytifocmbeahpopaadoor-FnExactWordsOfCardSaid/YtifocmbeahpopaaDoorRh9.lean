/- Trees in the store: read, written, parted and joined. -/
import Derived.Test.YtifocmbeahpopaaDoorRh8
set_option linter.unusedVariables false
set_option linter.unusedSimpArgs false
namespace Go.Rf
open Go
def flP (o c:Nat):AV→AV
 | .bp b i o' _ L=>.bp b i (o' + o) c L
 | _=>.non
def hole {α γ:Type} [ea:Enc α] [eg:Enc γ] [a:Tr α] [g:Tr γ] (ids i:List Nat) (cs ws:List AV) (put:γ→α):En where
 ids:=ids.filter fun j=>decide (j ∉ i)
 ok S:=(∀ j∈ids,j ∉ i→j < S.length)∧∀ (S':St) (y:γ),(∀ j∈ids,j ∉ i→S'[j]? = S[j]?)→g.ow S' i ws y→a.ow S' ids cs (put y)
 st S S' h:=by
  rintro ⟨h1,h2⟩
  have h':∀ j∈ids,j ∉ i→S'[j]? = S[j]?:=fun j hj hji=>h j (by simp [hj,hji])
  refine ⟨fun j hj hji=>?_,fun S'' y hS hy=>h2 S'' y (fun j hj hji=>(hS j hj hji).trans (h' j hj hji)) hy⟩
  have h3:=h1 j hj hji
  have h4:=h' j hj hji
  rw [List.getElem?_eq_getElem h3] at h4
  exact (List.getElem?_eq_some_iff.1 h4).1
 lt S h j hj:=by
  simp only [List.mem_filter,decide_eq_true_eq] at hj
  exact h.1 j hj.1 hj.2
noncomputable def letO {T τ:Type} (x:T) (f:T→Option τ):Option τ:=f x
section
variable {ρ τ:Type} {L:List En} {m:Option τ} {P:τ→ρ→Prop}
theorem q_put {α γ:Type} [ea:Enc α] [eg:Enc γ] [a:Tr α] [g:Tr γ] {ids i:List Nat} {cs ws:List AV} {put:γ→α} {y:γ} {k:St→Option ρ} (hk:Okh (tr ids cs (put y)::L) k m P):Okh (tr i ws y::hole ids i cs ws put::L) k m P:=fun S hS=>by
 have h1:g.ow S i ws y:=hS.get (k:=0) rfl
 have h2:(hole ids i cs ws put).ok S:=hS.get (k:=1) rfl
 have hp:=List.pairwise_cons.1 hS.2
 have hp2:=List.pairwise_cons.1 hp.2
 refine hk S ⟨fun en hen=>?_,List.pairwise_cons.2 ⟨fun en hen j hj hin=>?_,hp2.2⟩⟩
 ·rcases List.mem_cons.1 hen with rfl | hen
  ·exact h2.2 S y (fun _ _ _=>rfl) h1
  ·exact hS.1 en (by simp [hen])
 ·by_cases hji:j∈i
  ·exact hp.1 en (by simp [hen]) j hji hin
  ·exact hp2.1 en hen j (by simp only [hole,List.mem_filter,decide_eq_true_eq]; exact ⟨hj,hji⟩) hin
theorem q_putl {α γ:Type} [ea:Enc α] [eg:Enc γ] [a:Tr α] [g:Tr γ] {ids i:List Nat} {cs ws:List AV} {put:γ→α} {y:γ} {k:St→Option ρ} {mk:α→Option τ} (hk:∀ z,z = put y→Okh (tr ids cs z::L) k (mk z) P):Okh (tr i ws y::hole ids i cs ws put::L) k (letO (put y) mk) P:=q_put (hk _ rfl)
theorem HP.part {α γ:Type} [ea:Enc α] [eg:Enc γ] [a:Tr α] [g:Tr γ] {S:St} {ids i:List Nat} {cs ws:List AV} {put:γ→α} {x:α} {y:γ} (hS:HP S (tr ids cs x::L)) (h1:g.ow S i ws y) (hi:∀ j∈i,j∈ids) (hc:∀ (S':St) (y:γ),(∀ j∈ids,j ∉ i→S'[j]? = S[j]?)→g.ow S' i ws y→a.ow S' ids cs (put y)):HP S (tr i ws y::hole ids i cs ws put::L):=by
 have h0:a.ow S ids cs x:=hS.get (k:=0) rfl
 have hp:=List.pairwise_cons.1 hS.2
 refine ⟨fun en hen=>?_,List.pairwise_cons.2 ⟨fun en hen j hj hin=>?_,List.pairwise_cons.2 ⟨fun en hen j hj hin=>?_,hp.2⟩⟩⟩
 ·rcases List.mem_cons.1 hen with rfl | hen
  ·exact h1
  ·rcases List.mem_cons.1 hen with rfl | hen
   ·exact ⟨fun j hj _=>a.lt h0 j hj,hc⟩
   ·exact hS.1 en (by simp [hen])
 ·rcases List.mem_cons.1 hen with rfl | hen
  ·simp only [hole,List.mem_filter,decide_eq_true_eq] at hin
   exact hin.2 hj
  ·exact hp.1 en hen j (hi j hj) hin
 ·simp only [hole,List.mem_filter,decide_eq_true_eq] at hj
  exact hp.1 en hen j hj.1 hin
theorem q_prt {α γ:Type} [ea:Enc α] [eg:Enc γ] [a:Tr α] [g:Tr γ] {ids:List Nat} {cs ws:List AV} {x:α} {o:Nat} {get:α→γ} {set:γ→α→α} {k:St→Option ρ} (hf:Fo o get set) (hw:(cs.drop o).take eg.sz = ws) (hk:∀ ic,Okh (tr ic ws (get x)::hole ids ic cs ws (fun y=>set y x)::L) k m P):Okh (tr ids cs x::L) k m P:=fun S hS=>by
 have h0:a.ow S ids cs x:=hS.get (k:=0) rfl
 obtain ⟨_,i,k2,k3,k4⟩:=hf S ids cs x h0
 rw [hw] at k2 k4
 exact hk i S (hS.part k2 k3 k4)
section
variable {α:Type} [e:Enc α] [t:Tr α] {ids:List Nat} {v:AV} {xs:List α} {n:Nat}
theorem tr_box {S:St} {i:Int} {x:α} (h:trList.ow S ids [v] xs) (hx:getI xs i = some x):∃ b fl pl es is rs,v = .bsl b 0 xs.length (xs.length + List.length rs) fl∧S[b]? = some ⟨e.sz,es++rs,pl⟩∧(pl = true→(es++rs).all (·.all plain) = true)∧rowsT (t.ow S) es xs is∧ids = b::is.flatten∧ids.Nodup∧es.length = xs.length:=by
 obtain ⟨v',hv,⟨fl,rfl,rfl,rfl⟩ | ⟨b,fl,pl,es,is,rs,rfl,h1,h2,h3,rfl,h5⟩⟩:=h
 ·unfold getI at hx
  split at hx <;> simp at hx
 ·injection hv with hv
  exact ⟨b,fl,pl,es,is,rs,hv,h1,h2,h3,rfl,h5,h3.len.1⟩
theorem get_app {α:Type} {es rs:List α} {i:Nat} (h:i < es.length):(es++rs)[i]? = es[i]?:=List.getElem?_append_left h
theorem q_lent {k:AV→St→Option ρ} (j:Nat) (hL:L[j]? = some (tr ids [v] xs)) (hk:Okh L (k (.int .i64 xs.length)) m P):Okh L (fun S=>pk (alen v) S fun r=>k r S) m P:=fun S hS=>by
 have h1:alen v = some (.int .i64 xs.length):=by
  obtain ⟨v',hv,⟨fl,rfl,rfl,_⟩ | ⟨b,fl,pl,es,is,rs,rfl,_⟩⟩:=(show trList.ow S ids [v] xs from hS.get hL)
  ·injection hv with hv; subst hv; rfl
  ·injection hv with hv; subst hv; rfl
 show Fit (pk (alen v) S fun r=>k r S) m P
 rw [h1]
 exact hk S hS
theorem q_ixt {kk:IntKind} {i:Int} {k:AV→St→Option ρ} {mk:α→Option τ} (j:Nat) (hL:L[j]? = some (tr ids [v] xs)) (hn:e.sz = n) (hk:∀ x,getI xs i = some x→Okh L (k (elP n v i.toNat)) (mk x) P) :
  Okh L (fun S=>pk (pindex n v (.int kk i) S) S fun r=>k r S) ((getI xs i).bind mk) P:=fun S hS=>by
 intro y hy
 rw [Option.bind_eq_some_iff] at hy
 obtain ⟨x,hx,hm⟩:=hy
 obtain ⟨h0,h1,h2⟩:=getI_lt hx
 obtain ⟨b,fl,pl,es,is,rs,rfl,q1,_⟩:=tr_box (hS.get hL) hx
 have hp:pindex n (.bsl b 0 xs.length (xs.length + rs.length) fl) (.int kk i) S = some (elP n (.bsl b 0 xs.length (xs.length + rs.length) fl) i.toNat):=by
  simp only [pindex,elP]
  rw [if_pos ⟨h0,by omega⟩,q1]
  simp [hn]
 show ∃ r,pk (pindex n (.bsl b 0 xs.length (xs.length + rs.length) fl) (.int kk i) S) S (fun r=>k r S) = some r∧_
 rw [hp]
 exact hk x hx S hS y hm
theorem q_stt {i:Int} {x:α} {o:Nat} {c:AV} {f:α→α} {k:AV→St→Option ρ} (j:Nat) (hL:L[j]? = some (tr ids [v] xs)) (hn:e.sz = n) (hx:getI xs i = some x) (hc:plain c = true) (hu:Up o c f) (hk:Okh (L.set j (tr ids [v] (xs.set i.toNat (f x)))) (k und) m P) :
  Okh L (fun S=>pe (storeA 1 (flP o 1 (elP n v i.toNat)) c S) k) m P:=fun S hS=>by
 obtain ⟨h0,h1,h2⟩:=getI_lt hx
 have hw:trList.ow S ids [v] xs:=hS.get hL
 obtain ⟨b,fl,pl,es,is,rs,rfl,q1,q2,q3,rfl,q5,q6⟩:=tr_box hw hx
 obtain ⟨ec,ic,g1,g2,g3⟩:=q3.get i.toNat h2
 obtain ⟨u1,u2⟩:=hu S ic ec x g3
 have qa:(es++rs).length = xs.length + rs.length:=by rw [List.length_append,q6]
 have qs:∀ y,(es++rs).set i.toNat y = es.set i.toNat y++rs:=fun y=>List.set_append_left _ _ (by omega)
 have qg:(es++rs)[i.toNat]? = some ec:=(get_app (by omega)).trans g1
 have hb:b < S.length:=(List.getElem?_eq_some_iff.1 q1).1
 have hcell:cellsA c = [c]:=by cases c <;> first | rfl | cases hc
 have hput:putCells ec o [c] = ec.set o c:=by
  unfold putCells
  rw [List.set_eq_take_append_cons_drop,if_pos u1]
  rfl
 have hst:storeA 1 (flP o 1 (elP n (.bsl b 0 xs.length (xs.length + rs.length) fl) i.toNat)) c S = some (und,S.set b ⟨e.sz,es.set i.toNat (ec.set o c)++rs,pl⟩):=by
  unfold storeA
  rw [hcell,if_pos ⟨rfl,by decide⟩]
  simp only [elP,flP,stA,q1,qa,Nat.zero_add,List.length_singleton,and_self,if_true,qg,qs,Option.map_some,hput,List.all_cons,hc,List.all_nil,Bool.and_true]
 show Fit (pe (storeA 1 (flP o 1 (elP n (.bsl b 0 xs.length (xs.length + rs.length) fl) i.toNat)) c S) k) m P
 rw [hst]
 have hbn:b ∉ is.flatten:=(List.nodup_cons.1 q5).1
 have hrows:rowsT (t.ow (S.set b ⟨e.sz,es.set i.toNat (ec.set o c)++rs,pl⟩)) es xs is:=q3.monoS fun i' e' x' hi' h'=>t.st (fun j' hj'=>List.getElem?_set_ne (by
  rintro rfl
  exact hbn (List.mem_flatten.2 ⟨i',hi',hj'⟩))) h'
 have hicn:b ∉ ic:=fun hbi=>hbn (List.mem_flatten.2 ⟨ic,List.mem_of_getElem? g2,hbi⟩)
 have hu2:t.ow (S.set b ⟨e.sz,es.set i.toNat (ec.set o c)++rs,pl⟩) ic (ec.set o c) (f x):=t.st (fun j' hj'=>List.getElem?_set_ne (by rintro rfl; exact hicn hj')) u2
 have hset:=hrows.set i.toNat hu2
 have his:is.set i.toNat ic = is:=by
  apply List.ext_getElem?
  intro q
  rw [List.getElem?_set]
  split
  ·rename_i e1; subst e1
   split
   ·exact g2.symm
   ·rename_i hq; rw [List.getElem?_eq_none (by omega)]
  ·rfl
 rw [his] at hset
 refine hk _ (hS.upd hL (fun j' hj' _=>List.getElem?_set_ne (by rintro rfl; exact hj' (by simp [tr]))) (fun j' hj'=>.inl hj') ⟨_,rfl,.inr ⟨b,fl,pl,es.set i.toNat (ec.set o c),is,rs,by simp,by rw [List.getElem?_set_self hb],fun hp=>?_,hset,rfl,q5⟩⟩)
 have hall:=q2 hp
 rw [List.all_append,Bool.and_eq_true] at hall ⊢
 refine ⟨?_,hall.2⟩
 have hall:=hall.1
 rw [List.all_eq_true] at hall ⊢
 intro z hz
 rcases List.mem_or_eq_of_mem_set hz with h | h
 ·exact hall z h
 ·subst h
  rw [List.all_eq_true]
  intro q hq
  rcases List.mem_or_eq_of_mem_set hq with h | h
  ·exact List.all_eq_true.1 (hall ec (List.mem_of_getElem? g1)) q h
  ·subst h; exact hc
def tra (ids:List Nat) (v:AV) (xs:List α):En where
 ids:=ids
 ok S:=trList.ow S ids [v] xs∧(∀ fl,v = .rsl false fl []→fl = true)∧∀ b n L fl,v = .bsl b 0 n L fl→L = n
 st _ _ h hh:=⟨trList.st h hh.1,hh.2⟩
 lt _ h:=trList.lt h.1
theorem q_stl {i:Int} {x:α} {o:Nat} {c:AV} {f:α→α} {k:AV→St→Option ρ} {mk:List α→Option τ} (j:Nat) (hL:L[j]? = some (tr ids [v] xs)) (hn:e.sz = n) (hx:getI xs i = some x) (hc:plain c = true) (hu:Up o c f) (hk:∀ z,z = xs.set i.toNat (f x)→Okh (L.set j (tr ids [v] z)) (k und) (mk z) P) :
  Okh L (fun S=>pe (storeA 1 (flP o 1 (elP n v i.toNat)) c S) k) (letO (xs.set i.toNat (f x)) mk) P:=q_stt j hL hn hx hc hu (hk _ rfl)
theorem flP_el (v:AV) (i:Nat):flP 0 1 (elP 1 v i) = elP 1 v i:=by cases v <;> rfl
theorem q_stl0 {i:Int} {x:α} {c:AV} {f:α→α} {k:AV→St→Option ρ} {mk:List α→Option τ} (j:Nat) (hL:L[j]? = some (tr ids [v] xs)) (hn:e.sz = 1) (hx:getI xs i = some x) (hc:plain c = true) (hu:Up 0 c f) (hk:∀ z,z = xs.set i.toNat (f x)→Okh (L.set j (tr ids [v] z)) (k und) (mk z) P) :
  Okh L (fun S=>pe (storeA 1 (elP 1 v i.toNat) c S) k) (letO (xs.set i.toNat (f x)) mk) P:=by
 rw [← flP_el]
 exact q_stl j hL hn hx hc hu hk
end
end
end Go.Rf
