/- A cluster in a box, written by closures: parts of trees, weak slices, results in the caller's store. -/
import Derived.Test.YtkbdneigeghbaaaDoorRh10
set_option linter.unusedVariables false
set_option linter.unusedSimpArgs false
namespace Go.Rf
open Go
def P5 {X τ:Type} (E:X→τ→AV) (F:X→τ→List En) (t:τ) (r:AV×St):Prop:=∃ x,r.1 = E x t∧HP r.2 (F x t)
section
variable {ρ τ:Type} {L:List En} {m:Option τ} {P:τ→ρ→Prop}
theorem q_s5 {X T:Type} {run:RunT} {g:FuncId} {args:List AV} {E:X→T→AV} {F:X→T→List En} {mg:Option T} {x:St→Option (AV×St)} {k:AV→St→Option ρ} {mk:T→Option τ} (hv:∀ S,x S = callS run g args S) (hf:Okh L (fun S=>run g args S) mg (P5 E F)) (hk:∀ t,mg = some t→∀ x,Okh (F x t) (k (E x t)) (mk t) P) :
    Okh L (fun S=>pe (x S) k) (mg.bind mk) P:=fun S hS=>by
  intro t ht
  rw [Option.bind_eq_some_iff] at ht
  obtain ⟨y,hy,hm⟩:=ht
  obtain ⟨⟨v,S1⟩,h1,u,h2,h3⟩:=hf S hS y hy
  have h2:v = E u y:=h2
  subst h2
  show ∃ r,pe (x S) k = some r∧_
  rw [hv]
  unfold callS
  have h1:run g args S = some (E u y,S1):=h1
  rw [h1]
  exact hk y hy u S1 h3 t hm
theorem q_ret5 {X T:Type} {v:AV} {E:X→T→AV} {F:X→T→List En} {t:T} (x:X) (n:Nat) (hv:v = E x t) (hF:L.drop n = F x t):Okh L (fun S=>some (v,S)) (some t) (P5 E F):=fun S hS t' ht=>by
  injection ht with ht; subst ht
  exact ⟨_,rfl,x,hv,hF ▸ hS.drop n⟩
theorem q_retm5 {X T:Type} {y:St→Option AV} {v:AV} {E:X→T→AV} {F:X→T→List En} {t:T} (x:X) (n:Nat) (hy:∀ S,HP S L→y S = some v) (hv:v = E x t) (hF:L.drop n = F x t):Okh L (fun S=>(y S).map (·,S)) (some t) (P5 E F):=fun S hS t' ht=>by
  injection ht with ht; subst ht
  exact ⟨(v,S),by show (y S).map (·,S) = _; rw [hy S hS]; rfl,x,hv,hF ▸ hS.drop n⟩
end
section
variable {α:Type} [e:Enc α]
def wrk (S:St) (ids:List Nat) (cs:List AV) (x:α):Prop:=cs.length = e.sz∧(∀ i∈ids,i < S.length)∧∀ S':St,(∀ i∈ids,S'[i]? = S[i]?)→∀ (brw:Bool) (k j:Nat) (l:Bool),e.dp < k→e.dp < j→(cs.map (frz brw S' k)).map (nrm l j) = e.cs l x
theorem wrk.st {S S':St} {ids:List Nat} {cs:List AV} {x:α} (hS:∀ i∈ids,S'[i]? = S[i]?) (h:wrk S ids cs x):wrk S' ids cs x:=by
  obtain ⟨h1,h2,h3⟩:=h
  refine ⟨h1,fun i hi=>?_,fun S'' hS''=>h3 S'' fun i hi=>(hS'' i hi).trans (hS i hi)⟩
  have h4:=hS i hi
  rw [List.getElem?_eq_getElem (h2 i hi)] at h4
  exact (List.getElem?_eq_some_iff.1 h4).1
theorem wrk_fro {S:St} {l:Bool} {x:α}:wrk S [] (e.cs l x) x:=⟨e.len _ _,(fun _ hi=>by cases hi),(fun S' _ brw k j l' hk hj=>by rw [e.frz _ _ _ _ _ (by omega),e.nrm _ _ _ _ hj])⟩
theorem rows_w {S:St} {brw l:Bool} {k j:Nat} (hk:e.dp < k) (hj:e.dp < j):∀ {es:List (List AV)} {xs:List α} {is:List (List Nat)},rowsT (wrk S) es xs is→(es.map (·.map (frz brw S k))).map (·.map (nrm l j)) = xs.map (e.cs l)
  | [],[],[],_=>rfl
  | c::es,x::xs,i::is,h=>by
    simp only [List.map_cons]
    rw [h.1.2.2 S (fun _ _=>rfl) brw k j l hk hj,rows_w hk hj h.2]
def wla (ids:List Nat) (v:AV) (xs:List α):En where
  ids:=ids
  ok S:=(v = .rsl false true []∧xs = []∧ids = [])∨∃ b fl pl es is,v = .bsl b 0 xs.length xs.length fl∧S[b]? = some ⟨e.sz,es,pl⟩∧(pl = true→es.all (·.all plain) = true)∧rowsT (wrk S) es xs is∧ids = b::is.flatten∧b ∉ is.flatten
  st S S' h:=by
    rintro (h1 | ⟨b,fl,pl,es,is,rfl,h2,h3,h4,rfl,h6⟩)
    · exact .inl h1
    · exact .inr ⟨b,fl,pl,es,is,rfl,by rw [h b (by simp)]; exact h2,h3,h4.monoS fun i c x hi hh=>wrk.st (fun j hj=>h j (List.mem_cons_of_mem _ (List.mem_flatten.2 ⟨i,hi,hj⟩))) hh,rfl,h6⟩
  lt S h i hi:=by
    rcases h with ⟨_,_,rfl⟩ | ⟨b,fl,pl,es,is,rfl,h2,h3,h4,rfl,h6⟩
    · cases hi
    · rcases List.mem_cons.1 hi with rfl | hi
      · exact (List.getElem?_eq_some_iff.1 h2).1
      · obtain ⟨l,hl,hil⟩:=List.mem_flatten.1 hi
        obtain ⟨j,hj,rfl⟩:=List.mem_iff_getElem.1 hl
        have hlen:=h4.len
        obtain ⟨c,i',k1,k2,k3⟩:=h4.get j (List.getElem?_eq_getElem (show j < xs.length by omega))
        rw [List.getElem?_eq_getElem hj] at k2
        injection k2 with k2
        subst k2
        exact k3.2.1 i hil
section
variable {ρ τ:Type} {L:List En} {m:Option τ} {P:τ→ρ→Prop}
theorem q_apw {ids:List Nat} {v:AV} {xs:List α} {y:α} {l fl':Bool} {n by_:Nat} {k:AV→St→Option ρ} {mk:List α→Option τ} (hn:e.sz = n)
    (hk:∀ z,appO by_ xs [y] = some z→∀ v' ids',Okh (wla ids' v' z::L) (k v') (mk z) P):Okh (wla ids v xs::L) (fun S=>pe (appA n by_ v (.rsl l fl' ([y].map (e.cs l))) S) k) ((appO by_ xs [y]).bind mk) P:=fun S hS=>by
  intro u hu
  rw [Option.bind_eq_some_iff] at hu
  obtain ⟨z,hz,hm⟩:=hu
  have hz0:=hz
  unfold appO at hz
  split at hz <;> try (cases hz; done)
  rename_i hb
  injection hz with hz
  subst hz
  subst hn
  rw [List.length_singleton] at hb
  have hp:=List.pairwise_cons.1 hS.2
  have hc:(e.cs l y).length = e.sz:=e.len _ _
  have hnew:([y].map (e.cs l)).all (·.length == e.sz) = true:=by simp [hc]
  have step:∀ (v':AV) (S':St) (ids':List Nat),appA e.sz by_ v (.rsl l fl' ([y].map (e.cs l))) S = some (v',S')→(wla ids' v' (xs++[y])).ok S'→(∀ j,j ∉ ids→j < S.length→S'[j]? = S[j]?)→(∀ j∈ids',j∈ids∨S.length≤j)→∃ q,pe (appA e.sz by_ v (.rsl l fl' ([y].map (e.cs l))) S) k = some q∧P u q:=by
    intro v' S' ids' h1 h2 h3 h4
    rw [h1]
    refine hk _ hz0 v' ids' S' ⟨fun en hen=>?_,List.pairwise_cons.2 ⟨fun en hen j hj hin=>?_,hp.2⟩⟩ u hm
    · rcases List.mem_cons.1 hen with rfl | hen
      · exact h2
      · exact en.st S S' (fun j hj=>h3 j (fun hi=>hp.1 en hen j hi hj) (en.lt S (hS.1 en (by simp [hen])) j hj)) (hS.1 en (by simp [hen]))
    · rcases h4 j hj with h | h
      · exact hp.1 en hen j h hin
      · have:=en.lt S (hS.1 en (by simp [hen])) j hin
        omega
  rcases hS.get (k:=0) rfl with ⟨rfl,rfl,rfl⟩ | ⟨b,fl,pl,es,is,rfl,h2,h3,h4,rfl,h6⟩
  · refine step (.bsl S.length 0 1 1 false) (S++[⟨e.sz,[e.cs l y],[e.cs l y].all (·.all plain)⟩]) [S.length] ?_ (.inr ⟨S.length,false,_,[e.cs l y],[[]],rfl,by simp,fun h=>h,⟨wrk_fro,trivial⟩,rfl,by simp⟩) (fun j _ hj=>List.getElem?_append_left hj) (fun j hj=>.inr (by simp at hj; omega))
    unfold appA
    simp only [elemsOf,aapp,List.map_cons,List.map_nil]
    simp only [List.map_cons,List.map_nil] at hnew
    simp only [hnew,Bool.not_true,Bool.false_eq_true,if_false]
    rw [if_pos ⟨trivial,by simp,by simpa using hb⟩]
    simp
  · have hbl:b < S.length:=(List.getElem?_eq_some_iff.1 h2).1
    have hle:=h4.len.1
    have hlt:∀ j∈is.flatten,j < S.length:=fun j hj=>(wla (b::is.flatten) (.bsl b 0 xs.length xs.length fl) xs).lt S (hS.get (k:=0) rfl) j (List.mem_cons_of_mem _ hj)
    have hfl:(is++[[]]).flatten = is.flatten:=by simp
    cases fl
    · refine step (.bsl b 0 (xs.length + 1) (xs.length + 1) false) (S.set b ⟨e.sz,es++[e.cs l y],pl && [e.cs l y].all (·.all plain)⟩) (b::is.flatten) ?_ (.inr ⟨b,false,pl && [e.cs l y].all (·.all plain),es++[e.cs l y],is++[[]],by simp,by rw [List.getElem?_set_self hbl],fun h=>?_,?_,by rw [hfl],by rw [hfl]; exact h6⟩) (fun j hj _=>List.getElem?_set_ne (by rintro rfl; exact hj (by simp))) (fun j hj=>.inl hj)
      · unfold appA
        simp only [elemsOf,aapp,List.map_cons,List.map_nil]
        simp only [List.map_cons,List.map_nil] at hnew
        simp only [hnew,Bool.not_true,Bool.false_eq_true,if_false,h2]
        rw [if_pos ⟨hle,trivial,by omega,by simpa using hb⟩,if_pos (by omega),if_pos trivial]
        simp
      · rw [Bool.and_eq_true] at h
        rw [List.all_append,h3 h.1,h.2]; rfl
      · refine rowsT.snoc (h4.monoS fun i' c' x' hi' h'=>wrk.st (fun j hj=>List.getElem?_set_ne ?_) h') wrk_fro
        rintro rfl
        exact h6 (List.mem_flatten.2 ⟨i',hi',hj⟩)
    · refine step (.bsl S.length 0 (xs.length + 1) (xs.length + 1) false) (S++[⟨e.sz,es++[e.cs l y],pl && [e.cs l y].all (·.all plain)⟩]) (S.length::is.flatten) ?_ (.inr ⟨S.length,false,pl && [e.cs l y].all (·.all plain),es++[e.cs l y],is++[[]],by simp,by simp,fun h=>?_,?_,by rw [hfl],fun h=>?_⟩) (fun j _ hj=>List.getElem?_append_left hj) (fun j hj=>?_)
      · unfold appA
        simp only [elemsOf,aapp,List.map_cons,List.map_nil]
        simp only [List.map_cons,List.map_nil] at hnew
        simp only [hnew,Bool.not_true,Bool.false_eq_true,if_false,h2]
        rw [if_pos ⟨hle,trivial,by omega,by simpa using hb⟩,if_pos trivial,List.drop_zero,List.take_of_length_le (by omega)]
        simp
      · rw [Bool.and_eq_true] at h
        rw [List.all_append,h3 h.1,h.2]; rfl
      · refine rowsT.snoc (h4.monoS fun i' c' x' hi' h'=>wrk.st (fun j hj=>List.getElem?_append_left ?_) h') wrk_fro
        exact hlt j (List.mem_flatten.2 ⟨i',hi',hj⟩)
      · rw [hfl] at h
        have:=hlt _ h
        omega
      · rcases List.mem_cons.1 hj with rfl | hj
        · exact .inr (Nat.le_refl _)
        · exact .inl (List.mem_cons_of_mem _ hj)
end
end
section
variable {α:Type} [e:Enc α]
def wls (ids:List Nat) (v:AV) (xs:List α):En where
  ids:=ids
  ok S:=(∃ l fl,v = .rsl l fl (xs.map (e.cs l))∧ids = [])∨∃ b fl pl es is rs,v = .bsl b 0 xs.length (xs.length + List.length rs) fl∧S[b]? = some ⟨e.sz,es++rs,pl⟩∧(pl = true→(es++rs).all (·.all plain) = true)∧rowsT (wrk S) es xs is∧ids = b::is.flatten∧b ∉ is.flatten
  st S S' h:=by
    rintro (h1 | ⟨b,fl,pl,es,is,rs,rfl,h2,h3,h4,rfl,h6⟩)
    · exact .inl h1
    · exact .inr ⟨b,fl,pl,es,is,rs,rfl,by rw [h b (by simp)]; exact h2,h3,h4.monoS fun i c x hi hh=>wrk.st (fun j hj=>h j (List.mem_cons_of_mem _ (List.mem_flatten.2 ⟨i,hi,hj⟩))) hh,rfl,h6⟩
  lt S h i hi:=by
    rcases h with ⟨_,_,_,rfl⟩ | ⟨b,fl,pl,es,is,rs,rfl,h2,h3,h4,rfl,h6⟩
    · cases hi
    · rcases List.mem_cons.1 hi with rfl | hi
      · exact (List.getElem?_eq_some_iff.1 h2).1
      · obtain ⟨l,hl,hil⟩:=List.mem_flatten.1 hi
        obtain ⟨j,hj,rfl⟩:=List.mem_iff_getElem.1 hl
        have hlen:=h4.len
        obtain ⟨c,i',k1,k2,k3⟩:=h4.get j (List.getElem?_eq_getElem (show j < xs.length by omega))
        rw [List.getElem?_eq_getElem hj] at k2
        injection k2 with k2
        subst k2
        exact k3.2.1 i hil
theorem cv_wls {n:Nat} {L:List En} {ids:List Nat} {v:AV} {xs:List α} (i:Nat) (hL:L[i]? = some (wls ids v xs)) (hn:e.dp + 2≤n:=by decide):CV n L false v (fun l=>.rsl l false (xs.map (e.cs l))):=fun S hS=>by
  refine ⟨fun brw k j l hk hj=>?_,fun h0=>by cases h0⟩
  obtain ⟨k,rfl⟩:∃ j,k = j + 1:=⟨k - 1,by omega⟩
  obtain ⟨j,rfl⟩:∃ i,j = i + 1:=⟨j - 1,by omega⟩
  rcases hS.get hL with ⟨l0,fl,rfl,_⟩ | ⟨b,fl,pl,es,is,rs,rfl,h2,h3,h4,_,_⟩
  · simp only [frz,nrm]
    rw [map_nrm (by omega)]
  · have hle:=h4.len.1
    have hla:(es++rs).length = xs.length + rs.length:=by rw [List.length_append,hle]
    have htk:(es++rs).take xs.length = es:=by rw [← hle]; simp
    have key:=rows_w (brw:=brw) (l:=l) (S:=S) (show e.dp < k by omega) (show e.dp < j by omega) h4
    simp only [frz,h2,hla,if_true,List.drop_zero,htk]
    cases pl
    · simp only [Bool.false_eq_true,if_false,nrm]
      rw [key]
    · simp only [if_true,nrm]
      have h3':=h3 rfl
      rw [List.all_append,Bool.and_eq_true] at h3'
      rw [plain_frz (by omega) h3'.1] at key
      rw [key]
section
variable {ρ τ:Type} {L:List En} {m:Option τ} {P:τ→ρ→Prop}
theorem q_wf {l fl:Bool} {xs:List α} {k:St→Option ρ} (hk:Okh (wls [] (.rsl l fl (xs.map (e.cs l))) xs::L) k m P):Okh L k m P:=fun S hS=>hk S (hS.new (fun _ _=>rfl) (fun i hi=>by cases hi) (.inl ⟨l,fl,rfl,rfl⟩))
theorem q_lens {ids:List Nat} {v:AV} {xs:List α} {k:AV→St→Option ρ} (j:Nat) (hL:L[j]? = some (wls ids v xs)) (hk:Okh L (k (.int .i64 xs.length)) m P):Okh L (fun S=>pk (alen v) S fun r=>k r S) m P:=
  q_ph (x:=fun _=>alen v) (fun S hS=>by
    rcases hS.get hL with ⟨l,fl,rfl,_⟩ | ⟨b,fl,pl,es,is,rs,rfl,_⟩
    · simp [alen]
    · rfl) hk
theorem wls_elems {S:St} {ids:List Nat} {v:AV} {xs:List α} (h:(wls ids v xs).ok S):∃ es is,elemsOf S v = some es∧rowsT (wrk S) es xs is∧∀ i∈is.flatten,i∈ids:=by
  rcases h with ⟨l,fl,rfl,rfl⟩ | ⟨b,fl,pl,es,is,rs,rfl,h2,h3,h4,rfl,h6⟩
  · refine ⟨_,xs.map fun _=>[],rfl,?_,fun i hi=>?_⟩
    · exact rowsT.build (by simp) (by simp) fun q z hz=>⟨e.cs l z,[],by simp [hz],by simp [hz],wrk_fro⟩
    · rw [List.mem_flatten] at hi
      obtain ⟨q,hq,hi⟩:=hi
      obtain ⟨_,_,rfl⟩:=List.mem_map.1 hq
      cases hi
  · refine ⟨es,is,?_,h4,fun i hi=>List.mem_cons_of_mem _ hi⟩
    have hle:=h4.len.1
    have hla:(es++rs).length = xs.length + rs.length:=by rw [List.length_append,hle]
    have htk:(es++rs).take xs.length = es:=by rw [← hle]; simp
    simp only [elemsOf,h2,hla,if_true,List.drop_zero,htk]
def P7 (xs:List α) (L:List En) (t:List α) (r:AV×St):Prop:=t = xs∧∃ ids,HP r.2 (wla ids r.1 xs::L)
end
end
def Q4 (cs:List AV):Prop:=∀ v,cs[4]? = some v→(∀ l fl es,v = .rsl l fl es→fl = true)∧∀ b n L fl,v = .bsl b 0 n L fl→L = n
theorem Q4.sh {d:Nat} {cs:List AV} (h:Q4 cs):Q4 (cs.map fun a=>shv d (scrub a)):=fun v hv=>by
  rw [List.getElem?_map,Option.map_eq_some_iff] at hv
  obtain ⟨a,ha,rfl⟩:=hv
  obtain ⟨h1,h2⟩:=h a ha
  refine ⟨fun l fl es hh=>?_,fun b n L fl hh=>?_⟩
  · cases a <;> simp only [scrub] at hh <;> first
      | (simp [shv] at hh; done)
      | (split at hh
         · simp [shv] at hh
         · simp only [shv,AV.rsl.injEq,reduceCtorEq] at hh
           try exact h1 _ _ _ (by rw [← hh.2.1])
           )
  · cases a <;> simp only [scrub] at hh <;> first
      | (simp only [shv,AV.bsl.injEq] at hh
         obtain ⟨rfl,rfl,rfl,rfl,rfl⟩:=hh
         exact h2 _ _ _ _ rfl)
      | (simp [shv] at hh; done)
      | (split at hh <;> simp [shv] at hh)
def P1q {T:Type} [e:Enc T] [t:Tr T] (W:List AV→AV) (x:T) (r:AV×St):Prop:=∃ ids cs,r.1 = W cs∧t.ow r.2 ids cs x∧Q4 cs
section
variable {ρ τ:Type} {L:List En} {m:Option τ} {P:τ→ρ→Prop}
end
def Rd {α:Type} [e:Enc α] [t:Tr α] (o:Nat) (c:α→AV):Prop:=∀ (S:St) (ids:List Nat) (cs:List AV) (x:α),t.ow S ids cs x→o < cs.length∧cs[o]? = some (c x)
section
variable {α β:Type} [ea:Enc α] [eb:Enc β] [a:Tr α] [b:Tr β]
end
section
variable {ρ τ:Type} {L:List En} {m:Option τ} {P:τ→ρ→Prop} {α:Type} [e:Enc α] [t:Tr α] {ids:List Nat} {v:AV} {xs:List α} {n:Nat}
end
theorem cv_tra {α:Type} [e:Enc α] [t:Tr α] {n:Nat} {L:List En} {q:Bool} {ids:List Nat} {v:AV} {xs:List α} (i:Nat) (hL:L[i]? = some (tra ids v xs)) (hn:e.dp + 2≤n:=by decide):CV n L q v (fun l=>.rsl l false (xs.map (e.cs l))):=fun S hS=>
  cv_tr (L:=[tr ids [v] xs]) 0 rfl hn S ⟨fun en hen=>by
    rcases List.mem_singleton.1 hen with rfl
    exact (hS.get hL).1,List.pairwise_singleton _ _⟩
section
variable {ρ τ:Type} {L:List En} {m:Option τ} {P:τ→ρ→Prop} {α:Type} [e:Enc α] [t:Tr α] {ids:List Nat} {v:AV} {xs:List α} {n:Nat}
end
def wk {α:Type} [e:Enc α] (ids:List Nat) (v:AV) (xs:List α):En where
  ids:=ids
  ok S:=wrk S ids [v] xs∧cellsA v = [v]
  st _ _ h hh:=⟨wrk.st h hh.1,hh.2⟩
  lt _ h:=h.1.2.1
end Go.Rf
