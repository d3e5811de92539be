/- A cluster in a box, written by closures: parts of trees, weak slices, results in the caller's store. -/
import Derived.Test.YthbiabieiopobaaGreatDoorRh10
set_option linter.unusedVariables false
set_option linter.unusedSimpArgs false
namespace Go.Rf
open Go
def P5 {X τ:Type} (E:X→τ→AV) (F:X→τ→List En) (t:τ) (r:AV×St):Prop:=∃ x,r.1 = E x t∧HP r.2 (F x t)
section
variable {ρ τ:Type} {L:List En} {m:Option τ} {P:τ→ρ→Prop}
theorem D5 {X T:Type} {run:CW} {g:FuncId} {args:List AV} {E:X→T→AV} {F:X→T→List En} {mg:Option T} {x:St→Option (AV×St)} {k:AV→St→Option ρ} {mk:T→Option τ} (hv:∀ S,x S = Bc run g args S) (hf:Okh L (fun S=>run g args S) mg (P5 E F)) (hk:∀ t,mg = some t→∀ x,Okh (F x t) (k (E x t)) (mk t) P) :
    Okh L (fun S=>pe (x S) k) (mg.bind mk) P:=fun S hS=>by
  intro t ht
  rw [Option.bind_eq_some_iff] at ht
  obtain ⟨y,hy,hm⟩:=ht
  obtain ⟨⟨v,S1⟩,h1,u,h2,h3⟩:=hf S hS y hy
  have h2:v = E u y:=h2
  subst h2
  show ∃ r,pe (x S) k = some r∧_
  rw [hv]
  unfold Bc
  have h1:run g args S = some (E u y,S1):=h1
  rw [h1]
  exact hk y hy u S1 h3 t hm
theorem AU {X T:Type} {v:AV} {E:X→T→AV} {F:X→T→List En} {t:T} (x:X) (n:Nat) (hv:v = E x t) (hF:L.drop n = F x t):Okh L (fun S=>some (v,S)) (some t) (P5 E F):=fun S hS t' ht=>by
  injection ht with ht; subst ht
  exact ⟨_,rfl,x,hv,hF ▸ hS.drop n⟩
theorem Cc {T:Type} {x:St→Option ρ} {mg:Option T} {mk:T→Option τ} (h:∀ t,mg = some t→Okh L x (mk t) P):Okh L x (mg.bind mk) P:=fun S hS t ht=>by
  rw [Option.bind_eq_some_iff] at ht
  obtain ⟨y,hy,hm⟩:=ht
  exact h y hy S hS t hm
end
section
variable {α:Type} [e:Enc α]
def wrk (S:St) (ids:List Nat) (cs:List AV) (x:α):Prop:=cs.length = e.sz∧(∀ i∈ids,i < S.length)∧∀ S':St,(∀ i∈ids,S'[i]? = S[i]?)→∀ (brw:Bool) (k j:Nat) (l:Bool),e.dp < k→e.dp < j→(cs.map (frz brw S' k)).map (nrm l j) = e.cs l x
theorem wrk.st {S S':St} {ids:List Nat} {cs:List AV} {x:α} (hS:∀ i∈ids,S'[i]? = S[i]?) (h:wrk S ids cs x):wrk S' ids cs x:=by
  obtain ⟨h1,h2,h3⟩:=h
  refine ⟨h1,fun i hi=>?_,fun S'' hS''=>h3 S'' fun i hi=>(hS'' i hi).trans (hS i hi)⟩
  have h4:=hS i hi
  rw [List.getElem?_eq_getElem (h2 i hi)] at h4
  exact (List.getElem?_eq_some_iff.1 h4).1
theorem Um [t:Tr α] {S:St} {ids:List Nat} {cs:List AV} {x:α} (h:t.ow S ids cs x):wrk S ids cs x:=⟨t.len h,t.lt h,fun S' hS=>t.fz (t.st hS h)⟩
theorem GE_ {S:St} {l:Bool} {x:α}:wrk S [] (e.cs l x) x:=⟨e.len _ _,(fun _ hi=>by cases hi),(fun S' _ brw k j l' hk hj=>by rw [e.frz _ _ _ _ _ (by omega),e.nrm _ _ _ _ hj])⟩
theorem P6 {S:St} {brw l:Bool} {k j:Nat} (hk:e.dp < k) (hj:e.dp < j):∀ {es:List (List AV)} {xs:List α} {is:List (List Nat)},B0 (wrk S) es xs is→(es.map (·.map (frz brw S k))).map (·.map (nrm l j)) = xs.map (e.cs l)
  | [],[],[],_=>rfl
  | c::es,x::xs,i::is,h=>by
    simp only [List.map_cons]
    rw [h.1.2.2 S (fun _ _=>rfl) brw k j l hk hj,P6 hk hj h.2]
def wla (ids:List Nat) (v:AV) (xs:List α):En where
  ids:=ids
  ok S:=(v = .rsl false true []∧xs = []∧ids = [])∨∃ b fl pl es is,v = .bsl b 0 xs.length xs.length fl∧S[b]? = some ⟨e.sz,es,pl⟩∧(pl = true→es.all (·.all AC) = true)∧B0 (wrk S) es xs is∧ids = b::is.flatten∧b ∉ is.flatten
  st S S' h:=by
    rintro (h1 | ⟨b,fl,pl,es,is,rfl,h2,h3,h4,rfl,h6⟩)
    · exact .inl h1
    · exact .inr ⟨b,fl,pl,es,is,rfl,by rw [h b (by simp)]; exact h2,h3,h4.monoS fun i c x hi hh=>wrk.st (fun j hj=>h j (List.mem_cons_of_mem _ (List.mem_flatten.2 ⟨i,hi,hj⟩))) hh,rfl,h6⟩
  lt S h i hi:=by
    rcases h with ⟨_,_,rfl⟩ | ⟨b,fl,pl,es,is,rfl,h2,h3,h4,rfl,h6⟩
    · cases hi
    · rcases List.mem_cons.1 hi with rfl | hi
      · exact (List.getElem?_eq_some_iff.1 h2).1
      · obtain ⟨l,hl,hil⟩:=List.mem_flatten.1 hi
        obtain ⟨j,hj,rfl⟩:=List.mem_iff_getElem.1 hl
        have hlen:=h4.len
        obtain ⟨c,i',k1,k2,k3⟩:=h4.get j (List.getElem?_eq_getElem (show j < xs.length by omega))
        rw [List.getElem?_eq_getElem hj] at k2
        injection k2 with k2
        subst k2
        exact k3.2.1 i hil
theorem DZ {n:Nat} {L:List En} {ids:List Nat} {v:AV} {xs:List α} (i:Nat) (hL:L[i]? = some (wla ids v xs)) (hn:e.dp + 2≤n:=by decide):CV n L false v (fun l=>.rsl l false (xs.map (e.cs l))):=fun S hS=>by
  refine ⟨fun brw k j l hk hj=>?_,fun h0=>by cases h0⟩
  obtain ⟨k,rfl⟩:∃ j,k = j + 1:=⟨k - 1,by omega⟩
  obtain ⟨j,rfl⟩:∃ i,j = i + 1:=⟨j - 1,by omega⟩
  rcases hS.get hL with ⟨rfl,rfl,_⟩ | ⟨b,fl,pl,es,is,rfl,h2,h3,h4,_,_⟩
  · rfl
  · have hle:=h4.len.1
    have key:=P6 (brw:=brw) (l:=l) (S:=S) (show e.dp < k by omega) (show e.dp < j by omega) h4
    simp only [frz,h2,hle,if_true,List.drop_zero]
    rw [← hle,List.take_length]
    cases pl
    · simp only [Bool.false_eq_true,if_false,nrm]
      rw [key]
    · simp only [if_true,nrm]
      rw [GL (by omega) (h3 rfl)] at key
      rw [key]
theorem HP.cellw {S:St} {L:List En} (h:HP S L) {ids:List Nat} {v:AV} {xs:List α} (k:Nat) (hL:L[k]? = some (wla ids v xs)):AK v = [v]:=by
  rcases h.get hL with ⟨rfl,_⟩ | ⟨b,fl,pl,es,is,rfl,_⟩ <;> rfl
section
variable {ρ τ:Type} {L:List En} {m:Option τ} {P:τ→ρ→Prop}
theorem Vs {ids:List Nat} {v:AV} {xs:List α} {k:AV→St→Option ρ} (j:Nat) (hL:L[j]? = some (wla ids v xs)) (hk:Okh L (k (.int .i64 xs.length)) m P):Okh L (fun S=>pk (Fe v) S fun r=>k r S) m P:=
  GU (x:=fun _=>Fe v) (fun S hS=>by
    rcases hS.get hL with ⟨rfl,rfl,_⟩ | ⟨b,fl,pl,es,is,rfl,_⟩ <;> rfl) hk
theorem QS {ids:List Nat} {v:AV} {xs:List α} {y:α} {l fl':Bool} {n by_:Nat} {k:AV→St→Option ρ} {mk:List α→Option τ} (hn:e.sz = n)
    (hk:∀ z,Bw by_ xs [y] = some z→∀ v' ids',Okh (wla ids' v' z::L) (k v') (mk z) P):Okh (wla ids v xs::L) (fun S=>pe (BJ n by_ v (.rsl l fl' ([y].map (e.cs l))) S) k) ((Bw by_ xs [y]).bind mk) P:=fun S hS=>by
  intro u hu
  rw [Option.bind_eq_some_iff] at hu
  obtain ⟨z,hz,hm⟩:=hu
  have hz0:=hz
  unfold Bw at hz
  split at hz <;> try (cases hz; done)
  rename_i hb
  injection hz with hz
  subst hz
  subst hn
  rw [List.length_singleton] at hb
  have hp:=List.pairwise_cons.1 hS.2
  have hc:(e.cs l y).length = e.sz:=e.len _ _
  have hnew:([y].map (e.cs l)).all (·.length == e.sz) = true:=by simp [hc]
  have step:∀ (v':AV) (S':St) (ids':List Nat),BJ e.sz by_ v (.rsl l fl' ([y].map (e.cs l))) S = some (v',S')→(wla ids' v' (xs++[y])).ok S'→(∀ j,j ∉ ids→j < S.length→S'[j]? = S[j]?)→(∀ j∈ids',j∈ids∨S.length≤j)→∃ q,pe (BJ e.sz by_ v (.rsl l fl' ([y].map (e.cs l))) S) k = some q∧P u q:=by
    intro v' S' ids' h1 h2 h3 h4
    rw [h1]
    refine hk _ hz0 v' ids' S' ⟨fun en hen=>?_,List.pairwise_cons.2 ⟨fun en hen j hj hin=>?_,hp.2⟩⟩ u hm
    · rcases List.mem_cons.1 hen with rfl | hen
      · exact h2
      · exact en.st S S' (fun j hj=>h3 j (fun hi=>hp.1 en hen j hi hj) (en.lt S (hS.1 en (by simp [hen])) j hj)) (hS.1 en (by simp [hen]))
    · rcases h4 j hj with h | h
      · exact hp.1 en hen j h hin
      · have:=en.lt S (hS.1 en (by simp [hen])) j hin
        omega
  rcases hS.get (k:=0) rfl with ⟨rfl,rfl,rfl⟩ | ⟨b,fl,pl,es,is,rfl,h2,h3,h4,rfl,h6⟩
  · refine step (.bsl S.length 0 1 1 false) (S++[⟨e.sz,[e.cs l y],[e.cs l y].all (·.all AC)⟩]) [S.length] ?_ (.inr ⟨S.length,false,_,[e.cs l y],[[]],rfl,by simp,fun h=>h,⟨GE_,trivial⟩,rfl,by simp⟩) (fun j _ hj=>List.getElem?_append_left hj) (fun j hj=>.inr (by simp at hj; omega))
    unfold BJ
    simp only [BU,FC,List.map_cons,List.map_nil]
    simp only [List.map_cons,List.map_nil] at hnew
    simp only [hnew,Bool.not_true,Bool.false_eq_true,if_false]
    rw [if_pos ⟨trivial,by simp,by simpa using hb⟩]
    simp
  · have hbl:b < S.length:=(List.getElem?_eq_some_iff.1 h2).1
    have hle:=h4.len.1
    have hlt:∀ j∈is.flatten,j < S.length:=fun j hj=>(wla (b::is.flatten) (.bsl b 0 xs.length xs.length fl) xs).lt S (hS.get (k:=0) rfl) j (List.mem_cons_of_mem _ hj)
    have hfl:(is++[[]]).flatten = is.flatten:=by simp
    cases fl
    · refine step (.bsl b 0 (xs.length + 1) (xs.length + 1) false) (S.set b ⟨e.sz,es++[e.cs l y],pl && [e.cs l y].all (·.all AC)⟩) (b::is.flatten) ?_ (.inr ⟨b,false,pl && [e.cs l y].all (·.all AC),es++[e.cs l y],is++[[]],by simp,by rw [List.getElem?_set_self hbl],fun h=>?_,?_,by rw [hfl],by rw [hfl]; exact h6⟩) (fun j hj _=>List.getElem?_set_ne (by rintro rfl; exact hj (by simp))) (fun j hj=>.inl hj)
      · unfold BJ
        simp only [BU,FC,List.map_cons,List.map_nil]
        simp only [List.map_cons,List.map_nil] at hnew
        simp only [hnew,Bool.not_true,Bool.false_eq_true,if_false,h2]
        rw [if_pos ⟨hle,trivial,by omega,by simpa using hb⟩,if_pos (by omega),if_pos trivial]
        simp
      · rw [Bool.and_eq_true] at h
        rw [List.all_append,h3 h.1,h.2]; rfl
      · refine B0.snoc (h4.monoS fun i' c' x' hi' h'=>wrk.st (fun j hj=>List.getElem?_set_ne ?_) h') GE_
        rintro rfl
        exact h6 (List.mem_flatten.2 ⟨i',hi',hj⟩)
    · refine step (.bsl S.length 0 (xs.length + 1) (xs.length + 1) false) (S++[⟨e.sz,es++[e.cs l y],pl && [e.cs l y].all (·.all AC)⟩]) (S.length::is.flatten) ?_ (.inr ⟨S.length,false,pl && [e.cs l y].all (·.all AC),es++[e.cs l y],is++[[]],by simp,by simp,fun h=>?_,?_,by rw [hfl],fun h=>?_⟩) (fun j _ hj=>List.getElem?_append_left hj) (fun j hj=>?_)
      · unfold BJ
        simp only [BU,FC,List.map_cons,List.map_nil]
        simp only [List.map_cons,List.map_nil] at hnew
        simp only [hnew,Bool.not_true,Bool.false_eq_true,if_false,h2]
        rw [if_pos ⟨hle,trivial,by omega,by simpa using hb⟩,if_pos trivial,List.drop_zero,List.take_of_length_le (by omega)]
        simp
      · rw [Bool.and_eq_true] at h
        rw [List.all_append,h3 h.1,h.2]; rfl
      · refine B0.snoc (h4.monoS fun i' c' x' hi' h'=>wrk.st (fun j hj=>List.getElem?_append_left ?_) h') GE_
        exact hlt j (List.mem_flatten.2 ⟨i',hi',hj⟩)
      · rw [hfl] at h
        have:=hlt _ h
        omega
      · rcases List.mem_cons.1 hj with rfl | hj
        · exact .inr (Nat.le_refl _)
        · exact .inl (List.mem_cons_of_mem _ hj)
end
end
section
variable {α:Type} [e:Enc α]
def wls (ids:List Nat) (v:AV) (xs:List α):En where
  ids:=ids
  ok S:=(∃ l fl,v = .rsl l fl (xs.map (e.cs l))∧ids = [])∨∃ b fl pl es is rs,v = .bsl b 0 xs.length (xs.length + List.length rs) fl∧S[b]? = some ⟨e.sz,es++rs,pl⟩∧(pl = true→(es++rs).all (·.all AC) = true)∧B0 (wrk S) es xs is∧ids = b::is.flatten∧b ∉ is.flatten
  st S S' h:=by
    rintro (h1 | ⟨b,fl,pl,es,is,rs,rfl,h2,h3,h4,rfl,h6⟩)
    · exact .inl h1
    · exact .inr ⟨b,fl,pl,es,is,rs,rfl,by rw [h b (by simp)]; exact h2,h3,h4.monoS fun i c x hi hh=>wrk.st (fun j hj=>h j (List.mem_cons_of_mem _ (List.mem_flatten.2 ⟨i,hi,hj⟩))) hh,rfl,h6⟩
  lt S h i hi:=by
    rcases h with ⟨_,_,_,rfl⟩ | ⟨b,fl,pl,es,is,rs,rfl,h2,h3,h4,rfl,h6⟩
    · cases hi
    · rcases List.mem_cons.1 hi with rfl | hi
      · exact (List.getElem?_eq_some_iff.1 h2).1
      · obtain ⟨l,hl,hil⟩:=List.mem_flatten.1 hi
        obtain ⟨j,hj,rfl⟩:=List.mem_iff_getElem.1 hl
        have hlen:=h4.len
        obtain ⟨c,i',k1,k2,k3⟩:=h4.get j (List.getElem?_eq_getElem (show j < xs.length by omega))
        rw [List.getElem?_eq_getElem hj] at k2
        injection k2 with k2
        subst k2
        exact k3.2.1 i hil
theorem aN [t:Tr α] {S:St} {ids:List Nat} {v:AV} {xs:List α} (h:trList.ow S ids [v] xs):(wls ids v xs).ok S:=by
  obtain ⟨w,hw,⟨fl,rfl,rfl,rfl⟩ | ⟨b,fl,pl,es,is,rs,rfl,h1,h2,h3,rfl,h5⟩⟩:=h
  · injection hw with hw
    subst hw
    exact .inl ⟨false,fl,rfl,rfl⟩
  · injection hw with hw
    subst hw
    exact .inr ⟨b,fl,pl,es,is,rs,rfl,h1,h2,h3.mono fun _ _ _ h=>Um h,rfl,(List.nodup_cons.1 h5).1⟩
theorem CN {n:Nat} {L:List En} {ids:List Nat} {v:AV} {xs:List α} (i:Nat) (hL:L[i]? = some (wls ids v xs)) (hn:e.dp + 2≤n:=by decide):CV n L false v (fun l=>.rsl l false (xs.map (e.cs l))):=fun S hS=>by
  refine ⟨fun brw k j l hk hj=>?_,fun h0=>by cases h0⟩
  obtain ⟨k,rfl⟩:∃ j,k = j + 1:=⟨k - 1,by omega⟩
  obtain ⟨j,rfl⟩:∃ i,j = i + 1:=⟨j - 1,by omega⟩
  rcases hS.get hL with ⟨l0,fl,rfl,_⟩ | ⟨b,fl,pl,es,is,rs,rfl,h2,h3,h4,_,_⟩
  · simp only [frz,nrm]
    rw [Ia (by omega)]
  · have hle:=h4.len.1
    have hla:(es++rs).length = xs.length + rs.length:=by rw [List.length_append,hle]
    have htk:(es++rs).take xs.length = es:=by rw [← hle]; simp
    have key:=P6 (brw:=brw) (l:=l) (S:=S) (show e.dp < k by omega) (show e.dp < j by omega) h4
    simp only [frz,h2,hla,if_true,List.drop_zero,htk]
    cases pl
    · simp only [Bool.false_eq_true,if_false,nrm]
      rw [key]
    · simp only [if_true,nrm]
      have h3':=h3 rfl
      rw [List.all_append,Bool.and_eq_true] at h3'
      rw [GL (by omega) h3'.1] at key
      rw [key]
theorem HP.cells_ {S:St} {L:List En} (h:HP S L) {ids:List Nat} {v:AV} {xs:List α} (k:Nat) (hL:L[k]? = some (wls ids v xs)):AK v = [v]:=by
  rcases h.get hL with ⟨_,_,rfl,_⟩ | ⟨b,fl,pl,es,is,rs,rfl,_⟩ <;> rfl
section
variable {ρ τ:Type} {L:List En} {m:Option τ} {P:τ→ρ→Prop}
theorem Vt {ids:List Nat} {v:AV} {xs:List α} {k:AV→St→Option ρ} (j:Nat) (hL:L[j]? = some (wls ids v xs)) (hk:Okh L (k (.int .i64 xs.length)) m P):Okh L (fun S=>pk (Fe v) S fun r=>k r S) m P:=
  GU (x:=fun _=>Fe v) (fun S hS=>by
    rcases hS.get hL with ⟨l,fl,rfl,_⟩ | ⟨b,fl,pl,es,is,rs,rfl,_⟩
    · simp [Fe]
    · rfl) hk
theorem SB {S:St} {ids:List Nat} {v:AV} {xs:List α} (h:(wls ids v xs).ok S):∃ es is,BU S v = some es∧B0 (wrk S) es xs is∧∀ i∈is.flatten,i∈ids:=by
  rcases h with ⟨l,fl,rfl,rfl⟩ | ⟨b,fl,pl,es,is,rs,rfl,h2,h3,h4,rfl,h6⟩
  · refine ⟨_,xs.map fun _=>[],rfl,?_,fun i hi=>?_⟩
    · exact B0.build (by simp) (by simp) fun q z hz=>⟨e.cs l z,[],by simp [hz],by simp [hz],GE_⟩
    · rw [List.mem_flatten] at hi
      obtain ⟨q,hq,hi⟩:=hi
      obtain ⟨_,_,rfl⟩:=List.mem_map.1 hq
      cases hi
  · refine ⟨es,is,?_,h4,fun i hi=>List.mem_cons_of_mem _ hi⟩
    have hle:=h4.len.1
    have hla:(es++rs).length = xs.length + rs.length:=by rw [List.length_append,hle]
    have htk:(es++rs).take xs.length = es:=by rw [← hle]; simp
    simp only [BU,h2,hla,if_true,List.drop_zero,htk]
def P7 (xs:List α) (L:List En) (t:List α) (r:AV×St):Prop:=t = xs∧∃ ids,HP r.2 (wla ids r.1 xs::L)
end
end
def Q4 (cs:List AV):Prop:=∀ v,cs[4]? = some v→(∀ l fl es,v = .rsl l fl es→fl = true)∧∀ b n L fl,v = .bsl b 0 n L fl→L = n
theorem Q4.sh {d:Nat} {cs:List AV} (h:Q4 cs):Q4 (cs.map fun a=>shv d (Bi a)):=fun v hv=>by
  rw [List.getElem?_map,Option.map_eq_some_iff] at hv
  obtain ⟨a,ha,rfl⟩:=hv
  obtain ⟨h1,h2⟩:=h a ha
  refine ⟨fun l fl es hh=>?_,fun b n L fl hh=>?_⟩
  · cases a <;> simp only [Bi] at hh <;> first
      | (simp [shv] at hh; done)
      | (split at hh
         · simp [shv] at hh
         · simp only [shv,AV.rsl.injEq,reduceCtorEq] at hh
           try exact h1 _ _ _ (by rw [← hh.2.1])
           )
  · cases a <;> simp only [Bi] at hh <;> first
      | (simp only [shv,AV.bsl.injEq] at hh
         obtain ⟨rfl,rfl,rfl,rfl,rfl⟩:=hh
         exact h2 _ _ _ _ rfl)
      | (simp [shv] at hh; done)
      | (split at hh <;> simp [shv] at hh)
def P1q {T:Type} [e:Enc T] [t:Tr T] (W:List AV→AV) (x:T) (r:AV×St):Prop:=∃ ids cs,r.1 = W cs∧t.ow r.2 ids cs x∧Q4 cs
theorem p1q {T:Type} [e:Enc T] [t:Tr T] {W:List AV→AV} {r:Option (AV×St)} {mg:Option T} (h:Fit r mg (P1q W)):Fit r mg (P1 W):=fun x hx=>by
  obtain ⟨r',h1,ids,cs,h2,h3,_⟩:=h x hx
  exact ⟨r',h1,ids,cs,h2,h3⟩
section
variable {ρ τ:Type} {L:List En} {m:Option τ} {P:τ→ρ→Prop}
theorem HQ {T:Type} [e:Enc T] [t:Tr T] {run:CW} {g:FuncId} {args:List AV} {mg:Option T} {k:AV→St→Option ρ} {mk:T→Option τ} (hf:∀ S,HP S L→Fit (run g (args.map (fz S)) []) mg (P1q AV.agg))
    (hk:∀ x,mg = some x→∀ ids cs,Q4 cs→Okh (tr ids cs x::L) (k (AV.agg cs)) (mk x) P):Okh L (fun S=>pe (DF run g args S) k) (mg.bind mk) P:=fun S hS=>by
  intro y hy
  rw [Option.bind_eq_some_iff] at hy
  obtain ⟨x,hx,hm⟩:=hy
  obtain ⟨⟨v,S1⟩,h1,ids,cs,h2,h3,h4⟩:=hf S hS x hx
  have h2:v = .agg cs:=h2
  have h3:t.ow S1 ids cs x:=h3
  subst h2
  show ∃ r,pe (DF run g args S) k = some r∧_
  unfold DF
  rw [h1]
  show ∃ r,k (shv S.length (Bi (.agg cs))) (S++S1.map (shB S.length)) = some r∧_
  rw [CY]
  exact hk x hx _ _ h4.sh _ (hS.new (fun i hi=>List.getElem?_append_left hi) (fun i hi=>by
    obtain ⟨j,_,rfl⟩:=List.mem_map.1 (show i∈ids.map (· + S.length) from hi)
    omega) (t.sh h3 S)) y hm
theorem QP {T:Type} [e:Enc T] [t:Tr T] {v:AV} {y:St→Option AV} {us:List Nat} {cs:List AV} {x:T} (hq:∀ S,HP S L→Q4 cs) (hy:∀ S,HP S L→y S = some v) (hb:TB L us cs x) (hv:v = AV.agg cs):Okh L (fun S=>(y S).map (·,S)) (some x) (P1q AV.agg):=fun S hS z hz=>by
  injection hz with hz; subst hz; subst hv
  obtain ⟨ids,h1,_⟩:=hb S hS
  exact ⟨(.agg cs,S),by show (y S).map (·,S) = _; rw [hy S hS]; rfl,ids,cs,rfl,h1,hq S hS⟩
theorem cV {α:Type} [e:Enc α] [t:Tr α] {ids:List Nat} {v:AV} {xs:List α} {c0 c1 c2 c3:AV} (k:Nat) (hL:L[k]? = some (tra ids v xs)) (S:St) (hS:HP S L):Q4 [c0,c1,c2,c3,v]:=fun u hu=>by
  injection hu with hu
  subst hu
  obtain ⟨h1,h2,h3⟩:=hS.get hL
  refine ⟨fun l fl es hh=>?_,h3⟩
  obtain ⟨w,hw,⟨fl',rfl,_⟩ | ⟨b,fl',pl,es',is,rs,rfl,_⟩⟩:=h1
  · injection hw with hw
    subst hw
    injection hh with q1 q2 q3
    subst q2
    exact h2 _ rfl
  · injection hw with hw
    subst hw
    cases hh
theorem cX {c0 c1 c2 c3:AV}:Q4 [c0,c1,c2,c3,.rsl false true []]:=fun u hu=>by
  injection hu with hu
  subst hu
  exact ⟨fun l fl es h=>by injection h with _ h _; exact h.symm,fun _ _ _ _ h=>by cases h⟩
theorem HM {α β γ δ:Type} [Enc α] [Enc β] [Enc γ] [Enc δ] [a:Tr α] [b:Tr β] [c:Tr γ] [d:Tr δ] {en:En} {ids:List Nat} {n:Int} {v1 v2 v3 v4:AV} {x:Int×List α×List β×List γ×List δ} {k:St→Option ρ} (hq:Q4 [.int .i64 n,v1,v2,v3,v4]) (hi:en.ids = ids) (ho:∀ S,en.ok S→Tr.ow S ids [.int .i64 n,v1,v2,v3,v4] x)
    (hk:∀ i1 i2 i3 i4,Okh (tr i1 [v1] x.2.1::tr i2 [v2] x.2.2.1::wls i3 v3 x.2.2.2.1::wla i4 v4 x.2.2.2.2::L) k m P):Okh (en::L) k m P:=fun S hS=>by
  have h0:=ho S (hS.get (k:=0) rfl)
  have hp:=List.pairwise_cons.1 hS.2
  obtain ⟨j0,r0,c0,d0,hids,hnd,hcs,⟨rfl,hc0⟩,j1,r1,c1,d1,rfl,hn1,rfl,h1,j2,r2,c2,d2,rfl,hn2,rfl,h2,j3,j4,c3,c4,rfl,hn3,rfl,h3,h4⟩:=h0
  rw [hc0] at hcs
  obtain ⟨w1,rfl,k1⟩:=h1
  obtain ⟨w2,rfl,k2⟩:=h2
  obtain ⟨w3,rfl,k3⟩:=h3
  obtain ⟨w4,rfl,k4⟩:=h4
  have hcs':([.int .i64 n,v1,v2,v3,v4]:List AV) = [.int .i64 x.1,w1,w2,w3,w4]:=hcs
  injection hcs' with _ hcs'
  injection hcs' with q1 hcs'
  injection hcs' with q2 hcs'
  injection hcs' with q3 hcs'
  injection hcs' with q4 _
  subst q1; subst q2; subst q3; subst q4
  rw [List.nil_append] at hids
  have hmem:∀ j,j∈en.ids ↔ j∈j1++(j2++(j3++j4)):=fun j=>by rw [hi,hids]
  have hA:=List.nodup_append.1 hn1
  have hB:=List.nodup_append.1 hA.2.1
  have hC:=List.nodup_append.1 hB.2.1
  have oL:∀ e'∈L,∀ j∈j1++(j2++(j3++j4)),j ∉ e'.ids:=fun e' he' j hj=>hp.1 e' he' j ((hmem j).2 hj)
  obtain ⟨g1,g2⟩:=hq v4 rfl
  have hw:(wla j4 v4 x.2.2.2.2).ok S:=by
    rcases k4 with ⟨fl,rfl,e1,rfl⟩ | ⟨b',fl,pl,es,is,rs,rfl,e2,e3,e4,rfl,e6⟩
    · have:=g1 _ _ _ rfl
      subst this
      exact .inl ⟨rfl,e1,rfl⟩
    · have hr:rs = []:=List.eq_nil_of_length_eq_zero (by have:=g2 _ _ _ _ rfl; omega)
      subst hr
      refine .inr ⟨b',fl,pl,es,is,rfl,by simpa using e2,by simpa using e3,e4.mono fun _ _ _ h=>Um h,rfl,(List.nodup_cons.1 e6).1⟩
  refine hk j1 j2 j3 j4 S ⟨fun e' he'=>?_,?_⟩
  · simp only [List.mem_cons] at he'
    rcases he' with rfl | rfl | rfl | rfl | he'
    · exact ⟨_,rfl,k1⟩
    · exact ⟨_,rfl,k2⟩
    · exact aN ⟨_,rfl,k3⟩
    · exact hw
    · exact hS.1 e' (by simp [he'])
  · refine List.pairwise_cons.2 ⟨fun e' he' j hj hin=>?_,List.pairwise_cons.2 ⟨fun e' he' j hj hin=>?_,List.pairwise_cons.2 ⟨fun e' he' j hj hin=>?_,List.pairwise_cons.2 ⟨fun e' he' j hj hin=>?_,hp.2⟩⟩⟩⟩
    · have hj:j∈j1:=hj
      simp only [List.mem_cons] at he'
      rcases he' with rfl | rfl | rfl | he'
      · exact hA.2.2 j hj j (List.mem_append_left _ hin) rfl
      · exact hA.2.2 j hj j (List.mem_append_right _ (List.mem_append_left _ hin)) rfl
      · exact hA.2.2 j hj j (List.mem_append_right _ (List.mem_append_right _ hin)) rfl
      · exact oL e' he' j (by simp [hj]) hin
    · have hj:j∈j2:=hj
      simp only [List.mem_cons] at he'
      rcases he' with rfl | rfl | he'
      · exact hB.2.2 j hj j (List.mem_append_left _ hin) rfl
      · exact hB.2.2 j hj j (List.mem_append_right _ hin) rfl
      · exact oL e' he' j (by simp [hj]) hin
    · have hj:j∈j3:=hj
      simp only [List.mem_cons] at he'
      rcases he' with rfl | he'
      · exact hC.2.2 j hj j hin rfl
      · exact oL e' he' j (by simp [hj]) hin
    · have hj:j∈j4:=hj
      exact oL e' he' j (by simp [hj]) hin
end
def Rd {α:Type} [e:Enc α] [t:Tr α] (o:Nat) (c:α→AV):Prop:=∀ (S:St) (ids:List Nat) (cs:List AV) (x:α),t.ow S ids cs x→o < cs.length∧cs[o]? = some (c x)
theorem JI:Rd 0 (fun n:Int=>.int .i64 n):=fun S ids cs x h=>by
  obtain ⟨rfl,rfl⟩:=h
  exact ⟨Nat.zero_lt_one,rfl⟩
section
variable {α β:Type} [ea:Enc α] [eb:Enc β] [a:Tr α] [b:Tr β]
theorem MZ {o:Nat} {c:α→AV} (h:Rd o c):Rd o (fun x:α×β=>c x.1):=fun S ids cs x hx=>by
  obtain ⟨i1,i2,c1,c2,rfl,hn,rfl,h1,h2⟩:=hx
  obtain ⟨k1,k2⟩:=h S i1 c1 x.1 h1
  exact ⟨by rw [List.length_append]; omega,by rw [List.getElem?_append_left k1]; exact k2⟩
theorem Gz {o:Nat} {c:β→AV} (h:Rd o c):Rd (ea.sz + o) (fun x:α×β=>c x.2):=fun S ids cs x hx=>by
  obtain ⟨i1,i2,c1,c2,rfl,hn,rfl,h1,h2⟩:=hx
  obtain ⟨k1,k2⟩:=h S i2 c2 x.2 h2
  have hl:=a.len h1
  exact ⟨by rw [List.length_append]; omega,by rw [List.getElem?_append_right (by omega),hl,Nat.add_sub_cancel_left]; exact k2⟩
theorem NW {o:Nat} {c:β→AV} {f:α→β} (h:Rd o c) (hw:(fun S ids cs x=>a.ow S ids cs x) = fun S ids cs x=>b.ow S ids cs (f x)):Rd o (fun x:α=>c (f x)):=fun S ids cs x hx=>by
  have h':a.ow S ids cs x = b.ow S ids cs (f x):=congrFun (congrFun (congrFun (congrFun hw S) ids) cs) x
  rw [h'] at hx
  exact h S ids cs (f x) hx
end
section
variable {ρ τ:Type} {L:List En} {m:Option τ} {P:τ→ρ→Prop} {α:Type} [e:Enc α] [t:Tr α] {ids:List Nat} {v:AV} {xs:List α} {n:Nat}
theorem Ja {i:Int} {x:α} {o:Nat} {c:α→AV} {k:AV→St→Option ρ} (j:Nat) (hL:L[j]? = some (tr ids [v] xs)) (hn:e.sz = n) (hx:Av xs i = some x) (hr:Rd o c) (hk:Okh L (k (c x)) m P) :
    Okh L (fun S=>pk (ld1 S (flP o 1 (elP n v i.toNat))) S fun r=>k r S) m P:=
  GU (x:=fun S=>ld1 S (flP o 1 (elP n v i.toNat))) (fun S hS=>by
    obtain ⟨h0,h1,h2⟩:=DU hx
    obtain ⟨b,fl,pl,es,is,rs,rfl,q1,q2,q3,_,_,q6⟩:=Hj (hS.get hL) hx
    obtain ⟨ec,ic,g1,g2,g3⟩:=q3.get i.toNat h2
    have qg:(es++rs)[i.toNat]? = some ec:=(EN (by omega)).trans g1
    obtain ⟨r1,r2⟩:=hr S ic ec x g3
    have hd:(ec.drop o).take 1 = [c x]:=by
      obtain ⟨hl,he⟩:=List.getElem?_eq_some_iff.1 r2
      rw [List.drop_eq_getElem_cons hl,he]; rfl
    simp only [elP,flP,ld1,BY,q1,List.length_append,q6,if_true,Nat.zero_add,qg,hd]) hk
theorem OG {nn:Nat} {i:Int} {x:α} (j:Nat) (hL:L[j]? = some (tr ids [v] xs)) (hs:e.sz = n) (hx:Av xs i = some x) (hn:e.dp + 2≤nn:=by decide):CV nn L false (elP n v i.toNat) (fun l=>.rp l (e.cs l x)):=fun S hS=>by
  refine ⟨fun brw k j' l hk hj=>?_,fun h0=>by cases h0⟩
  obtain ⟨k,rfl⟩:∃ j,k = j + 1:=⟨k - 1,by omega⟩
  obtain ⟨j',rfl⟩:∃ i,j' = i + 1:=⟨j' - 1,by omega⟩
  obtain ⟨h0,h1,h2⟩:=DU hx
  obtain ⟨b,fl,pl,es,is,rs,rfl,q1,q2,q3,_,_,q6⟩:=Hj (hS.get hL) hx
  obtain ⟨ec,ic,g1,g2,g3⟩:=q3.get i.toNat h2
  have qg:(es++rs)[i.toNat]? = some ec:=(EN (by omega)).trans g1
  have hl:(ec.drop 0).take n = ec:=by rw [List.drop_zero,← hs,List.take_of_length_le (by rw [t.len g3]; exact Nat.le_refl _)]
  simp only [elP,frz,q1,List.length_append,q6,if_true,Nat.zero_add,qg,hl]
  have key:=t.fz g3 brw k j' l (by omega) (by omega)
  cases pl
  · simp only [Bool.false_eq_true,if_false,nrm]
    rw [key]
  · simp only [if_true,nrm]
    have hp:∀ a∈ec,frz brw S k a = a:=fun a ha=>by
      have:=List.all_eq_true.1 (q2 rfl) ec (List.mem_append_left _ (List.mem_of_getElem? g1))
      exact E7 (List.all_eq_true.1 this a ha) (by omega)
    have e1:ec.map (frz brw S k) = ec:=by
      calc _ = ec.map id:=List.map_congr_left hp
        _ = _:=by simp
    rw [e1] at key
    rw [key]
end
theorem N2 {brw:Bool} {S:St} {g:FuncId}:∀ {cs:List AV} {k:Nat},3≤k→(∀ c∈cs,∃ l ws,c = AV.rp l ws)→[AV.fn g cs].map (frz brw S k) = [AV.fn g cs]:=fun {cs} {k} hk h=>by
  obtain ⟨k,rfl⟩:∃ j,k = j + 2:=⟨k - 2,by omega⟩
  have e : cs.map (frz brw S (k + 1)) = cs:=by
    calc _ = cs.map id:=List.map_congr_left fun c hc=>by
          obtain ⟨l,ws,rfl⟩:=h c hc
          rfl
      _ = cs:=by simp
  show [AV.fn g (cs.map (frz brw S (k + 1)))] = _
  rw [e]
theorem G4 {n:Nat} {L:List En} {q l0:Bool} {cs:List AV} {f:Bool→List AV} (h:CVs n L q cs f) (d:Nat) (hf:∀ (brw:Bool) (S:St) (k:Nat),d≤k→cs.map (frz brw S k) = cs) (hn:d≤n:=by decide) (hq:(q = true→l0 = false):=by intro h; first | exact h | rfl | cases h):CV (n + 1) L q (.rp l0 cs) (fun l=>.rp l (f l)):=fun S hS=>by
  refine ⟨fun brw k j l hk hj=>?_,fun h0 k j hk hj=>?_⟩
  · obtain ⟨k,rfl⟩:∃ j,k = j + 1:=⟨k - 1,by omega⟩
    obtain ⟨j,rfl⟩:∃ i,j = i + 1:=⟨j - 1,by omega⟩
    simp only [frz,nrm]
    have:=(h S hS).1 brw k j l (by omega) (by omega)
    rw [hf brw S k (by omega)] at this
    rw [this]
  · obtain ⟨k,rfl⟩:∃ j,k = j + 1:=⟨k - 1,by omega⟩
    obtain ⟨j,rfl⟩:∃ i,j = i + 1:=⟨j - 1,by omega⟩
    have:=(h S hS).2 h0 k j (by omega) (by omega)
    rw [hf false S k (by omega)] at this
    have h1:=hq h0
    subst h1
    simp only [frz,ltD,Bool.false_or]
    exact this
theorem cB {α:Type} [e:Enc α] [t:Tr α] {L:List En} {ids:List Nat} {v:AV} {xs:List α} (u:Nat) (hL:L[u]? = some (tra ids v xs)):TB L [u] [v] xs:=fun S hS=>⟨ids,(hS.get hL).1,fun i hi=>⟨u,by simp,_,hL,hi⟩⟩
theorem HP.cella {α:Type} [e:Enc α] [t:Tr α] {S:St} {L:List En} (h:HP S L) {ids:List Nat} {v:AV} {xs:List α} (k:Nat) (hL:L[k]? = some (tra ids v xs)):AK v = [v]:=by
  obtain ⟨⟨w,hw,⟨fl,rfl,_⟩ | ⟨b,fl,pl,es,is,rs,rfl,_⟩⟩,_⟩:=h.get hL <;> (injection hw with hw; subst hw; rfl)
section
variable {ρ τ:Type} {L:List En} {m:Option τ} {P:τ→ρ→Prop} {α:Type} [e:Enc α] [t:Tr α] {ids:List Nat} {v:AV} {xs:List α} {n:Nat}
theorem PL {i:Int} {x:α} {f:AV→Option AV} {c:AV} {k:AV→St→Option ρ} (j:Nat) (hL:L[j]? = some (tr ids [v] xs)) (hx:Av xs i = some x) (hf:∀ b i o n L,f (.bp b i o n L) = some c) (hk:Okh L (k c) m P):Okh L (fun S=>pk (f (elP n v i.toNat)) S fun r=>k r S) m P:=
  GU (x:=fun _=>f (elP n v i.toNat)) (fun S hS=>by
    obtain ⟨b,fl,pl,es,is,rs,rfl,_⟩:=Hj (hS.get hL) hx
    exact hf _ _ _ _ _) hk
theorem EF {i:Int} {x:α} {k:AV→St→Option ρ} (j:Nat) (hL:L[j]? = some (tr ids [v] xs)) (hx:Av xs i = some x) (hk:Okh L (k (elP n v i.toNat)) m P):Okh L (fun S=>pq (BG (elP n v i.toNat) S) fun r=>k r S) m P:=fun S hS=>by
  obtain ⟨b,fl,pl,es,is,rs,rfl,_⟩:=Hj (hS.get hL) hx
  exact hk S hS
end
def wk {α:Type} [e:Enc α] (ids:List Nat) (v:AV) (xs:List α):En where
  ids:=ids
  ok S:=wrk S ids [v] xs∧AK v = [v]
  st _ _ h hh:=⟨wrk.st h hh.1,hh.2⟩
  lt _ h:=h.1.2.1
end Go.Rf
