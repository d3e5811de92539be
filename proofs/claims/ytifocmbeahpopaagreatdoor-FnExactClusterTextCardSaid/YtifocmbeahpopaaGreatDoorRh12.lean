/- A cluster in a box, written by closures: parts of trees, weak slices, results in the caller's store. -/
import Derived.Test.YtifocmbeahpopaaGreatDoorRh10
set_option linter.unusedVariables false
set_option linter.unusedSimpArgs false
namespace Go.Rf
open Go
def P5 {X τ:Type} (E:X→τ→AV) (F:X→τ→List En) (t:τ) (r:AV×St):Prop:=∃ x,r.1 = E x t∧HP r.2 (F x t)
section
variable {ρ τ:Type} {L:List En} {m:Option τ} {P:τ→ρ→Prop}
end
section
variable {α:Type} [e:Enc α]
def wrk (S:St) (ids:List Nat) (cs:List AV) (x:α):Prop:=cs.length = e.sz∧(∀ i∈ids,i < S.length)∧∀ S':St,(∀ i∈ids,S'[i]? = S[i]?)→∀ (brw:Bool) (k j:Nat) (l:Bool),e.dp < k→e.dp < j→(cs.map (frz brw S' k)).map (nrm l j) = e.cs l x
theorem wrk.st {S S':St} {ids:List Nat} {cs:List AV} {x:α} (hS:∀ i∈ids,S'[i]? = S[i]?) (h:wrk S ids cs x):wrk S' ids cs x:=by
  obtain ⟨h1,h2,h3⟩:=h
  refine ⟨h1,fun i hi=>?_,fun S'' hS''=>h3 S'' fun i hi=>(hS'' i hi).trans (hS i hi)⟩
  have h4:=hS i hi
  rw [List.getElem?_eq_getElem (h2 i hi)] at h4
  exact (List.getElem?_eq_some_iff.1 h4).1
theorem wrk_fro {S:St} {l:Bool} {x:α}:wrk S [] (e.cs l x) x:=⟨e.len _ _,(fun _ hi=>by cases hi),(fun S' _ brw k j l' hk hj=>by rw [e.frz _ _ _ _ _ (by omega),e.nrm _ _ _ _ hj])⟩
theorem rows_w {S:St} {brw l:Bool} {k j:Nat} (hk:e.dp < k) (hj:e.dp < j):∀ {es:List (List AV)} {xs:List α} {is:List (List Nat)},rowsT (wrk S) es xs is→(es.map (·.map (frz brw S k))).map (·.map (nrm l j)) = xs.map (e.cs l)
  | [],[],[],_=>rfl
  | c::es,x::xs,i::is,h=>by
    simp only [List.map_cons]
    rw [h.1.2.2 S (fun _ _=>rfl) brw k j l hk hj,rows_w hk hj h.2]
def wla (ids:List Nat) (v:AV) (xs:List α):En where
  ids:=ids
  ok S:=(v = .rsl false true []∧xs = []∧ids = [])∨∃ b fl pl es is,v = .bsl b 0 xs.length xs.length fl∧S[b]? = some ⟨e.sz,es,pl⟩∧(pl = true→es.all (·.all plain) = true)∧rowsT (wrk S) es xs is∧ids = b::is.flatten∧b ∉ is.flatten
  st S S' h:=by
    rintro (h1 | ⟨b,fl,pl,es,is,rfl,h2,h3,h4,rfl,h6⟩)
    · exact .inl h1
    · exact .inr ⟨b,fl,pl,es,is,rfl,by rw [h b (by simp)]; exact h2,h3,h4.monoS fun i c x hi hh=>wrk.st (fun j hj=>h j (List.mem_cons_of_mem _ (List.mem_flatten.2 ⟨i,hi,hj⟩))) hh,rfl,h6⟩
  lt S h i hi:=by
    rcases h with ⟨_,_,rfl⟩ | ⟨b,fl,pl,es,is,rfl,h2,h3,h4,rfl,h6⟩
    · cases hi
    · rcases List.mem_cons.1 hi with rfl | hi
      · exact (List.getElem?_eq_some_iff.1 h2).1
      · obtain ⟨l,hl,hil⟩:=List.mem_flatten.1 hi
        obtain ⟨j,hj,rfl⟩:=List.mem_iff_getElem.1 hl
        have hlen:=h4.len
        obtain ⟨c,i',k1,k2,k3⟩:=h4.get j (List.getElem?_eq_getElem (show j < xs.length by omega))
        rw [List.getElem?_eq_getElem hj] at k2
        injection k2 with k2
        subst k2
        exact k3.2.1 i hil
section
variable {ρ τ:Type} {L:List En} {m:Option τ} {P:τ→ρ→Prop}
end
end
section
variable {α:Type} [e:Enc α]
def wls (ids:List Nat) (v:AV) (xs:List α):En where
  ids:=ids
  ok S:=(∃ l fl,v = .rsl l fl (xs.map (e.cs l))∧ids = [])∨∃ b fl pl es is rs,v = .bsl b 0 xs.length (xs.length + List.length rs) fl∧S[b]? = some ⟨e.sz,es++rs,pl⟩∧(pl = true→(es++rs).all (·.all plain) = true)∧rowsT (wrk S) es xs is∧ids = b::is.flatten∧b ∉ is.flatten
  st S S' h:=by
    rintro (h1 | ⟨b,fl,pl,es,is,rs,rfl,h2,h3,h4,rfl,h6⟩)
    · exact .inl h1
    · exact .inr ⟨b,fl,pl,es,is,rs,rfl,by rw [h b (by simp)]; exact h2,h3,h4.monoS fun i c x hi hh=>wrk.st (fun j hj=>h j (List.mem_cons_of_mem _ (List.mem_flatten.2 ⟨i,hi,hj⟩))) hh,rfl,h6⟩
  lt S h i hi:=by
    rcases h with ⟨_,_,_,rfl⟩ | ⟨b,fl,pl,es,is,rs,rfl,h2,h3,h4,rfl,h6⟩
    · cases hi
    · rcases List.mem_cons.1 hi with rfl | hi
      · exact (List.getElem?_eq_some_iff.1 h2).1
      · obtain ⟨l,hl,hil⟩:=List.mem_flatten.1 hi
        obtain ⟨j,hj,rfl⟩:=List.mem_iff_getElem.1 hl
        have hlen:=h4.len
        obtain ⟨c,i',k1,k2,k3⟩:=h4.get j (List.getElem?_eq_getElem (show j < xs.length by omega))
        rw [List.getElem?_eq_getElem hj] at k2
        injection k2 with k2
        subst k2
        exact k3.2.1 i hil
theorem cv_wls {n:Nat} {L:List En} {ids:List Nat} {v:AV} {xs:List α} (i:Nat) (hL:L[i]? = some (wls ids v xs)) (hn:e.dp + 2≤n:=by decide):CV n L false v (fun l=>.rsl l false (xs.map (e.cs l))):=fun S hS=>by
  refine ⟨fun brw k j l hk hj=>?_,fun h0=>by cases h0⟩
  obtain ⟨k,rfl⟩:∃ j,k = j + 1:=⟨k - 1,by omega⟩
  obtain ⟨j,rfl⟩:∃ i,j = i + 1:=⟨j - 1,by omega⟩
  rcases hS.get hL with ⟨l0,fl,rfl,_⟩ | ⟨b,fl,pl,es,is,rs,rfl,h2,h3,h4,_,_⟩
  · simp only [frz,nrm]
    rw [map_nrm (by omega)]
  · have hle:=h4.len.1
    have hla:(es++rs).length = xs.length + rs.length:=by rw [List.length_append,hle]
    have htk:(es++rs).take xs.length = es:=by rw [← hle]; simp
    have key:=rows_w (brw:=brw) (l:=l) (S:=S) (show e.dp < k by omega) (show e.dp < j by omega) h4
    simp only [frz,h2,hla,if_true,List.drop_zero,htk]
    cases pl
    · simp only [Bool.false_eq_true,if_false,nrm]
      rw [key]
    · simp only [if_true,nrm]
      have h3':=h3 rfl
      rw [List.all_append,Bool.and_eq_true] at h3'
      rw [plain_frz (by omega) h3'.1] at key
      rw [key]
section
variable {ρ τ:Type} {L:List En} {m:Option τ} {P:τ→ρ→Prop}
theorem q_applit {xs ys:List α} {l:Bool} {n by_:Nat} {x:AV} {k:AV→St→Option ρ} {mk:List α→Option τ} (hn:e.sz = n) (hx:∀ S,HP S L→elemsOf S x = some (ys.map (e.cs l)))
    (hk:∀ zs,appO by_ xs ys = some zs→∀ v' ids',Okh (wls ids' v' zs::L) (k v') (mk zs) P):Okh L (fun S=>pe (appA n by_ (.rsl l true (xs.map (e.cs l))) x S) k) ((appO by_ xs ys).bind mk) P:=fun S hS=>by
  intro u hu
  rw [Option.bind_eq_some_iff] at hu
  obtain ⟨z,hz,hm⟩:=hu
  have hz0:=hz
  unfold appO at hz
  split at hz <;> try (cases hz; done)
  rename_i hb
  injection hz with hz
  subst hz
  subst hn
  have all:∀ zs:List α,(zs.map (e.cs l)).all (·.length == e.sz) = true:=fun zs=>by
    simp only [List.all_map,List.all_eq_true]
    intro a _
    simp [e.len]
  show ∃ r,pe (appA e.sz by_ (.rsl l true (xs.map (e.cs l))) x S) k = some r∧_
  unfold appA
  rw [hx S hS]
  cases ys with
  | nil=>
    rw [List.append_nil] at hz0 hm
    exact hk _ hz0 _ [] S (hS.new (fun _ _=>rfl) (fun i hi=>by cases hi) (.inl ⟨l,true,rfl,rfl⟩)) u hm
  | cons y ys=>
    have hlen:((xs++y::ys).map (e.cs l)).length = (xs++y::ys).length:=List.length_map _
    have h1:(xs.map (e.cs l)).length + ((y::ys).map (e.cs l)).length = (xs++y::ys).length:=by simp
    have key:aapp e.sz by_ (.rsl l true (xs.map (e.cs l))) ((y::ys).map (e.cs l)) S = some (.bsl S.length 0 (xs++y::ys).length (xs++y::ys).length false,S++[⟨e.sz,(xs++y::ys).map (e.cs l),((xs++y::ys).map (e.cs l)).all (·.all plain)⟩]):=by
      have hb':((xs.map (e.cs l)).length + ((y::ys).map (e.cs l)).length) * (by_ + 1)≤17592186044416:=by rw [h1,List.length_append]; exact hb
      have a1:=all xs
      have a2:=all (y::ys)
      rw [← h1,List.map_append]
      simp only [List.map_cons] at a2 hb' ⊢
      unfold aapp
      simp only [a2,Bool.not_true,Bool.false_eq_true,if_false]
      rw [if_pos ⟨trivial,a1,hb'⟩]
    show ∃ r,pe (aapp e.sz by_ (.rsl l true (xs.map (e.cs l))) ((y::ys).map (e.cs l)) S) k = some r∧_
    rw [key]
    have hfl:∀ zs:List α,(zs.map fun _=>([]:List Nat)).flatten = []:=fun zs=>by
      induction zs with
      | nil=>rfl
      | cons _ _ ih=>simp
    refine hk _ hz0 _ [S.length] (S++[⟨e.sz,(xs++y::ys).map (e.cs l),_⟩]) (hS.new (fun i hi=>List.getElem?_append_left hi) (fun i hi=>by
      have hi:i∈[S.length]:=hi
      simp at hi; omega) (.inr ⟨S.length,false,_,(xs++y::ys).map (e.cs l),(xs++y::ys).map fun _=>[],[],rfl,by simp; rfl,by simp,?_,by rw [hfl],by rw [hfl]; simp⟩)) u hm
    exact rowsT.build (by simp) (by simp) fun q z hz=>⟨e.cs l z,[],by rw [List.getElem?_map,hz]; rfl,by rw [List.getElem?_map,hz]; rfl,wrk_fro⟩
def P7 (xs:List α) (L:List En) (t:List α) (r:AV×St):Prop:=t = xs∧∃ ids,HP r.2 (wla ids r.1 xs::L)
end
end
def Q4 (cs:List AV):Prop:=∀ v,cs[4]? = some v→(∀ l fl es,v = .rsl l fl es→fl = true)∧∀ b n L fl,v = .bsl b 0 n L fl→L = n
theorem Q4.sh {d:Nat} {cs:List AV} (h:Q4 cs):Q4 (cs.map fun a=>shv d (scrub a)):=fun v hv=>by
  rw [List.getElem?_map,Option.map_eq_some_iff] at hv
  obtain ⟨a,ha,rfl⟩:=hv
  obtain ⟨h1,h2⟩:=h a ha
  refine ⟨fun l fl es hh=>?_,fun b n L fl hh=>?_⟩
  · cases a <;> simp only [scrub] at hh <;> first
      | (simp [shv] at hh; done)
      | (split at hh
         · simp [shv] at hh
         · simp only [shv,AV.rsl.injEq,reduceCtorEq] at hh
           try exact h1 _ _ _ (by rw [← hh.2.1])
           )
  · cases a <;> simp only [scrub] at hh <;> first
      | (simp only [shv,AV.bsl.injEq] at hh
         obtain ⟨rfl,rfl,rfl,rfl,rfl⟩:=hh
         exact h2 _ _ _ _ rfl)
      | (simp [shv] at hh; done)
      | (split at hh <;> simp [shv] at hh)
def P1q {T:Type} [e:Enc T] [t:Tr T] (W:List AV→AV) (x:T) (r:AV×St):Prop:=∃ ids cs,r.1 = W cs∧t.ow r.2 ids cs x∧Q4 cs
section
variable {ρ τ:Type} {L:List En} {m:Option τ} {P:τ→ρ→Prop}
end
def Rd {α:Type} [e:Enc α] [t:Tr α] (o:Nat) (c:α→AV):Prop:=∀ (S:St) (ids:List Nat) (cs:List AV) (x:α),t.ow S ids cs x→o < cs.length∧cs[o]? = some (c x)
section
variable {α β:Type} [ea:Enc α] [eb:Enc β] [a:Tr α] [b:Tr β]
end
section
variable {ρ τ:Type} {L:List En} {m:Option τ} {P:τ→ρ→Prop} {α:Type} [e:Enc α] [t:Tr α] {ids:List Nat} {v:AV} {xs:List α} {n:Nat}
end
section
variable {ρ τ:Type} {L:List En} {m:Option τ} {P:τ→ρ→Prop} {α:Type} [e:Enc α] [t:Tr α] {ids:List Nat} {v:AV} {xs:List α} {n:Nat}
end
def wk {α:Type} [e:Enc α] (ids:List Nat) (v:AV) (xs:List α):En where
  ids:=ids
  ok S:=wrk S ids [v] xs∧cellsA v = [v]
  st _ _ h hh:=⟨wrk.st h hh.1,hh.2⟩
  lt _ h:=h.1.2.1
end Go.Rf
