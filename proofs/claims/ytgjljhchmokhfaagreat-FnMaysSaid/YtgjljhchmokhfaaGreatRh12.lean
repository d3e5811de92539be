/- A cluster in a box, written by closures: parts of trees, weak slices, results in the caller's store. -/
import Derived.Test.YtgjljhchmokhfaaGreatRh10
set_option linter.unusedVariables false
set_option linter.unusedSimpArgs false
namespace Go.Rf
open Go
def P5 {X τ:Type} (E:X→τ→AV) (F:X→τ→List En) (t:τ) (r:AV×St):Prop:=∃ x,r.1 = E x t∧HP r.2 (F x t)
section
variable {ρ τ:Type} {L:List En} {m:Option τ} {P:τ→ρ→Prop}
theorem ID {X T:Type} {run:BP} {g:FuncId} {args:List AV} {E:X→T→AV} {F:X→T→List En} {mg:Option T} {x:St→Option (AV×St)} {k:AV→St→Option ρ} {mk:T→Option τ} (hv:∀ S,x S = Au run g args S) (hf:Okh L (fun S=>run g args S) mg (P5 E F)) (hk:∀ t,mg = some t→∀ x,Okh (F x t) (k (E x t)) (mk t) P) :
    Okh L (fun S=>pe (x S) k) (mg.bind mk) P:=fun S hS=>by
  intro t ht
  rw [Option.bind_eq_some_iff] at ht
  obtain ⟨y,hy,hm⟩:=ht
  obtain ⟨⟨v,S1⟩,h1,u,h2,h3⟩:=hf S hS y hy
  have h2:v = E u y:=h2
  subst h2
  show ∃ r,pe (x S) k = some r∧_
  rw [hv]
  unfold Au
  have h1:run g args S = some (E u y,S1):=h1
  rw [h1]
  exact hk y hy u S1 h3 t hm
theorem Dv {X T:Type} {v:AV} {E:X→T→AV} {F:X→T→List En} {t:T} (x:X) (n:Nat) (hv:v = E x t) (hF:L.drop n = F x t):Okh L (fun S=>some (v,S)) (some t) (P5 E F):=fun S hS t' ht=>by
  injection ht with ht; subst ht
  exact ⟨_,rfl,x,hv,hF ▸ hS.drop n⟩
theorem Ii {X T:Type} {y:St→Option AV} {v:AV} {E:X→T→AV} {F:X→T→List En} {t:T} (x:X) (n:Nat) (hy:∀ S,HP S L→y S = some v) (hv:v = E x t) (hF:L.drop n = F x t):Okh L (fun S=>(y S).map (·,S)) (some t) (P5 E F):=fun S hS t' ht=>by
  injection ht with ht; subst ht
  exact ⟨(v,S),by show (y S).map (·,S) = _; rw [hy S hS]; rfl,x,hv,hF ▸ hS.drop n⟩
end
section
variable {α:Type} [e:Enc α]
def wrk (S:St) (ids:List Nat) (cs:List AV) (x:α):Prop:=cs.length = e.sz∧(∀ i∈ids,i < S.length)∧∀ S':St,(∀ i∈ids,S'[i]? = S[i]?)→∀ (brw:Bool) (k j:Nat) (l:Bool),e.dp < k→e.dp < j→(cs.map (frz brw S' k)).map (nrm l j) = e.cs l x
theorem wrk.st {S S':St} {ids:List Nat} {cs:List AV} {x:α} (hS:∀ i∈ids,S'[i]? = S[i]?) (h:wrk S ids cs x):wrk S' ids cs x:=by
  obtain ⟨h1,h2,h3⟩:=h
  refine ⟨h1,fun i hi=>?_,fun S'' hS''=>h3 S'' fun i hi=>(hS'' i hi).trans (hS i hi)⟩
  have h4:=hS i hi
  rw [List.getElem?_eq_getElem (h2 i hi)] at h4
  exact (List.getElem?_eq_some_iff.1 h4).1
theorem Vp [t:Tr α] {S:St} {ids:List Nat} {cs:List AV} {x:α} (h:t.ow S ids cs x):wrk S ids cs x:=⟨t.len h,t.lt h,fun S' hS=>t.fz (t.st hS h)⟩
theorem Tm {S:St} {l:Bool} {x:α}:wrk S [] (e.cs l x) x:=⟨e.len _ _,(fun _ hi=>by cases hi),(fun S' _ brw k j l' hk hj=>by rw [e.frz _ _ _ _ _ (by omega),e.nrm _ _ _ _ hj])⟩
def wla (ids:List Nat) (v:AV) (xs:List α):En where
  ids:=ids
  ok S:=(v = .rsl false true []∧xs = []∧ids = [])∨∃ b fl pl es is,v = .bsl b 0 xs.length xs.length fl∧S[b]? = some ⟨e.sz,es,pl⟩∧(pl = true→es.all (·.all Az) = true)∧AZ (wrk S) es xs is∧ids = b::is.flatten∧b ∉ is.flatten
  st S S' h:=by
    rintro (h1 | ⟨b,fl,pl,es,is,rfl,h2,h3,h4,rfl,h6⟩)
    · exact .inl h1
    · exact .inr ⟨b,fl,pl,es,is,rfl,by rw [h b (by simp)]; exact h2,h3,h4.monoS fun i c x hi hh=>wrk.st (fun j hj=>h j (List.mem_cons_of_mem _ (List.mem_flatten.2 ⟨i,hi,hj⟩))) hh,rfl,h6⟩
  lt S h i hi:=by
    rcases h with ⟨_,_,rfl⟩ | ⟨b,fl,pl,es,is,rfl,h2,h3,h4,rfl,h6⟩
    · cases hi
    · rcases List.mem_cons.1 hi with rfl | hi
      · exact (List.getElem?_eq_some_iff.1 h2).1
      · obtain ⟨l,hl,hil⟩:=List.mem_flatten.1 hi
        obtain ⟨j,hj,rfl⟩:=List.mem_iff_getElem.1 hl
        have hlen:=h4.len
        obtain ⟨c,i',k1,k2,k3⟩:=h4.get j (List.getElem?_eq_getElem (show j < xs.length by omega))
        rw [List.getElem?_eq_getElem hj] at k2
        injection k2 with k2
        subst k2
        exact k3.2.1 i hil
section
variable {ρ τ:Type} {L:List En} {m:Option τ} {P:τ→ρ→Prop}
end
end
section
variable {α:Type} [e:Enc α]
def wls (ids:List Nat) (v:AV) (xs:List α):En where
  ids:=ids
  ok S:=(∃ l fl,v = .rsl l fl (xs.map (e.cs l))∧ids = [])∨∃ b fl pl es is rs,v = .bsl b 0 xs.length (xs.length + List.length rs) fl∧S[b]? = some ⟨e.sz,es++rs,pl⟩∧(pl = true→(es++rs).all (·.all Az) = true)∧AZ (wrk S) es xs is∧ids = b::is.flatten∧b ∉ is.flatten
  st S S' h:=by
    rintro (h1 | ⟨b,fl,pl,es,is,rs,rfl,h2,h3,h4,rfl,h6⟩)
    · exact .inl h1
    · exact .inr ⟨b,fl,pl,es,is,rs,rfl,by rw [h b (by simp)]; exact h2,h3,h4.monoS fun i c x hi hh=>wrk.st (fun j hj=>h j (List.mem_cons_of_mem _ (List.mem_flatten.2 ⟨i,hi,hj⟩))) hh,rfl,h6⟩
  lt S h i hi:=by
    rcases h with ⟨_,_,_,rfl⟩ | ⟨b,fl,pl,es,is,rs,rfl,h2,h3,h4,rfl,h6⟩
    · cases hi
    · rcases List.mem_cons.1 hi with rfl | hi
      · exact (List.getElem?_eq_some_iff.1 h2).1
      · obtain ⟨l,hl,hil⟩:=List.mem_flatten.1 hi
        obtain ⟨j,hj,rfl⟩:=List.mem_iff_getElem.1 hl
        have hlen:=h4.len
        obtain ⟨c,i',k1,k2,k3⟩:=h4.get j (List.getElem?_eq_getElem (show j < xs.length by omega))
        rw [List.getElem?_eq_getElem hj] at k2
        injection k2 with k2
        subst k2
        exact k3.2.1 i hil
theorem Vv [t:Tr α] {S:St} {ids:List Nat} {v:AV} {xs:List α} (h:trList.ow S ids [v] xs):(wls ids v xs).ok S:=by
  obtain ⟨w,hw,⟨fl,rfl,rfl,rfl⟩ | ⟨b,fl,pl,es,is,rs,rfl,h1,h2,h3,rfl,h5⟩⟩:=h
  · injection hw with hw
    subst hw
    exact .inl ⟨false,fl,rfl,rfl⟩
  · injection hw with hw
    subst hw
    exact .inr ⟨b,fl,pl,es,is,rs,rfl,h1,h2,h3.mono fun _ _ _ h=>Vp h,rfl,(List.nodup_cons.1 h5).1⟩
section
variable {ρ τ:Type} {L:List En} {m:Option τ} {P:τ→ρ→Prop}
theorem q_wf {l fl:Bool} {xs:List α} {k:St→Option ρ} (hk:Okh (wls [] (.rsl l fl (xs.map (e.cs l))) xs::L) k m P):Okh L k m P:=fun S hS=>hk S (hS.new (fun _ _=>rfl) (fun i hi=>by cases hi) (.inl ⟨l,fl,rfl,rfl⟩))
def P7 (xs:List α) (L:List En) (t:List α) (r:AV×St):Prop:=t = xs∧∃ ids,HP r.2 (wla ids r.1 xs::L)
end
end
def Q4 (cs:List AV):Prop:=∀ v,cs[4]? = some v→(∀ l fl es,v = .rsl l fl es→fl = true)∧∀ b n L fl,v = .bsl b 0 n L fl→L = n
theorem Q4.sh {d:Nat} {cs:List AV} (h:Q4 cs):Q4 (cs.map fun a=>shv d (AO a)):=fun v hv=>by
  rw [List.getElem?_map,Option.map_eq_some_iff] at hv
  obtain ⟨a,ha,rfl⟩:=hv
  obtain ⟨h1,h2⟩:=h a ha
  refine ⟨fun l fl es hh=>?_,fun b n L fl hh=>?_⟩
  · cases a <;> simp only [AO] at hh <;> first
      | (simp [shv] at hh; done)
      | (split at hh
         · simp [shv] at hh
         · simp only [shv,AV.rsl.injEq,reduceCtorEq] at hh
           try exact h1 _ _ _ (by rw [← hh.2.1])
           )
  · cases a <;> simp only [AO] at hh <;> first
      | (simp only [shv,AV.bsl.injEq] at hh
         obtain ⟨rfl,rfl,rfl,rfl,rfl⟩:=hh
         exact h2 _ _ _ _ rfl)
      | (simp [shv] at hh; done)
      | (split at hh <;> simp [shv] at hh)
def P1q {T:Type} [e:Enc T] [t:Tr T] (W:List AV→AV) (x:T) (r:AV×St):Prop:=∃ ids cs,r.1 = W cs∧t.ow r.2 ids cs x∧Q4 cs
section
variable {ρ τ:Type} {L:List En} {m:Option τ} {P:τ→ρ→Prop}
end
def Rd {α:Type} [e:Enc α] [t:Tr α] (o:Nat) (c:α→AV):Prop:=∀ (S:St) (ids:List Nat) (cs:List AV) (x:α),t.ow S ids cs x→o < cs.length∧cs[o]? = some (c x)
section
variable {α β:Type} [ea:Enc α] [eb:Enc β] [a:Tr α] [b:Tr β]
end
section
variable {ρ τ:Type} {L:List En} {m:Option τ} {P:τ→ρ→Prop} {α:Type} [e:Enc α] [t:Tr α] {ids:List Nat} {v:AV} {xs:List α} {n:Nat}
end
theorem KT {brw:Bool} {S:St} {g:FuncId}:∀ {cs:List AV} {k:Nat},3≤k→(∀ c∈cs,∃ l ws,c = AV.rp l ws)→[AV.fn g cs].map (frz brw S k) = [AV.fn g cs]:=fun {cs} {k} hk h=>by
  obtain ⟨k,rfl⟩:∃ j,k = j + 2:=⟨k - 2,by omega⟩
  have e : cs.map (frz brw S (k + 1)) = cs:=by
    calc _ = cs.map id:=List.map_congr_left fun c hc=>by
          obtain ⟨l,ws,rfl⟩:=h c hc
          rfl
      _ = cs:=by simp
  show [AV.fn g (cs.map (frz brw S (k + 1)))] = _
  rw [e]
theorem F6 {n:Nat} {L:List En} {q l0:Bool} {cs:List AV} {f:Bool→List AV} (h:CVs n L q cs f) (d:Nat) (hf:∀ (brw:Bool) (S:St) (k:Nat),d≤k→cs.map (frz brw S k) = cs) (hn:d≤n:=by decide) (hq:(q = true→l0 = false):=by intro h; first | exact h | rfl | cases h):CV (n + 1) L q (.rp l0 cs) (fun l=>.rp l (f l)):=fun S hS=>by
  refine ⟨fun brw k j l hk hj=>?_,fun h0 k j hk hj=>?_⟩
  · obtain ⟨k,rfl⟩:∃ j,k = j + 1:=⟨k - 1,by omega⟩
    obtain ⟨j,rfl⟩:∃ i,j = i + 1:=⟨j - 1,by omega⟩
    simp only [frz,nrm]
    have:=(h S hS).1 brw k j l (by omega) (by omega)
    rw [hf brw S k (by omega)] at this
    rw [this]
  · obtain ⟨k,rfl⟩:∃ j,k = j + 1:=⟨k - 1,by omega⟩
    obtain ⟨j,rfl⟩:∃ i,j = i + 1:=⟨j - 1,by omega⟩
    have:=(h S hS).2 h0 k j (by omega) (by omega)
    rw [hf false S k (by omega)] at this
    have h1:=hq h0
    subst h1
    simp only [frz,ltD,Bool.false_or]
    exact this
theorem V5 {α:Type} [e:Enc α] [t:Tr α] {L:List En} {ids:List Nat} {v:AV} {xs:List α} (u:Nat) (hL:L[u]? = some (tra ids v xs)):TB L [u] [v] xs:=fun S hS=>⟨ids,(hS.get hL).1,fun i hi=>⟨u,by simp,_,hL,hi⟩⟩
theorem MW {α:Type} [e:Enc α] [t:Tr α] {n:Nat} {L:List En} {q:Bool} {ids:List Nat} {v:AV} {xs:List α} (i:Nat) (hL:L[i]? = some (tra ids v xs)) (hn:e.dp + 2≤n:=by decide):CV n L q v (fun l=>.rsl l false (xs.map (e.cs l))):=fun S hS=>
  Xn (L:=[tr ids [v] xs]) 0 rfl hn S ⟨fun en hen=>by
    rcases List.mem_singleton.1 hen with rfl
    exact (hS.get hL).1,List.pairwise_singleton _ _⟩
theorem HP.cella {α:Type} [e:Enc α] [t:Tr α] {S:St} {L:List En} (h:HP S L) {ids:List Nat} {v:AV} {xs:List α} (k:Nat) (hL:L[k]? = some (tra ids v xs)):A5 v = [v]:=by
  obtain ⟨⟨w,hw,⟨fl,rfl,_⟩ | ⟨b,fl,pl,es,is,rs,rfl,_⟩⟩,_⟩:=h.get hL <;> (injection hw with hw; subst hw; rfl)
section
variable {ρ τ:Type} {L:List En} {m:Option τ} {P:τ→ρ→Prop} {α:Type} [e:Enc α] [t:Tr α] {ids:List Nat} {v:AV} {xs:List α} {n:Nat}
end
def wk {α:Type} [e:Enc α] (ids:List Nat) (v:AV) (xs:List α):En where
  ids:=ids
  ok S:=wrk S ids [v] xs∧A5 v = [v]
  st _ _ h hh:=⟨wrk.st h hh.1,hh.2⟩
  lt _ h:=h.1.2.1
end Go.Rf
