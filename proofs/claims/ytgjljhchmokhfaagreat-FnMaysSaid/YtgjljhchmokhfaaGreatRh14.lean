/- A row that is put BY a row of weak rows; slices of trees that come back and may grow. -/
import Derived.Test.YtgjljhchmokhfaaGreatRh13
set_option linter.unusedVariables false
set_option linter.unusedSimpArgs false
namespace Go.Rf
open Go
theorem CVs.any {n:Nat} {L:List En} {q:Bool} {c:List AV} {f:Bool→List AV} (h:CVs n [] q c f):CVs n L q c f:=fun S _=>h S HP.nil
section
variable {ρ τ:Type} {L:List En} {m:Option τ} {P:τ→ρ→Prop}
end
section
variable {α:Type} [e:Enc α]
def P8 (ids:List Nat) (v:AV) (xs:List α) (L:List En) (t:List α×Int) (r:AV×St):Prop:=
 ((t.2 == 0) = true∧∃ ids' w,r.1 = .tup [w,.int .i64 t.2]∧HP r.2 (wls ids' w t.1::L))∨((t.2 == 0) = false∧r.1 = .tup [.rsl false true [],.int .i64 t.2]∧HP r.2 (wls ids v xs::L))
section
variable {ρ τ:Type} {L:List En} {P:τ→ρ→Prop}
end
end
theorem KR {brw:Bool} {S:St} {k:Nat} {l:Bool} {cs:List AV} (h:1≤k):[AV.rp l cs].map (frz brw S k) = [AV.rp l cs]:=by
 obtain ⟨k,rfl⟩:∃ j,k = j + 1:=⟨k - 1,by omega⟩
 rfl
section
variable {α:Type} [e:Enc α] [t:Tr α]
def Qa (v:AV):Prop:=(∀ fl,v = .rsl false fl []→fl = true)∧∀ b n L fl,v = .bsl b 0 n L fl→L = n
def P1a (x:List α) (r:AV×St):Prop:=∃ ids,trList.ow r.2 ids [r.1] x∧Qa r.1
section
variable {ρ τ:Type} {L:List En} {P:τ→ρ→Prop}
theorem WY {run:BP} {g:FuncId} {args:List AV} {mg:Option (List α)} {k:AV→St→Option ρ} {mk:List α→Option τ} (hf:∀ S,HP S L→Fit (run g (args.map (fz S)) []) mg P1a)
  (hk:∀ x,mg = some x→∀ ids v,Okh (tra ids v x::L) (k v) (mk x) P):Okh L (fun S=>pe (NM run g args S) k) (mg.bind mk) P:=fun S hS=>by
 intro y hy
 rw [Option.bind_eq_some_iff] at hy
 obtain ⟨x,hx,hm⟩:=hy
 obtain ⟨⟨v,S1⟩,h1,ids,h3,h4,h5⟩:=hf S hS x hx
 have h3:trList.ow S1 ids [v] x:=h3
 show ∃ r,pe (NM run g args S) k = some r∧_
 unfold NM
 rw [h1]
 show ∃ r,k (shv S.length (AO v)) (S++S1.map (shB S.length)) = some r∧_
 have h6:=trList.sh h3 S
 refine hk x hx _ _ _ (hS.new (fun i hi=>List.getElem?_append_left hi) (fun i hi=>by
  obtain ⟨j,_,rfl⟩:=List.mem_map.1 (show i∈ids.map (· + S.length) from hi)
  omega) ⟨h6,?_⟩) y hm
 obtain ⟨w,hw,⟨fl',rfl,_⟩ | ⟨b,fl',pl,es',is,rs,rfl,_⟩⟩:=h3
 ·injection hw with hw
  subst hw
  have:=h4 _ rfl
  subst this
  exact ⟨fun fl h=>by injection h with _ h _; exact h.symm,fun b n L fl h=>by cases h⟩
 ·injection hw with hw
  subst hw
  have hl:=h5 _ _ _ _ rfl
  refine ⟨fun fl h=>?_,fun b' n L fl h=>?_⟩
  ·cases h
  ·simp only [AO,shv,AV.bsl.injEq] at h
   omega
theorem VI {ids:List Nat} {v:AV} {x:List α} (i:Nat) (hL:L[i]? = some (tra ids v x)):Okh L (fun S=>some (v,S)) (some x) P1a:=fun S hS y hy=>by
 injection hy with hy; subst hy
 obtain ⟨h1,h2⟩:=hS.get hL
 exact ⟨_,rfl,ids,h1,h2⟩
end
end
section
variable {ρ τ:Type} {L:List En} {m:Option τ} {P:τ→ρ→Prop}
end
end Go.Rf
