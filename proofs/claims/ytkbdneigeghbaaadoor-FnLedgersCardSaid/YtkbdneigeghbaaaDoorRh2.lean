/- Parts of one's own slice; slices.Compact. -/
import Derived.Test.YtkbdneigeghbaaaDoorRh1
set_option linter.unusedVariables false
set_option linter.unusedSimpArgs false
namespace Go.Rf
open Go
def viA:AV→Nat→Nat→AV
 | .bsl b i n L fl,lo,hi=>.bsl b (i + lo) (hi - lo) L (fl && hi == n)
 | v,_,_=>v
def viO (n:Nat) (lo hi:Int):Option Unit:=if 0≤lo∧lo≤hi∧hi≤n then some () else none
def getV {α:Type} (xs:List α) (lo hi i:Int):Option α:=if 0≤i∧i < hi - lo then getI xs (lo + i) else none
def cpv:AV→Nat→AV
 | .bsl b i n L fl,k=>.bsl b i k L (fl && k == n)
 | v,_=>v
def cl {α:Type} [e:Enc α] (v:AV) (xs:List α):En where
 ids:=idS v
 ok S:=(v = .rsl false true []∧xs = [])∨∃ b L fl es pl,v = .bsl b 0 L L fl∧S[b]? = some ⟨e.sz,es,pl⟩∧es.length = L∧es.take xs.length = xs.map (e.cs false)∧xs.length≤L∧(pl = true→es.all (·.all plain) = true)
 st S S' h:=by
  rintro (h1 | ⟨b,L,fl,es,pl,rfl,h2,h3⟩)
  ·exact .inl h1
  ·exact .inr ⟨b,L,fl,es,pl,rfl,by rw [h b (by simp [idS])]; exact h2,h3⟩
 lt S h i hi:=by
  rcases h with ⟨rfl,_⟩ | ⟨b,L,fl,es,pl,rfl,h2,_⟩
  ·cases hi
  ·simp only [idS,List.mem_singleton] at hi; subst hi
   exact (List.getElem?_eq_some_iff.1 h2).1
section
variable {ρ τ:Type} {L:List En} {m:Option τ} {P:τ→ρ→Prop} {α:Type} [e:Enc α] {l:Bool} {v:AV} {xs:List α} {n:Nat}
end
section
variable {ρ τ T:Type} {L:List En} {m:Option τ} {P:τ→ρ→Prop}
end
theorem res3_of {x y z:Option AV} {a b c:AV} (hx:x = some a) (hy:y = some b) (hz:z = some c):res3 x y z = some (.tup [a,b,c]):=by rw [hx,hy,hz]; rfl
def clr (ys:List Int) (i:Int):List Int:=ys.take i.toNat++(List.replicate ((ys.length:Int) - i).toNat 0++ys.drop (ys.length:Int).toNat)
def P3 {X τ:Type} (E:X→τ→AV) (F:τ→List En) (t:τ) (r:AV×St):Prop:=∃ x,r.1 = E x t∧HP r.2 (F t)
noncomputable def optO {T τ:Type} (y:Option T) (a:Option τ) (f:T→Option τ):Option τ:=match y with
 | none=>a
 | some r=>f r
section
variable {ρ τ:Type} {L:List En} {m:Option τ} {P:τ→ρ→Prop}
theorem q_ifT1 {x y:St→Option ρ} (h:Okh L x m P):Okh L (fun S=>ifA (.bool true) (x S) (y S)) m P:=h
theorem q_ifF1 {x y:St→Option ρ} (h:Okh L y m P):Okh L (fun S=>ifA (.bool false) (x S) (y S)) m P:=h
end
end Go.Rf
