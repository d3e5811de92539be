/- Bytes as elements. -/
import Derived.Test.YtgjljhchmokhfaaGreatRh12
set_option linter.unusedVariables false
set_option linter.unusedSimpArgs false
namespace Go.Rf
open Go
structure U8 where
 v:Int
 deriving DecidableEq
instance instU8:Enc U8:=Enc.one (fun x=>.int .u8 x.v) (fun _=>rfl)
section
variable {L:List En}
theorem KA {T:Type} {y:St→Option AV} {v:AV} {E:T→AV} {F:T→List En} {t:T} (n:Nat) (hy:∀ S,HP S L→y S = some v) (hv:v = E t) (hF:L.drop n = F t):Okh L (fun S=>(y S).map (·,S)) (some t) (P2 E F):=fun S hS t' ht=>by
 injection ht with ht; subst ht
 refine ⟨(v,S),by show (y S).map (·,S) = _; rw [hy S hS]; rfl,hv,hF ▸ hS.drop n⟩
end
end Go.Rf
