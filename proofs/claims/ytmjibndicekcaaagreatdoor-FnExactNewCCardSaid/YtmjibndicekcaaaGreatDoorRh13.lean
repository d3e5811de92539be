/- Elements of weak slices are read. -/
import Derived.Test.YtmjibndicekcaaaGreatDoorRh12
set_option linter.unusedVariables false
set_option linter.unusedSimpArgs false
namespace Go.Rf
open Go
def wEl (n:Nat) (v:AV) (k:Nat):AV:=match v with
 | .rsl l _ es=>.rp l (es.getD k [])
 | v=>elP n v k
def wFl (o c:Nat) (p:AV):AV:=(pfield p o c).getD .non
section
variable {α:Type} [e:Enc α]
section
variable {ρ τ:Type} {L:List En} {m:Option τ} {P:τ→ρ→Prop} {ids:List Nat} {v:AV} {xs:List α} {n:Nat}
end
end
end Go.Rf
