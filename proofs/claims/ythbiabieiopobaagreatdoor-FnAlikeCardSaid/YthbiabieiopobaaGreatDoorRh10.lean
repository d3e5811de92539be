/- Marks: what a marking loop leaves, a reading loop finds. -/
import Derived.Test.YthbiabieiopobaaGreatDoorRh9
set_option linter.unusedVariables false
set_option linter.unusedSimpArgs false
namespace Go.Rf
open Go
abbrev mB:Int:=1152921504606846976
theorem J0 {T τ:Type} (x:T) (f:T→Option τ):Lu x f = f x:=rfl
theorem WB {α:Type} {a:List α} {i:Int} {x:α} (h:Av a i = some x) (y:α):Av (a.set i.toNat y) i = some y:=by
 obtain ⟨h0,h1,h2⟩:=DU h
 unfold Av
 rw [if_pos h0,List.getElem?_set_self h1]
def MK {α:Type} (H:α→Int→Int→Prop):List α→Int→Int→Prop
 | [],k,k'=>k' = k
 | x::xs,k,k'=>∃ j,H x k j∧MK H xs j k'
theorem MK.mono {α:Type} {H:α→Int→Int→Prop} (hH:∀ x k k',H x k k'→k≤k'):∀ {xs:List α} {k k':Int},MK H xs k k'→k≤k'
 | [],k,k',h=>by rw [show k' = k from h]; exact Int.le_refl _
 | x::xs,k,k',⟨j,h1,h2⟩=>by
  have:=hH _ _ _ h1
  have:=MK.mono hH h2
  omega
def MKL {α:Type} (H:α→Int→Int→Prop) (xs:List α) (k k':Int):Prop:=xs.length≤1048576∧MK H xs k k'
theorem MKL.mono {α:Type} {H:α→Int→Int→Prop} (hH:∀ x k k',H x k k'→k≤k') (xs:List α) (k k':Int) (h:MKL H xs k k'):k≤k':=MK.mono hH h.2
def Mks {α:Type} (f:α→Int→Option (Int×α)) (H:α→Int→Int→Prop) (good:α→Prop) (M:Int):Prop:=
 ∀ x k,good x→0≤k→k + M≤mB→∃ k' x',f x k = some (k',x')∧H x' k k'∧k≤k'∧k'≤k + M
def Hds {α:Type} (f:α→Int→Option Int) (H:α→Int→Int→Prop):Prop:=∀ x k k',H x k k'→0≤k→k'≤mB→f x k = some k'
section
variable {α:Type} {N:Nat} {F:Int×Int×List α→Option (LO (Int×Int×List α))} {H:α→Int→Int→Prop} {good:α→Prop} {M:Int}
end
section
variable {α:Type} {N:Nat} {H:α→Int→Int→Prop}
end
end Go.Rf
