/- Calls that give memory of their own; trees built, read and written. -/
import Derived.Test.YtilijpnaoefapaaDoorRh7
set_option linter.unusedVariables false
set_option linter.unusedSimpArgs false
namespace Go.Rf
open Go
def P1 {T:Type} [e:Enc T] [t:Tr T] (W:List AV→AV) (x:T) (r:AV×St):Prop:=∃ ids cs,r.1 = W cs∧t.ow r.2 ids cs x
def Sh (W:List AV→AV):Prop:=∀ (d:Nat) (cs:List AV),shv d (scrub (W cs)) = W (cs.map fun a=>shv d (scrub a))
def one1 (cs:List AV):AV:=cs.headD (.int .i64 0)
section
variable {ρ τ:Type} {L:List En} {m:Option τ} {P:τ→ρ→Prop}
end
def TB {α:Type} [e:Enc α] [t:Tr α] (L:List En) (us:List Nat) (cs:List AV) (x:α):Prop:=∀ S,HP S L→∃ ids,t.ow S ids cs x∧∀ i∈ids,∃ u∈us,∃ en,L[u]? = some en∧i∈en.ids
def Up {α:Type} [e:Enc α] [t:Tr α] (o:Nat) (c:AV) (f:α→α):Prop:=∀ (S:St) (ids:List Nat) (cs:List AV) (x:α),t.ow S ids cs x→o < cs.length∧t.ow S ids (cs.set o c) (f x)
section
variable {α β:Type} [ea:Enc α] [eb:Enc β] [a:Tr α] [b:Tr β]
def Fo {γ:Type} [eg:Enc γ] [g:Tr γ] (o:Nat) (get:α→γ) (set:γ→α→α):Prop:=∀ (S:St) (ids:List Nat) (cs:List AV) (x:α),a.ow S ids cs x→o + eg.sz≤cs.length∧∃ i,g.ow S i ((cs.drop o).take eg.sz) (get x)∧(∀ j∈i,j∈ids)∧∀ (S':St) (y:γ),(∀ j∈ids,j ∉ i→S'[j]? = S[j]?)→g.ow S' i ((cs.drop o).take eg.sz) y→a.ow S' ids cs (set y x)
end
section
variable {α β:Type} [ea:Enc α] [eb:Enc β] [a:Tr α] [b:Tr β] {S:St} {l:Bool}
end
section
variable {α β:Type} [ea:Enc α] [eb:Enc β] [a:Tr α] [b:Tr β] {S:St}
end
end Go.Rf
