/- strings.Compare, by its contract. -/
import Derived.Test.YthbiabieiopobaaGreatDoorRh4
import Derived.Lib.Bytealg
set_option linter.unusedVariables false
set_option linter.unusedSimpArgs false
namespace Go.Rf
open Go
def IP (args:List AV) (S:St):Option (AV×St):=match args with
 | [.str s,.str t]=>some (.int .i64 (Lib.compareBytes s.data.toList t.data.toList),S)
 | _=>none
theorem YK {P:Program} {g0:Nat} {G:World→Prop} {f:FuncId}
  (hc:∀ (s t:ByteArray) (w:World),Calls P f #[.string s,.string t] w fun e w'=>e = .returned (.int .i64 (Lib.compareBytes s.data.toList t.data.toList))∧w' = w)
  (args:List AV) (S:St) (v:AV) (S1:St) (he:IP args S = some (v,S1)) (X:Nat→Prop) (m:Bd) (A:Nat→Prop) (w:World) (cargs:Array Value) (hr:Rel g0 X m A S w) (ha:CR X m A S w args cargs) (_:G w) :
  Calls P f cargs w (ED g0 X m A S w v S1):=by
 unfold IP at he
 split at he <;> try (cases he; done)
 rename_i s t
 injection he with he
 injection he with h1 h2
 subst h1; subst h2
 obtain ⟨x,y,rfl,hx,hy⟩:=ha.two
 cases hx; cases hy
 refine (hc s t w).mono ?_
 rintro e w' ⟨rfl,rfl⟩
 exact ⟨_,m,A,rfl,hr,Ext.refl _ _ _ _,.int _ _⟩
theorem YJ {R:CW} {f:FuncId} (h:∀ a b S,R f [a,b] S = IP [a,b] S) (a b:Str):Fit (R f [AY a,AY b] []) (some (Lib.compareBytes a b)) (P0 (fun (t:Int)=>AV.int .i64 t)):=by
 intro t ht
 injection ht with ht
 subst ht
 rw [h]
 exact ⟨_,rfl,rfl⟩
end Go.Rf
