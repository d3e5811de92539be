/- Words for what the evaluator makes of a function. -/
import Derived.Test.YtmjibndicekcaaaGreatDoorRf20
set_option linter.unusedVariables false
set_option linter.unusedSimpArgs false
namespace Go.Rf
open Go
def boxA (x:AV) (S:St):Option (AV×St):=if (cellsA x).length = 0 then none else some (newBox S (cellsA x))
def bin2 (P:Program) (op:BinOp) (t:TypeId) (x y:AV):Option AV:=match x,y with
 | .nili,.nili=>none
 | a,b=>abin P op t a b
def pickA (c a b:AV) (S:St):Option (AV×St):=match c with
 | .bool t=>some (if t then a else b,S)
 | _=>none
def nilA (v:AV) (S:St):Option (AV×St):=match v with
 | .rp l cs=>some (.rp l cs,S)
 | .bp b i o n L=>some (.bp b i o n L,S)
 | .fn g cs=>some (.fn g cs,S)
 | _=>none
def storeA (n:Nat) (p x:AV) (S:St):Option (AV×St):=if (cellsA x).length = n∧n≠0 then (stA S p (cellsA x)).map (und,·) else none
def sliceA (n:Nat) (x:AV) (lo hi mx:Option AV) (S:St):Option (AV×St):=match x with
 | .str _=>none
 | x=>(aslice n x lo hi mx S).map (·,S)
def sliceS (x:AV) (lo hi mx:Option AV) (S:St):Option (AV×St):=match x with
 | .str s=>(aslice 0 (.str s) lo hi mx S).map (·,S)
 | _=>none
def extA (t:AV) (i:Nat) (S:St):Option (AV×St):=match t with
 | .tup vs=>(vs[i]?).map (·,S)
 | _=>none
def appA (n by_:Nat) (s x:AV) (S:St):Option (AV×St):=match elemsOf S x with
 | some news=>aapp n by_ s news S
 | none=>none
def appS (by_:Nat) (s x:AV) (S:St):Option (AV×St):=match (match x with | .str u=>some (strCells u) | _=>none) with
 | some news=>aapp 1 by_ s news S
 | none=>none
noncomputable def ifA {ρ:Type} (c:AV) (a b:Option ρ):Option ρ:=match c with
 | .bool t=>bif t then a else b
 | .ub=>bothK a b
 | _=>none
def guardA {ρ:Type} (c:AV) (want:Bool) (yes no:Option ρ):Option ρ:=match c with
 | .bool b=>bif b == want then yes else no
 | _=>none
def call0 (run:FuncId→List AV→St→Option (AV×St)) (g:FuncId) (args:List AV) (S:St):Option (AV×St):=match run g (args.map (fz S)) [] with
 | some (v,S1)=>some (fzr S1 v,S)
 | none=>none
def call1 (run:FuncId→List AV→St→Option (AV×St)) (g:FuncId) (args:List AV) (S:St):Option (AV×St):=match run g (args.map (fz S)) [] with
 | some (v,S1)=>some (shv S.length (scrub v),S++S1.map (shB S.length))
 | none=>none
open Classical in
noncomputable def call3 (run:FuncId→List AV→St→Option (AV×St)) (g:FuncId) (args:List AV) (S:St):Option (AV×St):=match run g args S with
 | some (v,S1)=>if Grows S S1 then some (v,S1) else none
 | none=>none
def callS (run:FuncId→List AV→St→Option (AV×St)) (g:FuncId) (args:List AV) (S:St):Option (AV×St):=run g args S
noncomputable def callV (C:Cfg) (run:FuncId→List AV→St→Option (AV×St)) (f:FuncId) (v:AV) (args:List AV) (S:St):Option (AV×St):=match v with
 | .fn g cap=>acall C run f g (args++cap) S
 | _=>none
def res2 (x y:Option AV):Option AV:=match x,y with
 | some x,some y=>some (.tup [x,y])
 | _,_=>none
def res3 (x y z:Option AV):Option AV:=match x,y,z with
 | some x,some y,some z=>some (.tup [x,y,z])
 | _,_,_=>none
def lookT (t:List (Nat×List Nat)) (k:Nat):Option (List Nat):=match t with
 | []=>none
 | (k',l)::r=>bif Nat.beq k k' then some l else lookT r k
def lookM (t:List (Nat×Nat)) (k:Nat):Nat:=match t with
 | []=>0
 | (k',l)::r=>bif Nat.beq k k' then l else lookM r k
def pk {ρ:Type} (x:Option AV) (S:St) (k:AV→Option ρ):Option ρ:=match x.map (·,S) with
 | some (v,_)=>k v
 | none=>none
def pq {ρ:Type} (x:Option (AV×St)) (k:AV→Option ρ):Option ρ:=match x with
 | some (v,_)=>k v
 | none=>none
def pe {ρ:Type} (x:Option (AV×St)) (k:AV→St→Option ρ):Option ρ:=match x with
 | some (v,S)=>k v S
 | none=>none
def Ret (x:Option (AV×St)) (v:AV):Prop:=∃ v0 S1,x = some (v0,S1)∧fzr S1 v0 = v
section
variable {x:Option AV} {y:Option (AV×St)} {S S1:St} {v r:AV}
end
def AOut.stops:AOut→Bool
 | .norm _ _=>false
 | _=>true
def foldE {α σ β:Type} (m:α→σ→σ ⊕ β) (fin:σ→β):List α→σ→β
 | [],s=>fin s
 | x::r,s=>match m x s with
  | .inl s'=>foldE m fin r s'
  | .inr o=>o
theorem w64 {x:Int} (h1:-9223372036854775808≤x) (h2:x≤9223372036854775807):IntKind.i64.wrap x = x:=by
 simp [IntKind.wrap,IntKind.signed,IntKind.bits]
 (try split) <;> omega
end Go.Rf
