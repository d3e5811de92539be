/- Words for what the evaluator makes of a function. -/
import Derived.Test.YthbiabieiopobaaGreatDoorRf20
set_option linter.unusedVariables false
set_option linter.unusedSimpArgs false
namespace Go.Rf
open Go
def Bm (x:AV) (S:St):Option (AV×St):=if (AK x).length = 0 then none else some (A5 S (AK x))
def HA (P:Program) (op:BinOp) (t:TypeId) (x y:AV):Option AV:=match x,y with
 | .nili,.nili=>none
 | a,b=>D1 P op t a b
def pickA (c a b:AV) (S:St):Option (AV×St):=match c with
 | .bool t=>some (if t then a else b,S)
 | _=>none
def BG (v:AV) (S:St):Option (AV×St):=match v with
 | .rp l cs=>some (.rp l cs,S)
 | .bp b i o n L=>some (.bp b i o n L,S)
 | .fn g cs=>some (.fn g cs,S)
 | _=>none
def Aj (n:Nat) (p x:AV) (S:St):Option (AV×St):=if (AK x).length = n∧n≠0 then (stA S p (AK x)).map (und,·) else none
def Be (n:Nat) (x:AV) (lo hi mx:Option AV) (S:St):Option (AV×St):=match x with
 | .str _=>none
 | x=>(E8 n x lo hi mx S).map (·,S)
def F7 (x:AV) (lo hi mx:Option AV) (S:St):Option (AV×St):=match x with
 | .str s=>(E8 0 (.str s) lo hi mx S).map (·,S)
 | _=>none
def BV (t:AV) (i:Nat) (S:St):Option (AV×St):=match t with
 | .tup vs=>(vs[i]?).map (·,S)
 | _=>none
def BJ (n by_:Nat) (s x:AV) (S:St):Option (AV×St):=match BU S x with
 | some news=>FC n by_ s news S
 | none=>none
def appS (by_:Nat) (s x:AV) (S:St):Option (AV×St):=match (match x with | .str u=>some (EA u) | _=>none) with
 | some news=>FC 1 by_ s news S
 | none=>none
noncomputable def ifA {ρ:Type} (c:AV) (a b:Option ρ):Option ρ:=match c with
 | .bool t=>bif t then a else b
 | .ub=>MF a b
 | _=>none
def An {ρ:Type} (c:AV) (want:Bool) (yes no:Option ρ):Option ρ:=match c with
 | .bool b=>bif b == want then yes else no
 | _=>none
def Bt (run:FuncId→List AV→St→Option (AV×St)) (g:FuncId) (args:List AV) (S:St):Option (AV×St):=match run g (args.map (fz S)) [] with
 | some (v,S1)=>some (fzr S1 v,S)
 | none=>none
def DF (run:FuncId→List AV→St→Option (AV×St)) (g:FuncId) (args:List AV) (S:St):Option (AV×St):=match run g (args.map (fz S)) [] with
 | some (v,S1)=>some (shv S.length (Bi v),S++S1.map (shB S.length))
 | none=>none
open Classical in
noncomputable def Lj (run:FuncId→List AV→St→Option (AV×St)) (g:FuncId) (args:List AV) (S:St):Option (AV×St):=match run g args S with
 | some (v,S1)=>if XC S S1 then some (v,S1) else none
 | none=>none
def Bc (run:FuncId→List AV→St→Option (AV×St)) (g:FuncId) (args:List AV) (S:St):Option (AV×St):=run g args S
noncomputable def AH (C:Cfg) (run:FuncId→List AV→St→Option (AV×St)) (f:FuncId) (v:AV) (args:List AV) (S:St):Option (AV×St):=match v with
 | .fn g cap=>MJ C run f g (args++cap) S
 | _=>none
def Hm (x y:Option AV):Option AV:=match x,y with
 | some x,some y=>some (.tup [x,y])
 | _,_=>none
def SL (x y z:Option AV):Option AV:=match x,y,z with
 | some x,some y,some z=>some (.tup [x,y,z])
 | _,_,_=>none
def aB (t:List (Nat×List Nat)) (k:Nat):Option (List Nat):=match t with
 | []=>none
 | (k',l)::r=>bif Nat.beq k k' then some l else aB r k
def aD (t:List (Nat×Nat)) (k:Nat):Nat:=match t with
 | []=>0
 | (k',l)::r=>bif Nat.beq k k' then l else aD r k
def pk {ρ:Type} (x:Option AV) (S:St) (k:AV→Option ρ):Option ρ:=match x.map (·,S) with
 | some (v,_)=>k v
 | none=>none
def pq {ρ:Type} (x:Option (AV×St)) (k:AV→Option ρ):Option ρ:=match x with
 | some (v,_)=>k v
 | none=>none
def pe {ρ:Type} (x:Option (AV×St)) (k:AV→St→Option ρ):Option ρ:=match x with
 | some (v,S)=>k v S
 | none=>none
theorem BN {ρ:Type} {x:Option AV} {S:St} {k:AV→Option ρ} {v:AV} {r:Option ρ} (h:x = some v) (hk:k v = r):pk x S k = r:=by rw [h]; exact hk
theorem Ob {ρ:Type} {x:Option (AV×St)} {k:AV→Option ρ} {v:AV} {S:St} {r:Option ρ} (h:x = some (v,S)) (hk:k v = r):pq x k = r:=by rw [h]; exact hk
theorem Of {ρ:Type} {x:Option (AV×St)} {k:AV→St→Option ρ} {v:AV} {S:St} {r:Option ρ} (h:x = some (v,S)) (hk:k v S = r):pe x k = r:=by rw [h]; exact hk
theorem W8 {ρ:Type} {b:Bool} {x y r:Option ρ} (h1:b = true→x = r) (h2:b = false→y = r):ifA (.bool b) x y = r:=by cases b; exact h2 rfl; exact h1 rfl
theorem TI {ρ:Type} {b:Bool} {x y r:Option ρ} (h1:b = true→y = r) (h2:b = false→x = r):An (.bool b) false x y = r:=by cases b; exact h2 rfl; exact h1 rfl
def Ret (x:Option (AV×St)) (v:AV):Prop:=∃ v0 S1,x = some (v0,S1)∧fzr S1 v0 = v
section
variable {x:Option AV} {y:Option (AV×St)} {S S1:St} {v r:AV}
end
def Dn.stops:Dn→Bool
 | .norm _ _=>false
 | _=>true
def kB {α σ β:Type} (m:α→σ→σ ⊕ β) (fin:σ→β):List α→σ→β
 | [],s=>fin s
 | x::r,s=>match m x s with
  | .inl s'=>kB m fin r s'
  | .inr o=>o
theorem w64 {x:Int} (h1:-9223372036854775808≤x) (h2:x≤9223372036854775807):IntKind.i64.wrap x = x:=by
 simp [IntKind.wrap,IntKind.signed,IntKind.bits]
 (try split) <;> omega
theorem IA {l fl:Bool} {es:List (List AV)} {k:IntKind} {i:Int} {n sz:Nat} {e:List AV} {S:St} (hi:i = n) (h:es[n]? = some e) (hs:e.length = sz):B8 sz (.rsl l fl es) (.int k i) S = some (.rp l e):=by
 subst hi
 simp [B8,h,hs]
end Go.Rf
