/- Words for what the evaluator makes of a function. -/
import Derived.Test.YtjlecnhninhmnaaGreatDoorRf20
set_option linter.unusedVariables false
set_option linter.unusedSimpArgs false
namespace Go.Rf
open Go
def BA (x:AV) (S:St):Option (AV×St):=if (AG x).length = 0 then none else some (AC S (AG x))
def Qc (P:Program) (op:BinOp) (t:TypeId) (x y:AV):Option AV:=match x,y with
 | .nili,.nili=>none
 | a,b=>Ec P op t a b
def pickA (c a b:AV) (S:St):Option (AV×St):=match c with
 | .bool t=>some (if t then a else b,S)
 | _=>none
def Az (v:AV) (S:St):Option (AV×St):=match v with
 | .rp l cs=>some (.rp l cs,S)
 | .bp b i o n L=>some (.bp b i o n L,S)
 | .fn g cs=>some (.fn g cs,S)
 | _=>none
def Av (n:Nat) (p x:AV) (S:St):Option (AV×St):=if (AG x).length = n∧n≠0 then (stA S p (AG x)).map (und,·) else none
def CX (n:Nat) (x:AV) (lo hi mx:Option AV) (S:St):Option (AV×St):=match x with
 | .str _=>none
 | x=>(EP n x lo hi mx S).map (·,S)
def GR (x:AV) (lo hi mx:Option AV) (S:St):Option (AV×St):=match x with
 | .str s=>(EP 0 (.str s) lo hi mx S).map (·,S)
 | _=>none
def GK (t:AV) (i:Nat) (S:St):Option (AV×St):=match t with
 | .tup vs=>(vs[i]?).map (·,S)
 | _=>none
def BN (n by_:Nat) (s x:AV) (S:St):Option (AV×St):=match BP S x with
 | some news=>FM n by_ s news S
 | none=>none
def gF (by_:Nat) (s x:AV) (S:St):Option (AV×St):=match (match x with | .str u=>some (EI u) | _=>none) with
 | some news=>FM 1 by_ s news S
 | none=>none
noncomputable def ifA {ρ:Type} (c:AV) (a b:Option ρ):Option ρ:=match c with
 | .bool t=>bif t then a else b
 | .ub=>N5 a b
 | _=>none
def Aj {ρ:Type} (c:AV) (want:Bool) (yes no:Option ρ):Option ρ:=match c with
 | .bool b=>bif b == want then yes else no
 | _=>none
def BD (run:FuncId→List AV→St→Option (AV×St)) (g:FuncId) (args:List AV) (S:St):Option (AV×St):=match run g (args.map (fz S)) [] with
 | some (v,S1)=>some (fzr S1 v,S)
 | none=>none
def Ew (run:FuncId→List AV→St→Option (AV×St)) (g:FuncId) (args:List AV) (S:St):Option (AV×St):=match run g (args.map (fz S)) [] with
 | some (v,S1)=>some (shv S.length (Bh v),S++S1.map (shB S.length))
 | none=>none
open Classical in
noncomputable def SZ (run:FuncId→List AV→St→Option (AV×St)) (g:FuncId) (args:List AV) (S:St):Option (AV×St):=match run g args S with
 | some (v,S1)=>if Yy S S1 then some (v,S1) else none
 | none=>none
def Bg (run:FuncId→List AV→St→Option (AV×St)) (g:FuncId) (args:List AV) (S:St):Option (AV×St):=run g args S
noncomputable def AK (C:Cfg) (run:FuncId→List AV→St→Option (AV×St)) (f:FuncId) (v:AV) (args:List AV) (S:St):Option (AV×St):=match v with
 | .fn g cap=>NB C run f g (args++cap) S
 | _=>none
def OL (x y:Option AV):Option AV:=match x,y with
 | some x,some y=>some (.tup [x,y])
 | _,_=>none
def res3 (x y z:Option AV):Option AV:=match x,y,z with
 | some x,some y,some z=>some (.tup [x,y,z])
 | _,_,_=>none
def bR (t:List (Nat×List Nat)) (k:Nat):Option (List Nat):=match t with
 | []=>none
 | (k',l)::r=>bif Nat.beq k k' then some l else bR r k
def bS (t:List (Nat×Nat)) (k:Nat):Nat:=match t with
 | []=>0
 | (k',l)::r=>bif Nat.beq k k' then l else bS r k
def pk {ρ:Type} (x:Option AV) (S:St) (k:AV→Option ρ):Option ρ:=match x.map (·,S) with
 | some (v,_)=>k v
 | none=>none
def pq {ρ:Type} (x:Option (AV×St)) (k:AV→Option ρ):Option ρ:=match x with
 | some (v,_)=>k v
 | none=>none
def pe {ρ:Type} (x:Option (AV×St)) (k:AV→St→Option ρ):Option ρ:=match x with
 | some (v,S)=>k v S
 | none=>none
theorem BS {ρ:Type} {x:Option AV} {S:St} {k:AV→Option ρ} {v:AV} {r:Option ρ} (h:x = some v) (hk:k v = r):pk x S k = r:=by rw [h]; exact hk
theorem RU {ρ:Type} {x:Option (AV×St)} {k:AV→Option ρ} {v:AV} {S:St} {r:Option ρ} (h:x = some (v,S)) (hk:k v = r):pq x k = r:=by rw [h]; exact hk
theorem OT {ρ:Type} {x:Option (AV×St)} {k:AV→St→Option ρ} {v:AV} {S:St} {r:Option ρ} (h:x = some (v,S)) (hk:k v S = r):pe x k = r:=by rw [h]; exact hk
theorem Uw {ρ:Type} {b:Bool} {x y r:Option ρ} (h1:b = true→y = r) (h2:b = false→x = r):Aj (.bool b) false x y = r:=by cases b; exact h2 rfl; exact h1 rfl
def Ret (x:Option (AV×St)) (v:AV):Prop:=∃ v0 S1,x = some (v0,S1)∧fzr S1 v0 = v
section
variable {x:Option AV} {y:Option (AV×St)} {S S1:St} {v r:AV}
end
def Dn.stops:Dn→Bool
 | .norm _ _=>false
 | _=>true
def lP {α σ β:Type} (m:α→σ→σ ⊕ β) (fin:σ→β):List α→σ→β
 | [],s=>fin s
 | x::r,s=>match m x s with
  | .inl s'=>lP m fin r s'
  | .inr o=>o
theorem w64 {x:Int} (h1:-9223372036854775808≤x) (h2:x≤9223372036854775807):IntKind.i64.wrap x = x:=by
 simp [IntKind.wrap,IntKind.signed,IntKind.bits]
 (try split) <;> omega
theorem Jj {l fl:Bool} {es:List (List AV)} {k:IntKind} {i:Int} {n sz:Nat} {e:List AV} {S:St} (hi:i = n) (h:es[n]? = some e) (hs:e.length = sz):Bn sz (.rsl l fl es) (.int k i) S = some (.rp l e):=by
 subst hi
 simp [Bn,h,hs]
end Go.Rf
