/- Printed loops of one shape each: looking for something, likeness, copies, sizes. -/
import Derived.Test.YtocbahgmnandaaaDoorRh5
set_option linter.unusedVariables false
set_option linter.unusedSimpArgs false
namespace Go.Rf
open Go
def ixI:Option Nat→Int
 | some i=>(i:Int)
 | none=>-1
abbrev big:Nat:=1099511627776
section
variable {α:Type} {N:Nat}
noncomputable def gIF0 (a0:List α) (a1:α→Option Bool) (s1:Int×Int):Option (LO (Int×Int)):=
 bif decide (s1.2 < (a0.length:Int)) then
  (getI a0 s1.2).bind fun x1=>
  (a1 x1).bind fun y1=>
  bif y1 then some (LO.ret (s1.2,s1.2)) else some (LO.norm (s1.1,wi .i64 (s1.2 + 1)))
 else some (LO.exit 0 (s1.1,s1.2))
noncomputable def gIF (N:Nat) (a0:List α) (a1:α→Option Bool):Option Int:=
 (loopO (gIF0 a0 a1) N (0,0)).bind (contO (fun _=>none) (fun i1 s2=>if i1 = 0 then some (-1) else none) (fun s2=>some s2.1))
noncomputable def gA0 (bad:α→Bool) (a0:List α) (s1:Bool×Int):Option (LO (Bool×Int)):=
 bif decide (s1.2 < (a0.length:Int)) then
  (getI a0 s1.2).bind fun x1=>
  bif bad x1 then some (LO.ret (false,s1.2)) else some (LO.norm (s1.1,wi .i64 (s1.2 + 1)))
 else some (LO.exit 0 (s1.1,s1.2))
noncomputable def gA (N:Nat) (bad:α→Bool) (a0:List α):Option Bool:=
 (loopO (gA0 bad a0) N (false,0)).bind (contO (fun _=>none) (fun i1 s2=>if i1 = 0 then some true else none) (fun s2=>some s2.1))
noncomputable def gIx0 (a0:List Int) (a1:Int) (s1:Int×Int):Option (LO (Int×Int)):=
 bif decide (s1.2 < (a0.length:Int)) then
  (getI a0 s1.2).bind fun x1=>
  bif a1 == x1 then some (LO.ret (s1.2,s1.2)) else some (LO.norm (s1.1,wi .i64 (s1.2 + 1)))
 else some (LO.exit 0 (s1.1,s1.2))
noncomputable def gIx (N:Nat) (a0:List Int) (a1:Int):Option Int:=
 (loopO (gIx0 a0 a1) N (0,0)).bind (contO (fun _=>none) (fun i1 s2=>if i1 = 0 then some (-1) else none) (fun s2=>some s2.1))
noncomputable def gE0 (ex:Nat) (ne:α→α→Bool) (a0 a1:List α) (s1:Bool×Int):Option (LO (Bool×Int)):=
 bif decide (s1.2 < (a0.length:Int)) then
  (getI a0 s1.2).bind fun x1=>
  (getI a1 s1.2).bind fun x2=>
  bif ne x1 x2 then some (LO.ret (false,s1.2)) else some (LO.norm (s1.1,wi .i64 (s1.2 + 1)))
 else some (LO.exit ex (s1.1,s1.2))
noncomputable def gE (N:Nat) (ne:α→α→Bool) (a0 a1:List α):Option Bool:=
 bif (a0.length:Int) != (a1.length:Int) then some false
 else
  (loopO (gE0 0 ne a0 a1) N (false,0)).bind (contO (fun _=>none) (fun i1 s2=>if i1 = 0 then some true else none) (fun s2=>some s2.1))
noncomputable def gEo0 (eq:α→α→Option Bool) (a0 a1:List α) (s1:Bool×Int):Option (LO (Bool×Int)):=
 bif decide (s1.2 < (a0.length:Int)) then
  (getI a0 s1.2).bind fun x1=>
  (getI a1 s1.2).bind fun x2=>
  (eq x1 x2).bind fun y1=>
  bif !y1 then some (LO.ret (false,s1.2)) else some (LO.norm (s1.1,wi .i64 (s1.2 + 1)))
 else some (LO.exit 0 (s1.1,s1.2))
noncomputable def gEo (N:Nat) (eq:α→α→Option Bool) (a0 a1:List α):Option Bool:=
 bif (a0.length:Int) != (a1.length:Int) then some false
 else
  (loopO (gEo0 eq a0 a1) N (false,0)).bind (contO (fun _=>none) (fun i1 s2=>if i1 = 0 then some true else none) (fun s2=>some s2.1))
noncomputable def gT0 (t:α→α) (a0:List α) (s1:Int×List α):Option (LO (Int×List α)):=
 bif decide (s1.1 < (a0.length:Int)) then
  (getI a0 s1.1).bind fun x1=>
  (getI s1.2 s1.1).bind fun x2=>
  some (LO.norm (wi .i64 (s1.1 + 1),s1.2.set (Int.toNat s1.1) (t x1)))
 else some (LO.exit 0 (s1.1,s1.2))
noncomputable def gT (N by_:Nat) (z:α) (t:α→α) (a0:List α):Option (List α):=
 (mkO by_ (a0.length:Int) z).bind fun z1=>
 (loopO (gT0 t a0) N (0,z1)).bind (contO (fun _=>none) (fun i1 s2=>if i1 = 0 then some s2.2 else none) (fun s2=>some []))
noncomputable def gTo0 (t:α→Option α) (a0:List α) (s1:Int×List α):Option (LO (Int×List α)):=
 bif decide (s1.1 < (a0.length:Int)) then
  (getI a0 s1.1).bind fun x1=>
  (t x1).bind fun y1=>
  (getI s1.2 s1.1).bind fun x2=>
  some (LO.norm (wi .i64 (s1.1 + 1),s1.2.set (Int.toNat s1.1) y1))
 else some (LO.exit 0 (s1.1,s1.2))
noncomputable def gTo (N by_:Nat) (z:α) (t:α→Option α) (a0:List α):Option (List α):=
 (mkO by_ (a0.length:Int) z).bind fun z1=>
 (loopO (gTo0 t a0) N (0,z1)).bind (contO (fun _=>none) (fun i1 s2=>if i1 = 0 then some s2.2 else none) (fun s2=>some []))
noncomputable def gS0 (e:α→Int→Int) (a0:List α) (s1:Int×Int×Int):Option (LO (Int×Int×Int)):=
 bif decide (s1.2.2 < (a0.length:Int)) then
  (getI a0 s1.2.2).bind fun x1=>
  bif decide ((e x1 s1.1) < 0) then some (LO.ret ((e x1 s1.1),(-1),s1.2.2)) else some (LO.norm ((e x1 s1.1),s1.2.1,wi .i64 (s1.2.2 + 1)))
 else some (LO.exit 0 (s1.1,s1.2.1,s1.2.2))
noncomputable def gS (N:Nat) (e:α→Int→Int) (a0:List α) (a1:Int):Option Int:=
 bif decide ((wi .i64 (a1 - (a0.length:Int))) < 0) then some (-1)
 else
  (loopO (gS0 e a0) N (wi .i64 (a1 - (a0.length:Int)),0,0)).bind (contO (fun _=>none) (fun i1 s2=>if i1 = 0 then some s2.1 else none) (fun s2=>some s2.2.1))
noncomputable def gSo0 (e:α→Int→Option Int) (a0:List α) (s1:Int×Int×Int):Option (LO (Int×Int×Int)):=
 bif decide (s1.2.2 < (a0.length:Int)) then
  (getI a0 s1.2.2).bind fun x1=>
  (e x1 s1.1).bind fun y1=>
  bif decide (y1 < 0) then some (LO.ret (y1,(-1),s1.2.2)) else some (LO.norm (y1,s1.2.1,wi .i64 (s1.2.2 + 1)))
 else some (LO.exit 0 (s1.1,s1.2.1,s1.2.2))
noncomputable def gSo (N:Nat) (e:α→Int→Option Int) (a0:List α) (a1:Int):Option Int:=
 bif decide ((wi .i64 (a1 - (a0.length:Int))) < 0) then some (-1)
 else
  (loopO (gSo0 e a0) N (wi .i64 (a1 - (a0.length:Int)),0,0)).bind (contO (fun _=>none) (fun i1 s2=>if i1 = 0 then some s2.1 else none) (fun s2=>some s2.2.1))
def Sz (e:α→Int→Option Int) (ok good:α→Prop):Prop:=∀ x,ok x→∀ l:Int,0≤l→l≤1048576→∃ y,e x l = some y∧(0≤y→y≤l∧good x)
noncomputable def gSl (a0:List α) (a1:Int):Int:=
 bif decide ((wi .i64 (a1 - (a0.length:Int))) < 0) then (-1) else wi .i64 (a1 - (a0.length:Int))
end
end Go.Rf
