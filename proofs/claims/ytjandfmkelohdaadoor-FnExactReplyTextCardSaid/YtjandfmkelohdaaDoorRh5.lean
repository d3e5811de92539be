/- Loops that look for something; lists without doubles. -/
import Derived.Test.YtjandfmkelohdaaDoorRh4
import Derived.Lib.Bytealg
set_option linter.unusedVariables false
set_option linter.unusedSimpArgs false
namespace Go.Rf
open Go
def isN {σ : Type} : LO σ → Bool
 | .norm _ => true
 | _ => false
def fstN (p : Nat → Bool) (n : Nat) : Option Nat := (List.range n).find? p
def orF {β : Type} (x : Option Nat) (out : Nat → β) (fin : β) : β := match x with
 | some i => out i
 | none => fin
def pAt {α : Type} (q : α → Bool) (xs : List α) (i : Nat) : Bool := (xs[i]?).any q
def spl (c : UInt8) : Str → List Str
 | [] => [[]]
 | b :: r => if b == c then [] :: spl c r else match spl c r with
  | h :: t => (b :: h) :: t
  | [] => [[b]]
def hd1 (p : Str) : List Str → List Str
 | h :: t => (p ++ h) :: t
 | [] => [p]
end Go.Rf
