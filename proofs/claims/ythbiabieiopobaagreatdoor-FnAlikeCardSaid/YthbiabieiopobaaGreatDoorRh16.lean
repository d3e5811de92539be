/- Bytes as elements. -/
import Derived.Test.YthbiabieiopobaaGreatDoorRh12
set_option linter.unusedVariables false
set_option linter.unusedSimpArgs false
namespace Go.Rf
open Go
structure U8 where
 v:Int
 deriving DecidableEq
instance instU8:Enc U8:=Enc.one (fun x=>.int .u8 x.v) (fun _=>rfl)
section
variable {L:List En}
end
end Go.Rf
