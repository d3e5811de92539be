/- Loops that count. -/
import Derived.Test.YtjandfmkelohdaaDoorRh2
set_option linter.unusedVariables false
set_option linter.unusedSimpArgs false
namespace Go.Rf
open Go
def cmpA : List Int → List Int
 | [] => []
 | [x] => [x]
 | x :: y :: r => if x = y then cmpA (y :: r) else x :: cmpA (y :: r)
theorem nrm_bool {l b : Bool} {k : Nat} {x : AV} (h : nrm l (k + 1) x = .bool b) : x = .bool b := by
 cases x <;> simp only [nrm] at h <;> first | exact h | cases h
theorem scrub_bool {b : Bool} {x : AV} (h : scrub x = .bool b) : x = .bool b := by
 cases x <;> simp only [scrub] at h <;> first | exact h | cases h | (split at h <;> cases h)
theorem frz_bool {b brw : Bool} {k : Nat} {S : St} {x : AV} (h : frz brw S (k + 1) x = .bool b) : x = .bool b := by
 cases x with
 | bool => exact h
 | bp => simp only [frz] at h; (repeat' split at h) <;> cases h
 | bsl => simp only [frz] at h; (repeat' split at h) <;> cases h
 | _ => cases h
theorem fzr_bool {S : St} {v : AV} {b : Bool} (h : fzr S v = .bool b) : v = .bool b :=
 frz_bool (scrub_bool (nrm_bool h))
end Go.Rf
