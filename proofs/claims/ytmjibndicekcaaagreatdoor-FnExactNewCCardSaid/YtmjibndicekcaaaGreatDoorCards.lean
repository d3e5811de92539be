/-
  DERIVED. GIVEN WITH THE SEED: THE CARDS: each row of YtmjibndicekcaaaGreatDoorRows.lean that lists a variable, with what it lists TIED to the program's text (the seventh form; the later family's looks); each row that meets fmt, with fmt's text TOLD by the authors' own Lean function (tested against real Go, not proved from fmt's source: count such statements apart). THE CARD IS WHAT COUNTS. Prove the row's statement (the work); the ties are given (YtmjibndicekcaaaGreatDoorTie.lean); close each card by the builder's one call (the guide's Derived/Test/ToyasCard.lean, 'card_holds'). Laid BY PROGRAM, IN A SANDBOX (cutbox-door.mjs). By AI agents, Wed Nov 11 2026. No macro, syntax, notation, axiom, sorry.
-/
import Derived.Test.YtmjibndicekcaaaGreatDoorRows
import GoSem.ClaimSeven
namespace Go.Proofs.YtmjibndicekcaaaGreatDoor
namespace Rows

/-- THE TIED CARD OF 'laws.FnExactNewC'. -/
def fnExactNewCCard : Claim7 := { stood := { row := fnExactNewCRow, standIns := [], harness := (true, "7fe5b18a7cc9039cca14d269df961616b18bcc6e7392924a45064fdddb80d2ec"), looks := false }, kinds := [], alts := [], laidByText := true, laidKinds := [.data, .pinned], laidTests := true, laidLooks := .later }
def FnExactNewCCardSaid : Prop := Claim7.holds Tryz.pinned (.plain (OpenSpec.ofChange fnExactNewCSpec)) fnExactNewCCard

/-- THE SECOND FORM's CARD OF 'laws.FnExactNewC'. -/
def fnExactNewCUptoCard : Claim7 := { stood := { row := fnExactNewCUptoRow, standIns := [], harness := (true, "7fe5b18a7cc9039cca14d269df961616b18bcc6e7392924a45064fdddb80d2ec"), looks := false }, kinds := [], alts := [], laidByText := true, laidKinds := [.data, .pinned], laidTests := true, laidLooks := .later }
def FnExactNewCUptoCardSaid : Prop := Claim7.holds Tryz.pinned (.plain (OpenSpec.upto fnExactNewCSpec)) fnExactNewCUptoCard
end Rows
end Go.Proofs.YtmjibndicekcaaaGreatDoor
