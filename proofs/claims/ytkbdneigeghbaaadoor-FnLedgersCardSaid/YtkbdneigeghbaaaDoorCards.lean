/-
  DERIVED. GIVEN WITH THE SEED: THE CARDS: each row of YtkbdneigeghbaaaDoorRows.lean that lists a variable, with what it lists TIED to the program's text (the seventh form; the later family's looks); each row that meets fmt, with fmt's text TOLD by the authors' own Lean function (tested against real Go, not proved from fmt's source: count such statements apart). THE CARD IS WHAT COUNTS. Prove the row's statement (the work); the ties are given (YtkbdneigeghbaaaDoorTie.lean); close each card by the builder's one call (the guide's Derived/Test/ToyasCard.lean, 'card_holds'). Laid BY PROGRAM, IN A SANDBOX (cutbox-door.mjs). By AI agents, Wed Nov 11 2026. No macro, syntax, notation, axiom, sorry.
-/
import Derived.Test.YtkbdneigeghbaaaDoorRows
import GoSem.ClaimSeven
namespace Go.Proofs.YtkbdneigeghbaaaDoor
namespace Rows

/-- THE TIED CARD OF 'laws.FnLedgers'. -/
def fnLedgersCard : Claim7 := { stood := { row := fnLedgersRow, standIns := [], harness := (true, "e7142006132b6cd891b384a596854ea10938ceeeee51e7ce1373cd8603117df8"), looks := false }, kinds := [], alts := [], laidByText := true, laidKinds := [.data, .data, .data], laidTests := true, laidLooks := .later }
def FnLedgersCardSaid : Prop := Claim7.holds Tryd.pinned (.plain (OpenSpec.ofChange fnLedgersSpec)) fnLedgersCard

/-- THE SECOND FORM's CARD OF 'laws.FnLedgers'. -/
def fnLedgersUptoCard : Claim7 := { stood := { row := fnLedgersUptoRow, standIns := [], harness := (true, "e7142006132b6cd891b384a596854ea10938ceeeee51e7ce1373cd8603117df8"), looks := false }, kinds := [], alts := [], laidByText := true, laidKinds := [.data, .data, .data], laidTests := true, laidLooks := .later }
def FnLedgersUptoCardSaid : Prop := Claim7.holds Tryd.pinned (.plain (OpenSpec.upto fnLedgersSpec)) fnLedgersUptoCard
end Rows
end Go.Proofs.YtkbdneigeghbaaaDoor
