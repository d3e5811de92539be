/-
  DERIVED. GIVEN WITH THE SEED: THE CARDS: each row of YtdlleiaejipncaaGreatDoorRows.lean that lists a variable, with what it lists TIED to the program's text (the seventh form; the later family's looks); each row that meets fmt, with fmt's text TOLD by the authors' own Lean function (tested against real Go, not proved from fmt's source: count such statements apart). THE CARD IS WHAT COUNTS. Prove the row's statement (the work); the ties are given (YtdlleiaejipncaaGreatDoorTie.lean); close each card by the builder's one call (the guide's Derived/Test/ToyasCard.lean, 'card_holds'). Laid BY PROGRAM, IN A SANDBOX (cutbox-door.mjs). By AI agents, Wed Nov 11 2026. No macro, syntax, notation, axiom, sorry.
-/
import Derived.Test.YtdlleiaejipncaaGreatDoorRows
import GoSem.ClaimSeven
namespace Go.Proofs.YtdlleiaejipncaaGreatDoor
namespace Rows

/-- THE TIED CARD OF 'laws.FnExactPrepareC'. -/
def fnExactPrepareCCard : Claim7 := { stood := { row := fnExactPrepareCRow, standIns := [], harness := (true, "24567053ade5fc447ad10df8aaafe41d526fff6dad3f10bdcdf1929a5aac780b"), looks := false }, kinds := [], alts := [], laidByText := true, laidKinds := [.data, .pinned], laidTests := true, laidLooks := .later }
def FnExactPrepareCCardSaid : Prop := Claim7.holds Tryz.pinned (.plain (OpenSpec.ofChange fnExactPrepareCSpec)) fnExactPrepareCCard

/-- THE SECOND FORM's CARD OF 'laws.FnExactPrepareC'. -/
def fnExactPrepareCUptoCard : Claim7 := { stood := { row := fnExactPrepareCUptoRow, standIns := [], harness := (true, "24567053ade5fc447ad10df8aaafe41d526fff6dad3f10bdcdf1929a5aac780b"), looks := false }, kinds := [], alts := [], laidByText := true, laidKinds := [.data, .pinned], laidTests := true, laidLooks := .later }
def FnExactPrepareCUptoCardSaid : Prop := Claim7.holds Tryz.pinned (.plain (OpenSpec.upto fnExactPrepareCSpec)) fnExactPrepareCUptoCard
end Rows
end Go.Proofs.YtdlleiaejipncaaGreatDoor
