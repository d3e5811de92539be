/-
  DERIVED. GIVEN WITH THE SEED: THE CARDS: each row of YtifocmbeahpopaaGreatDoorRows.lean that lists a variable, with what it lists TIED to the program's text (the seventh form; the later family's looks); each row that meets fmt, with fmt's text TOLD by the authors' own Lean function (tested against real Go, not proved from fmt's source: count such statements apart). THE CARD IS WHAT COUNTS. Prove the row's statement (the work); the ties are given (YtifocmbeahpopaaGreatDoorTie.lean); close each card by the builder's one call (the guide's Derived/Test/ToyasCard.lean, 'card_holds'). Laid BY PROGRAM, IN A SANDBOX (cutbox-door.mjs). By AI agents, Wed Nov 11 2026. No macro, syntax, notation, axiom, sorry.
-/
import Derived.Test.YtifocmbeahpopaaGreatDoorRows
import GoSem.ClaimSeven
namespace Go.Proofs.YtifocmbeahpopaaGreatDoor
namespace Rows

/-- THE TIED CARD OF 'laws.FnExactClusterText'. -/
def fnExactClusterTextCard : Claim7 := { stood := { row := fnExactClusterTextRow, standIns := [], harness := (true, "12f9e98fa5e2abca502912d4ccaab2efff8fe6aa10a09fe41a695fed9a3e8faa"), looks := false }, kinds := [], alts := [], laidByText := true, laidKinds := [.data, .data, .data, .data, .pinned], laidTests := true, laidLooks := .later }
def FnExactClusterTextCardSaid : Prop := Claim7.holds Tryz.pinned (.plain (OpenSpec.ofChange fnExactClusterTextSpec)) fnExactClusterTextCard

/-- THE TIED CARD OF 'laws.FnExactChangeC'. -/
def fnExactChangeCCard : Claim7 := { stood := { row := fnExactChangeCRow, standIns := [], harness := (true, "12f9e98fa5e2abca502912d4ccaab2efff8fe6aa10a09fe41a695fed9a3e8faa"), looks := false }, kinds := [], alts := [], laidByText := true, laidKinds := [.data, .pinned], laidTests := true, laidLooks := .later }
def FnExactChangeCCardSaid : Prop := Claim7.holds Tryz.pinned (.plain (OpenSpec.ofChange fnExactChangeCSpec)) fnExactChangeCCard

/-- THE SECOND FORM's CARD OF 'laws.FnExactClusterText'. -/
def fnExactClusterTextUptoCard : Claim7 := { stood := { row := fnExactClusterTextUptoRow, standIns := [], harness := (true, "12f9e98fa5e2abca502912d4ccaab2efff8fe6aa10a09fe41a695fed9a3e8faa"), looks := false }, kinds := [], alts := [], laidByText := true, laidKinds := [.data, .data, .data, .data, .pinned], laidTests := true, laidLooks := .later }
def FnExactClusterTextUptoCardSaid : Prop := Claim7.holds Tryz.pinned (.plain (OpenSpec.upto fnExactClusterTextSpec)) fnExactClusterTextUptoCard

/-- THE SECOND FORM's CARD OF 'laws.FnExactChangeC'. -/
def fnExactChangeCUptoCard : Claim7 := { stood := { row := fnExactChangeCUptoRow, standIns := [], harness := (true, "12f9e98fa5e2abca502912d4ccaab2efff8fe6aa10a09fe41a695fed9a3e8faa"), looks := false }, kinds := [], alts := [], laidByText := true, laidKinds := [.data, .pinned], laidTests := true, laidLooks := .later }
def FnExactChangeCUptoCardSaid : Prop := Claim7.holds Tryz.pinned (.plain (OpenSpec.upto fnExactChangeCSpec)) fnExactChangeCUptoCard
end Rows
end Go.Proofs.YtifocmbeahpopaaGreatDoor
