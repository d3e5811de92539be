/-
  DERIVED. GIVEN WITH THE SEED: THE CARDS: each row of YtjlecnhninhmnaaGreatDoorRows.lean that lists a variable, with what it lists TIED to the program's text (the seventh form; the later family's looks); each row that meets fmt, with fmt's text TOLD by the authors' own Lean function (tested against real Go, not proved from fmt's source: count such statements apart). THE CARD IS WHAT COUNTS. Prove the row's statement (the work); the ties are given (YtjlecnhninhmnaaGreatDoorTie.lean); close each card by the builder's one call (the guide's Derived/Test/ToyasCard.lean, 'card_holds'). Laid BY PROGRAM, IN A SANDBOX (cutbox-door.mjs). By AI agents, Wed Nov 11 2026. No macro, syntax, notation, axiom, sorry.
-/
import Derived.Test.YtjlecnhninhmnaaGreatDoorRows
import GoSem.ClaimSeven
namespace Go.Proofs.YtjlecnhninhmnaaGreatDoor
namespace Rows

/-- THE TIED CARD OF 'laws.FnHonest'. -/
def fnHonestCard : Claim7 := { stood := { row := fnHonestRow, standIns := [], harness := (true, "b497b185efafe2954d89bc2419ff4802ada8a65e0114c2f68e0e88b8de46241e"), looks := false }, kinds := [], alts := [], laidByText := true, laidKinds := [.data, .pinned], laidTests := true, laidLooks := .later }
def FnHonestCardSaid : Prop := Claim7.holds Tryz.pinned (.plain (OpenSpec.ofChange fnHonestSpec)) fnHonestCard

/-- THE TIED CARD OF 'laws.FnSafe'. -/
def fnSafeCard : Claim7 := { stood := { row := fnSafeRow, standIns := [], harness := (true, "b497b185efafe2954d89bc2419ff4802ada8a65e0114c2f68e0e88b8de46241e"), looks := false }, kinds := [], alts := [], laidByText := true, laidKinds := [.data, .pinned], laidTests := true, laidLooks := .later }
def FnSafeCardSaid : Prop := Claim7.holds Tryz.pinned (.plain (OpenSpec.ofChange fnSafeSpec)) fnSafeCard

/-- THE SECOND FORM's CARD OF 'laws.FnHonest'. -/
def fnHonestUptoCard : Claim7 := { stood := { row := fnHonestUptoRow, standIns := [], harness := (true, "b497b185efafe2954d89bc2419ff4802ada8a65e0114c2f68e0e88b8de46241e"), looks := false }, kinds := [], alts := [], laidByText := true, laidKinds := [.data, .pinned], laidTests := true, laidLooks := .later }
def FnHonestUptoCardSaid : Prop := Claim7.holds Tryz.pinned (.plain (OpenSpec.upto fnHonestSpec)) fnHonestUptoCard

/-- THE SECOND FORM's CARD OF 'laws.FnSafe'. -/
def fnSafeUptoCard : Claim7 := { stood := { row := fnSafeUptoRow, standIns := [], harness := (true, "b497b185efafe2954d89bc2419ff4802ada8a65e0114c2f68e0e88b8de46241e"), looks := false }, kinds := [], alts := [], laidByText := true, laidKinds := [.data, .pinned], laidTests := true, laidLooks := .later }
def FnSafeUptoCardSaid : Prop := Claim7.holds Tryz.pinned (.plain (OpenSpec.upto fnSafeSpec)) fnSafeUptoCard
end Rows
end Go.Proofs.YtjlecnhninhmnaaGreatDoor
