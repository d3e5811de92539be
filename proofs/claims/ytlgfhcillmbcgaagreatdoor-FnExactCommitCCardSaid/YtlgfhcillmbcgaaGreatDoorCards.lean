/-
  DERIVED. GIVEN WITH THE SEED: THE CARDS: each row of YtlgfhcillmbcgaaGreatDoorRows.lean that lists a variable, with what it lists TIED to the program's text (the seventh form; the later family's looks); each row that meets fmt, with fmt's text TOLD by the authors' own Lean function (tested against real Go, not proved from fmt's source: count such statements apart). THE CARD IS WHAT COUNTS. Prove the row's statement (the work); the ties are given (YtlgfhcillmbcgaaGreatDoorTie.lean); close each card by the builder's one call (the guide's Derived/Test/ToyasCard.lean, 'card_holds'). Laid BY PROGRAM, IN A SANDBOX (cutbox-door.mjs). By AI agents, Wed Nov 11 2026. No macro, syntax, notation, axiom, sorry.
-/
import Derived.Test.YtlgfhcillmbcgaaGreatDoorRows
import GoSem.ClaimSeven
namespace Go.Proofs.YtlgfhcillmbcgaaGreatDoor
namespace Rows

/-- THE TIED CARD OF 'laws.FnExactWaitingC'. -/
def fnExactWaitingCCard : Claim7 := { stood := { row := fnExactWaitingCRow, standIns := [], harness := (true, "64bd9f017669551cea726eb9e81a5156d0d89523396e026ec3b94f2d36649c5a"), looks := false }, kinds := [], alts := [], laidByText := true, laidKinds := [.data, .pinned], laidTests := true, laidLooks := .later }
def FnExactWaitingCCardSaid : Prop := Claim7.holds Tryz.pinned (.plain (OpenSpec.ofChange fnExactWaitingCSpec)) fnExactWaitingCCard

/-- THE TIED CARD OF 'laws.FnExactValuesC'. -/
def fnExactValuesCCard : Claim7 := { stood := { row := fnExactValuesCRow, standIns := [], harness := (true, "64bd9f017669551cea726eb9e81a5156d0d89523396e026ec3b94f2d36649c5a"), looks := false }, kinds := [], alts := [], laidByText := true, laidKinds := [.data, .pinned], laidTests := true, laidLooks := .later }
def FnExactValuesCCardSaid : Prop := Claim7.holds Tryz.pinned (.plain (OpenSpec.ofChange fnExactValuesCSpec)) fnExactValuesCCard

/-- THE TIED CARD OF 'laws.FnExactOfferC'. -/
def fnExactOfferCCard : Claim7 := { stood := { row := fnExactOfferCRow, standIns := [], harness := (true, "64bd9f017669551cea726eb9e81a5156d0d89523396e026ec3b94f2d36649c5a"), looks := false }, kinds := [], alts := [], laidByText := true, laidKinds := [.data, .pinned], laidTests := true, laidLooks := .later }
def FnExactOfferCCardSaid : Prop := Claim7.holds Tryz.pinned (.plain (OpenSpec.ofChange fnExactOfferCSpec)) fnExactOfferCCard

/-- THE TIED CARD OF 'laws.FnExactAdoptC'. -/
def fnExactAdoptCCard : Claim7 := { stood := { row := fnExactAdoptCRow, standIns := [], harness := (true, "64bd9f017669551cea726eb9e81a5156d0d89523396e026ec3b94f2d36649c5a"), looks := false }, kinds := [], alts := [], laidByText := true, laidKinds := [.data, .pinned], laidTests := true, laidLooks := .later }
def FnExactAdoptCCardSaid : Prop := Claim7.holds Tryz.pinned (.plain (OpenSpec.ofChange fnExactAdoptCSpec)) fnExactAdoptCCard

/-- THE TIED CARD OF 'laws.FnExactDoneC'. -/
def fnExactDoneCCard : Claim7 := { stood := { row := fnExactDoneCRow, standIns := [], harness := (true, "64bd9f017669551cea726eb9e81a5156d0d89523396e026ec3b94f2d36649c5a"), looks := false }, kinds := [], alts := [], laidByText := true, laidKinds := [.data, .pinned], laidTests := true, laidLooks := .later }
def FnExactDoneCCardSaid : Prop := Claim7.holds Tryz.pinned (.plain (OpenSpec.ofChange fnExactDoneCSpec)) fnExactDoneCCard

/-- THE TIED CARD OF 'laws.FnExactForgeC'. -/
def fnExactForgeCCard : Claim7 := { stood := { row := fnExactForgeCRow, standIns := [], harness := (true, "64bd9f017669551cea726eb9e81a5156d0d89523396e026ec3b94f2d36649c5a"), looks := false }, kinds := [], alts := [], laidByText := true, laidKinds := [.data, .pinned], laidTests := true, laidLooks := .later }
def FnExactForgeCCardSaid : Prop := Claim7.holds Tryz.pinned (.plain (OpenSpec.ofChange fnExactForgeCSpec)) fnExactForgeCCard

/-- THE TIED CARD OF 'laws.FnExactCommitC'. -/
def fnExactCommitCCard : Claim7 := { stood := { row := fnExactCommitCRow, standIns := [], harness := (true, "64bd9f017669551cea726eb9e81a5156d0d89523396e026ec3b94f2d36649c5a"), looks := false }, kinds := [], alts := [], laidByText := true, laidKinds := [.data, .pinned], laidTests := true, laidLooks := .later }
def FnExactCommitCCardSaid : Prop := Claim7.holds Tryz.pinned (.plain (OpenSpec.ofChange fnExactCommitCSpec)) fnExactCommitCCard

/-- THE TIED CARD OF 'laws.FnExactNewC'. -/
def fnExactNewCCard : Claim7 := { stood := { row := fnExactNewCRow, standIns := [], harness := (true, "64bd9f017669551cea726eb9e81a5156d0d89523396e026ec3b94f2d36649c5a"), looks := false }, kinds := [], alts := [], laidByText := true, laidKinds := [.data, .pinned], laidTests := true, laidLooks := .later }
def FnExactNewCCardSaid : Prop := Claim7.holds Tryz.pinned (.plain (OpenSpec.ofChange fnExactNewCSpec)) fnExactNewCCard

/-- THE SECOND FORM's CARD OF 'laws.FnExactWaitingC'. -/
def fnExactWaitingCUptoCard : Claim7 := { stood := { row := fnExactWaitingCUptoRow, standIns := [], harness := (true, "64bd9f017669551cea726eb9e81a5156d0d89523396e026ec3b94f2d36649c5a"), looks := false }, kinds := [], alts := [], laidByText := true, laidKinds := [.data, .pinned], laidTests := true, laidLooks := .later }
def FnExactWaitingCUptoCardSaid : Prop := Claim7.holds Tryz.pinned (.plain (OpenSpec.upto fnExactWaitingCSpec)) fnExactWaitingCUptoCard

/-- THE SECOND FORM's CARD OF 'laws.FnExactValuesC'. -/
def fnExactValuesCUptoCard : Claim7 := { stood := { row := fnExactValuesCUptoRow, standIns := [], harness := (true, "64bd9f017669551cea726eb9e81a5156d0d89523396e026ec3b94f2d36649c5a"), looks := false }, kinds := [], alts := [], laidByText := true, laidKinds := [.data, .pinned], laidTests := true, laidLooks := .later }
def FnExactValuesCUptoCardSaid : Prop := Claim7.holds Tryz.pinned (.plain (OpenSpec.upto fnExactValuesCSpec)) fnExactValuesCUptoCard

/-- THE SECOND FORM's CARD OF 'laws.FnExactOfferC'. -/
def fnExactOfferCUptoCard : Claim7 := { stood := { row := fnExactOfferCUptoRow, standIns := [], harness := (true, "64bd9f017669551cea726eb9e81a5156d0d89523396e026ec3b94f2d36649c5a"), looks := false }, kinds := [], alts := [], laidByText := true, laidKinds := [.data, .pinned], laidTests := true, laidLooks := .later }
def FnExactOfferCUptoCardSaid : Prop := Claim7.holds Tryz.pinned (.plain (OpenSpec.upto fnExactOfferCSpec)) fnExactOfferCUptoCard

/-- THE SECOND FORM's CARD OF 'laws.FnExactAdoptC'. -/
def fnExactAdoptCUptoCard : Claim7 := { stood := { row := fnExactAdoptCUptoRow, standIns := [], harness := (true, "64bd9f017669551cea726eb9e81a5156d0d89523396e026ec3b94f2d36649c5a"), looks := false }, kinds := [], alts := [], laidByText := true, laidKinds := [.data, .pinned], laidTests := true, laidLooks := .later }
def FnExactAdoptCUptoCardSaid : Prop := Claim7.holds Tryz.pinned (.plain (OpenSpec.upto fnExactAdoptCSpec)) fnExactAdoptCUptoCard

/-- THE SECOND FORM's CARD OF 'laws.FnExactDoneC'. -/
def fnExactDoneCUptoCard : Claim7 := { stood := { row := fnExactDoneCUptoRow, standIns := [], harness := (true, "64bd9f017669551cea726eb9e81a5156d0d89523396e026ec3b94f2d36649c5a"), looks := false }, kinds := [], alts := [], laidByText := true, laidKinds := [.data, .pinned], laidTests := true, laidLooks := .later }
def FnExactDoneCUptoCardSaid : Prop := Claim7.holds Tryz.pinned (.plain (OpenSpec.upto fnExactDoneCSpec)) fnExactDoneCUptoCard

/-- THE SECOND FORM's CARD OF 'laws.FnExactForgeC'. -/
def fnExactForgeCUptoCard : Claim7 := { stood := { row := fnExactForgeCUptoRow, standIns := [], harness := (true, "64bd9f017669551cea726eb9e81a5156d0d89523396e026ec3b94f2d36649c5a"), looks := false }, kinds := [], alts := [], laidByText := true, laidKinds := [.data, .pinned], laidTests := true, laidLooks := .later }
def FnExactForgeCUptoCardSaid : Prop := Claim7.holds Tryz.pinned (.plain (OpenSpec.upto fnExactForgeCSpec)) fnExactForgeCUptoCard

/-- THE SECOND FORM's CARD OF 'laws.FnExactCommitC'. -/
def fnExactCommitCUptoCard : Claim7 := { stood := { row := fnExactCommitCUptoRow, standIns := [], harness := (true, "64bd9f017669551cea726eb9e81a5156d0d89523396e026ec3b94f2d36649c5a"), looks := false }, kinds := [], alts := [], laidByText := true, laidKinds := [.data, .pinned], laidTests := true, laidLooks := .later }
def FnExactCommitCUptoCardSaid : Prop := Claim7.holds Tryz.pinned (.plain (OpenSpec.upto fnExactCommitCSpec)) fnExactCommitCUptoCard

/-- THE SECOND FORM's CARD OF 'laws.FnExactNewC'. -/
def fnExactNewCUptoCard : Claim7 := { stood := { row := fnExactNewCUptoRow, standIns := [], harness := (true, "64bd9f017669551cea726eb9e81a5156d0d89523396e026ec3b94f2d36649c5a"), looks := false }, kinds := [], alts := [], laidByText := true, laidKinds := [.data, .pinned], laidTests := true, laidLooks := .later }
def FnExactNewCUptoCardSaid : Prop := Claim7.holds Tryz.pinned (.plain (OpenSpec.upto fnExactNewCSpec)) fnExactNewCUptoCard
end Rows
end Go.Proofs.YtlgfhcillmbcgaaGreatDoor
