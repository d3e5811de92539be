/-
  DERIVED. GIVEN WITH THE SEED: THE CARDS: each row of YtgjplfeejfeioaaGreatDoorRows.lean that lists a variable, with what it lists TIED to the program's text (the seventh form; the later family's looks); each row that meets fmt, with fmt's text TOLD by the authors' own Lean function (tested against real Go, not proved from fmt's source: count such statements apart). THE CARD IS WHAT COUNTS. Prove the row's statement (the work); the ties are given (YtgjplfeejfeioaaGreatDoorTie.lean); close each card by the builder's one call (the guide's Derived/Test/ToyasCard.lean, 'card_holds'). Laid BY PROGRAM, IN A SANDBOX (cutbox-door.mjs). By AI agents, Wed Nov 11 2026. No macro, syntax, notation, axiom, sorry.
-/
import Derived.Test.YtgjplfeejfeioaaGreatDoorRows
import GoSem.ClaimSeven
namespace Go.Proofs.YtgjplfeejfeioaaGreatDoor
namespace Rows

/-- THE TIED CARD OF 'laws.FnExactClusterFault'. -/
def fnExactClusterFaultCard : Claim7 := { stood := { row := fnExactClusterFaultRow, standIns := [], harness := (true, "3eeab79381d385b5bf0b72ce9488f56bddddbfb8f74afa7af980ac7ea65f7f6e"), looks := false }, kinds := [], alts := [], laidByText := true, laidKinds := [.data, .pinned], laidTests := true, laidLooks := .later }
def FnExactClusterFaultCardSaid : Prop := Claim7.holds Tryz.pinned (.plain (OpenSpec.ofChange fnExactClusterFaultSpec)) fnExactClusterFaultCard

/-- THE TIED CARD OF 'laws.FnExactSafeRight'. -/
def fnExactSafeRightCard : Claim7 := { stood := { row := fnExactSafeRightRow, standIns := [], harness := (true, "3eeab79381d385b5bf0b72ce9488f56bddddbfb8f74afa7af980ac7ea65f7f6e"), looks := false }, kinds := [], alts := [], laidByText := true, laidKinds := [.data, .pinned], laidTests := true, laidLooks := .later }
def FnExactSafeRightCardSaid : Prop := Claim7.holds Tryz.pinned (.plain (OpenSpec.ofChange fnExactSafeRightSpec)) fnExactSafeRightCard

/-- THE TIED CARD OF 'laws.FnExactAlikeRight'. -/
def fnExactAlikeRightCard : Claim7 := { stood := { row := fnExactAlikeRightRow, standIns := [], harness := (true, "3eeab79381d385b5bf0b72ce9488f56bddddbfb8f74afa7af980ac7ea65f7f6e"), looks := false }, kinds := [], alts := [], laidByText := true, laidKinds := [.data, .pinned], laidTests := true, laidLooks := .later }
def FnExactAlikeRightCardSaid : Prop := Claim7.holds Tryz.pinned (.plain (OpenSpec.ofChange fnExactAlikeRightSpec)) fnExactAlikeRightCard

/-- THE TIED CARD OF 'laws.FnExactHonestRight'. -/
def fnExactHonestRightCard : Claim7 := { stood := { row := fnExactHonestRightRow, standIns := [], harness := (true, "3eeab79381d385b5bf0b72ce9488f56bddddbfb8f74afa7af980ac7ea65f7f6e"), looks := false }, kinds := [], alts := [], laidByText := true, laidKinds := [.data, .pinned], laidTests := true, laidLooks := .later }
def FnExactHonestRightCardSaid : Prop := Claim7.holds Tryz.pinned (.plain (OpenSpec.ofChange fnExactHonestRightSpec)) fnExactHonestRightCard

/-- THE TIED CARD OF 'laws.FnExactLagC'. -/
def fnExactLagCCard : Claim7 := { stood := { row := fnExactLagCRow, standIns := [], harness := (true, "3eeab79381d385b5bf0b72ce9488f56bddddbfb8f74afa7af980ac7ea65f7f6e"), looks := false }, kinds := [], alts := [], laidByText := true, laidKinds := [.data, .pinned], laidTests := true, laidLooks := .later }
def FnExactLagCCardSaid : Prop := Claim7.holds Tryz.pinned (.plain (OpenSpec.ofChange fnExactLagCSpec)) fnExactLagCCard

/-- THE TIED CARD OF 'laws.FnExactViewFor'. -/
def fnExactViewForCard : Claim7 := { stood := { row := fnExactViewForRow, standIns := [], harness := (true, "3eeab79381d385b5bf0b72ce9488f56bddddbfb8f74afa7af980ac7ea65f7f6e"), looks := false }, kinds := [], alts := [], laidByText := true, laidKinds := [.data, .pinned], laidTests := true, laidLooks := .later }
def FnExactViewForCardSaid : Prop := Claim7.holds Tryz.pinned (.plain (OpenSpec.ofChange fnExactViewForSpec)) fnExactViewForCard

/-- THE TIED CARD OF 'laws.FnExactWaitingC'. -/
def fnExactWaitingCCard : Claim7 := { stood := { row := fnExactWaitingCRow, standIns := [], harness := (true, "3eeab79381d385b5bf0b72ce9488f56bddddbfb8f74afa7af980ac7ea65f7f6e"), looks := false }, kinds := [], alts := [], laidByText := true, laidKinds := [.data, .pinned], laidTests := true, laidLooks := .later }
def FnExactWaitingCCardSaid : Prop := Claim7.holds Tryz.pinned (.plain (OpenSpec.ofChange fnExactWaitingCSpec)) fnExactWaitingCCard

/-- THE TIED CARD OF 'laws.FnExactValuesC'. -/
def fnExactValuesCCard : Claim7 := { stood := { row := fnExactValuesCRow, standIns := [], harness := (true, "3eeab79381d385b5bf0b72ce9488f56bddddbfb8f74afa7af980ac7ea65f7f6e"), looks := false }, kinds := [], alts := [], laidByText := true, laidKinds := [.data, .pinned], laidTests := true, laidLooks := .later }
def FnExactValuesCCardSaid : Prop := Claim7.holds Tryz.pinned (.plain (OpenSpec.ofChange fnExactValuesCSpec)) fnExactValuesCCard

/-- THE TIED CARD OF 'laws.FnExactClusterText'. -/
def fnExactClusterTextCard : Claim7 := { stood := { row := fnExactClusterTextRow, standIns := [], harness := (true, "3eeab79381d385b5bf0b72ce9488f56bddddbfb8f74afa7af980ac7ea65f7f6e"), looks := false }, kinds := [], alts := [], laidByText := true, laidKinds := [.data, .data, .data, .data, .pinned], laidTests := true, laidLooks := .later }
def FnExactClusterTextCardSaid : Prop := Claim7.holds Tryz.pinned (.plain (OpenSpec.ofChange fnExactClusterTextSpec)) fnExactClusterTextCard

/-- THE TIED CARD OF 'laws.FnExactOfferC'. -/
def fnExactOfferCCard : Claim7 := { stood := { row := fnExactOfferCRow, standIns := [], harness := (true, "3eeab79381d385b5bf0b72ce9488f56bddddbfb8f74afa7af980ac7ea65f7f6e"), looks := false }, kinds := [], alts := [], laidByText := true, laidKinds := [.data, .pinned], laidTests := true, laidLooks := .later }
def FnExactOfferCCardSaid : Prop := Claim7.holds Tryz.pinned (.plain (OpenSpec.ofChange fnExactOfferCSpec)) fnExactOfferCCard

/-- THE TIED CARD OF 'laws.FnExactAdoptC'. -/
def fnExactAdoptCCard : Claim7 := { stood := { row := fnExactAdoptCRow, standIns := [], harness := (true, "3eeab79381d385b5bf0b72ce9488f56bddddbfb8f74afa7af980ac7ea65f7f6e"), looks := false }, kinds := [], alts := [], laidByText := true, laidKinds := [.data, .pinned], laidTests := true, laidLooks := .later }
def FnExactAdoptCCardSaid : Prop := Claim7.holds Tryz.pinned (.plain (OpenSpec.ofChange fnExactAdoptCSpec)) fnExactAdoptCCard

/-- THE TIED CARD OF 'laws.FnExactDoneC'. -/
def fnExactDoneCCard : Claim7 := { stood := { row := fnExactDoneCRow, standIns := [], harness := (true, "3eeab79381d385b5bf0b72ce9488f56bddddbfb8f74afa7af980ac7ea65f7f6e"), looks := false }, kinds := [], alts := [], laidByText := true, laidKinds := [.data, .pinned], laidTests := true, laidLooks := .later }
def FnExactDoneCCardSaid : Prop := Claim7.holds Tryz.pinned (.plain (OpenSpec.ofChange fnExactDoneCSpec)) fnExactDoneCCard

/-- THE SECOND FORM's CARD OF 'laws.FnExactClusterFault'. -/
def fnExactClusterFaultUptoCard : Claim7 := { stood := { row := fnExactClusterFaultUptoRow, standIns := [], harness := (true, "3eeab79381d385b5bf0b72ce9488f56bddddbfb8f74afa7af980ac7ea65f7f6e"), looks := false }, kinds := [], alts := [], laidByText := true, laidKinds := [.data, .pinned], laidTests := true, laidLooks := .later }
def FnExactClusterFaultUptoCardSaid : Prop := Claim7.holds Tryz.pinned (.plain (OpenSpec.upto fnExactClusterFaultSpec)) fnExactClusterFaultUptoCard

/-- THE SECOND FORM's CARD OF 'laws.FnExactSafeRight'. -/
def fnExactSafeRightUptoCard : Claim7 := { stood := { row := fnExactSafeRightUptoRow, standIns := [], harness := (true, "3eeab79381d385b5bf0b72ce9488f56bddddbfb8f74afa7af980ac7ea65f7f6e"), looks := false }, kinds := [], alts := [], laidByText := true, laidKinds := [.data, .pinned], laidTests := true, laidLooks := .later }
def FnExactSafeRightUptoCardSaid : Prop := Claim7.holds Tryz.pinned (.plain (OpenSpec.upto fnExactSafeRightSpec)) fnExactSafeRightUptoCard

/-- THE SECOND FORM's CARD OF 'laws.FnExactAlikeRight'. -/
def fnExactAlikeRightUptoCard : Claim7 := { stood := { row := fnExactAlikeRightUptoRow, standIns := [], harness := (true, "3eeab79381d385b5bf0b72ce9488f56bddddbfb8f74afa7af980ac7ea65f7f6e"), looks := false }, kinds := [], alts := [], laidByText := true, laidKinds := [.data, .pinned], laidTests := true, laidLooks := .later }
def FnExactAlikeRightUptoCardSaid : Prop := Claim7.holds Tryz.pinned (.plain (OpenSpec.upto fnExactAlikeRightSpec)) fnExactAlikeRightUptoCard

/-- THE SECOND FORM's CARD OF 'laws.FnExactHonestRight'. -/
def fnExactHonestRightUptoCard : Claim7 := { stood := { row := fnExactHonestRightUptoRow, standIns := [], harness := (true, "3eeab79381d385b5bf0b72ce9488f56bddddbfb8f74afa7af980ac7ea65f7f6e"), looks := false }, kinds := [], alts := [], laidByText := true, laidKinds := [.data, .pinned], laidTests := true, laidLooks := .later }
def FnExactHonestRightUptoCardSaid : Prop := Claim7.holds Tryz.pinned (.plain (OpenSpec.upto fnExactHonestRightSpec)) fnExactHonestRightUptoCard

/-- THE SECOND FORM's CARD OF 'laws.FnExactLagC'. -/
def fnExactLagCUptoCard : Claim7 := { stood := { row := fnExactLagCUptoRow, standIns := [], harness := (true, "3eeab79381d385b5bf0b72ce9488f56bddddbfb8f74afa7af980ac7ea65f7f6e"), looks := false }, kinds := [], alts := [], laidByText := true, laidKinds := [.data, .pinned], laidTests := true, laidLooks := .later }
def FnExactLagCUptoCardSaid : Prop := Claim7.holds Tryz.pinned (.plain (OpenSpec.upto fnExactLagCSpec)) fnExactLagCUptoCard

/-- THE SECOND FORM's CARD OF 'laws.FnExactViewFor'. -/
def fnExactViewForUptoCard : Claim7 := { stood := { row := fnExactViewForUptoRow, standIns := [], harness := (true, "3eeab79381d385b5bf0b72ce9488f56bddddbfb8f74afa7af980ac7ea65f7f6e"), looks := false }, kinds := [], alts := [], laidByText := true, laidKinds := [.data, .pinned], laidTests := true, laidLooks := .later }
def FnExactViewForUptoCardSaid : Prop := Claim7.holds Tryz.pinned (.plain (OpenSpec.upto fnExactViewForSpec)) fnExactViewForUptoCard

/-- THE SECOND FORM's CARD OF 'laws.FnExactWaitingC'. -/
def fnExactWaitingCUptoCard : Claim7 := { stood := { row := fnExactWaitingCUptoRow, standIns := [], harness := (true, "3eeab79381d385b5bf0b72ce9488f56bddddbfb8f74afa7af980ac7ea65f7f6e"), looks := false }, kinds := [], alts := [], laidByText := true, laidKinds := [.data, .pinned], laidTests := true, laidLooks := .later }
def FnExactWaitingCUptoCardSaid : Prop := Claim7.holds Tryz.pinned (.plain (OpenSpec.upto fnExactWaitingCSpec)) fnExactWaitingCUptoCard

/-- THE SECOND FORM's CARD OF 'laws.FnExactValuesC'. -/
def fnExactValuesCUptoCard : Claim7 := { stood := { row := fnExactValuesCUptoRow, standIns := [], harness := (true, "3eeab79381d385b5bf0b72ce9488f56bddddbfb8f74afa7af980ac7ea65f7f6e"), looks := false }, kinds := [], alts := [], laidByText := true, laidKinds := [.data, .pinned], laidTests := true, laidLooks := .later }
def FnExactValuesCUptoCardSaid : Prop := Claim7.holds Tryz.pinned (.plain (OpenSpec.upto fnExactValuesCSpec)) fnExactValuesCUptoCard

/-- THE SECOND FORM's CARD OF 'laws.FnExactClusterText'. -/
def fnExactClusterTextUptoCard : Claim7 := { stood := { row := fnExactClusterTextUptoRow, standIns := [], harness := (true, "3eeab79381d385b5bf0b72ce9488f56bddddbfb8f74afa7af980ac7ea65f7f6e"), looks := false }, kinds := [], alts := [], laidByText := true, laidKinds := [.data, .data, .data, .data, .pinned], laidTests := true, laidLooks := .later }
def FnExactClusterTextUptoCardSaid : Prop := Claim7.holds Tryz.pinned (.plain (OpenSpec.upto fnExactClusterTextSpec)) fnExactClusterTextUptoCard

/-- THE SECOND FORM's CARD OF 'laws.FnExactOfferC'. -/
def fnExactOfferCUptoCard : Claim7 := { stood := { row := fnExactOfferCUptoRow, standIns := [], harness := (true, "3eeab79381d385b5bf0b72ce9488f56bddddbfb8f74afa7af980ac7ea65f7f6e"), looks := false }, kinds := [], alts := [], laidByText := true, laidKinds := [.data, .pinned], laidTests := true, laidLooks := .later }
def FnExactOfferCUptoCardSaid : Prop := Claim7.holds Tryz.pinned (.plain (OpenSpec.upto fnExactOfferCSpec)) fnExactOfferCUptoCard

/-- THE SECOND FORM's CARD OF 'laws.FnExactAdoptC'. -/
def fnExactAdoptCUptoCard : Claim7 := { stood := { row := fnExactAdoptCUptoRow, standIns := [], harness := (true, "3eeab79381d385b5bf0b72ce9488f56bddddbfb8f74afa7af980ac7ea65f7f6e"), looks := false }, kinds := [], alts := [], laidByText := true, laidKinds := [.data, .pinned], laidTests := true, laidLooks := .later }
def FnExactAdoptCUptoCardSaid : Prop := Claim7.holds Tryz.pinned (.plain (OpenSpec.upto fnExactAdoptCSpec)) fnExactAdoptCUptoCard

/-- THE SECOND FORM's CARD OF 'laws.FnExactDoneC'. -/
def fnExactDoneCUptoCard : Claim7 := { stood := { row := fnExactDoneCUptoRow, standIns := [], harness := (true, "3eeab79381d385b5bf0b72ce9488f56bddddbfb8f74afa7af980ac7ea65f7f6e"), looks := false }, kinds := [], alts := [], laidByText := true, laidKinds := [.data, .pinned], laidTests := true, laidLooks := .later }
def FnExactDoneCUptoCardSaid : Prop := Claim7.holds Tryz.pinned (.plain (OpenSpec.upto fnExactDoneCSpec)) fnExactDoneCUptoCard
end Rows
end Go.Proofs.YtgjplfeejfeioaaGreatDoor
