/-
  DERIVED. GIVEN WITH THE SEED: THE CARDS: each row of YtealgpgmbflilaaGreatDoorRows.lean that lists a variable, with what it lists TIED to the program's text (the seventh form; the later family's looks); each row that meets fmt, with fmt's text TOLD by the authors' own Lean function (tested against real Go, not proved from fmt's source: count such statements apart). THE CARD IS WHAT COUNTS. Prove the row's statement (the work); the ties are given (YtealgpgmbflilaaGreatDoorTie.lean); close each card by the builder's one call (the guide's Derived/Test/ToyasCard.lean, 'card_holds'). Laid BY PROGRAM, IN A SANDBOX (cutbox-door.mjs). By AI agents, Wed Nov 11 2026. No macro, syntax, notation, axiom, sorry.
-/
import Derived.Test.YtealgpgmbflilaaGreatDoorRows
import GoSem.ClaimSeven
namespace Go.Proofs.YtealgpgmbflilaaGreatDoor
namespace Rows

/-- THE TIED CARD OF 'gussetlaw09.IntegralsSeg'. -/
def integralsSegCard : Claim7 := { stood := { row := integralsSegRow, standIns := [], harness := (true, "17e183d7dce287bf92ecb871fc11de4a34209014a59b53cb8cb5aea0c7e2b2f2"), looks := false }, kinds := [], alts := [], laidByText := true, laidKinds := [.data, .data, .data], laidTests := true, laidLooks := .later }
def IntegralsSegCardSaid : Prop := Claim7.holds Tryz.pinned (.plain (OpenSpec.ofChange integralsSegSpec)) integralsSegCard

/-- THE TIED CARD OF 'gussetlaw09.IntegralsRound'. -/
def integralsRoundCard : Claim7 := { stood := { row := integralsRoundRow, standIns := [], harness := (true, "17e183d7dce287bf92ecb871fc11de4a34209014a59b53cb8cb5aea0c7e2b2f2"), looks := false }, kinds := [], alts := [], laidByText := true, laidKinds := [.data, .data, .data], laidTests := true, laidLooks := .later }
def IntegralsRoundCardSaid : Prop := Claim7.holds Tryz.pinned (.plain (OpenSpec.ofChange integralsRoundSpec)) integralsRoundCard

/-- THE TIED CARD OF 'gussetlaw09.IntegralsMoments'. -/
def integralsMomentsCard : Claim7 := { stood := { row := integralsMomentsRow, standIns := [], harness := (true, "17e183d7dce287bf92ecb871fc11de4a34209014a59b53cb8cb5aea0c7e2b2f2"), looks := false }, kinds := [], alts := [], laidByText := true, laidKinds := [.data, .data, .data], laidTests := true, laidLooks := .later }
def IntegralsMomentsCardSaid : Prop := Claim7.holds Tryz.pinned (.plain (OpenSpec.ofChange integralsMomentsSpec)) integralsMomentsCard

/-- THE TIED CARD OF 'gussetlaw08.PolysRules'. -/
def polysRulesCard : Claim7 := { stood := { row := polysRulesRow, standIns := [], harness := (true, "17e183d7dce287bf92ecb871fc11de4a34209014a59b53cb8cb5aea0c7e2b2f2"), looks := false }, kinds := [], alts := [], laidByText := true, laidKinds := [.data, .data, .data], laidTests := true, laidLooks := .later }
def PolysRulesCardSaid : Prop := Claim7.holds Tryz.pinned (.plain (OpenSpec.ofChange polysRulesSpec)) polysRulesCard

/-- THE TIED CARD OF 'gussetlaw09.IntegralsParts'. -/
def integralsPartsCard : Claim7 := { stood := { row := integralsPartsRow, standIns := [], harness := (true, "17e183d7dce287bf92ecb871fc11de4a34209014a59b53cb8cb5aea0c7e2b2f2"), looks := false }, kinds := [], alts := [], laidByText := true, laidKinds := [.data, .data, .data], laidTests := true, laidLooks := .later }
def IntegralsPartsCardSaid : Prop := Claim7.holds Tryz.pinned (.plain (OpenSpec.ofChange integralsPartsSpec)) integralsPartsCard

/-- THE TIED CARD OF 'gussetlaw08.PolysRing'. -/
def polysRingCard : Claim7 := { stood := { row := polysRingRow, standIns := [], harness := (true, "17e183d7dce287bf92ecb871fc11de4a34209014a59b53cb8cb5aea0c7e2b2f2"), looks := false }, kinds := [], alts := [], laidByText := true, laidKinds := [.data, .data, .data], laidTests := true, laidLooks := .later }
def PolysRingCardSaid : Prop := Claim7.holds Tryz.pinned (.plain (OpenSpec.ofChange polysRingSpec)) polysRingCard

/-- THE TIED CARD OF 'gussetlaw09.IntegralsGauss'. -/
def integralsGaussCard : Claim7 := { stood := { row := integralsGaussRow, standIns := [], harness := (true, "17e183d7dce287bf92ecb871fc11de4a34209014a59b53cb8cb5aea0c7e2b2f2"), looks := false }, kinds := [], alts := [], laidByText := true, laidKinds := [.data, .data, .data], laidTests := true, laidLooks := .later }
def IntegralsGaussCardSaid : Prop := Claim7.holds Tryz.pinned (.plain (OpenSpec.ofChange integralsGaussSpec)) integralsGaussCard

/-- THE TIED CARD OF 'gussetlaw09.IntegralsWays'. -/
def integralsWaysCard : Claim7 := { stood := { row := integralsWaysRow, standIns := [], harness := (true, "17e183d7dce287bf92ecb871fc11de4a34209014a59b53cb8cb5aea0c7e2b2f2"), looks := false }, kinds := [], alts := [], laidByText := true, laidKinds := [.data, .data, .data], laidTests := true, laidLooks := .later }
def IntegralsWaysCardSaid : Prop := Claim7.holds Tryz.pinned (.plain (OpenSpec.ofChange integralsWaysSpec)) integralsWaysCard

/-- THE TIED CARD OF 'gussetlaw08.PolysOf'. -/
def polysOfCard : Claim7 := { stood := { row := polysOfRow, standIns := [], harness := (true, "17e183d7dce287bf92ecb871fc11de4a34209014a59b53cb8cb5aea0c7e2b2f2"), looks := false }, kinds := [], alts := [], laidByText := true, laidKinds := [.data, .data, .data], laidTests := true, laidLooks := .later }
def PolysOfCardSaid : Prop := Claim7.holds Tryz.pinned (.plain (OpenSpec.ofChange polysOfSpec)) polysOfCard

/-- THE TIED CARD OF 'gussetlaw08.PolysTexts'. -/
def polysTextsCard : Claim7 := { stood := { row := polysTextsRow, standIns := [], harness := (true, "17e183d7dce287bf92ecb871fc11de4a34209014a59b53cb8cb5aea0c7e2b2f2"), looks := false }, kinds := [], alts := [], laidByText := true, laidKinds := [.data, .data, .data], laidTests := true, laidLooks := .later }
def PolysTextsCardSaid : Prop := Claim7.holds Tryz.pinned (.plain (OpenSpec.ofChange polysTextsSpec)) polysTextsCard

/-- THE TIED CARD OF 'gussetlaw08.PolysShifts'. -/
def polysShiftsCard : Claim7 := { stood := { row := polysShiftsRow, standIns := [], harness := (true, "17e183d7dce287bf92ecb871fc11de4a34209014a59b53cb8cb5aea0c7e2b2f2"), looks := false }, kinds := [], alts := [], laidByText := true, laidKinds := [.data, .data, .data], laidTests := true, laidLooks := .later }
def PolysShiftsCardSaid : Prop := Claim7.holds Tryz.pinned (.plain (OpenSpec.ofChange polysShiftsSpec)) polysShiftsCard

/-- THE TIED CARD OF 'gussetlaw08.PolysKnown'. -/
def polysKnownCard : Claim7 := { stood := { row := polysKnownRow, standIns := [], harness := (true, "17e183d7dce287bf92ecb871fc11de4a34209014a59b53cb8cb5aea0c7e2b2f2"), looks := false }, kinds := [], alts := [], laidByText := true, laidKinds := [.data, .data, .data], laidTests := true, laidLooks := .later }
def PolysKnownCardSaid : Prop := Claim7.holds Tryz.pinned (.plain (OpenSpec.ofChange polysKnownSpec)) polysKnownCard

/-- THE SECOND FORM's CARD OF 'gussetlaw09.IntegralsSeg'. -/
def integralsSegUptoCard : Claim7 := { stood := { row := integralsSegUptoRow, standIns := [], harness := (true, "17e183d7dce287bf92ecb871fc11de4a34209014a59b53cb8cb5aea0c7e2b2f2"), looks := false }, kinds := [], alts := [], laidByText := true, laidKinds := [.data, .data, .data], laidTests := true, laidLooks := .later }
def IntegralsSegUptoCardSaid : Prop := Claim7.holds Tryz.pinned (.plain (OpenSpec.upto integralsSegSpec)) integralsSegUptoCard

/-- THE SECOND FORM's CARD OF 'gussetlaw09.IntegralsRound'. -/
def integralsRoundUptoCard : Claim7 := { stood := { row := integralsRoundUptoRow, standIns := [], harness := (true, "17e183d7dce287bf92ecb871fc11de4a34209014a59b53cb8cb5aea0c7e2b2f2"), looks := false }, kinds := [], alts := [], laidByText := true, laidKinds := [.data, .data, .data], laidTests := true, laidLooks := .later }
def IntegralsRoundUptoCardSaid : Prop := Claim7.holds Tryz.pinned (.plain (OpenSpec.upto integralsRoundSpec)) integralsRoundUptoCard

/-- THE SECOND FORM's CARD OF 'gussetlaw09.IntegralsMoments'. -/
def integralsMomentsUptoCard : Claim7 := { stood := { row := integralsMomentsUptoRow, standIns := [], harness := (true, "17e183d7dce287bf92ecb871fc11de4a34209014a59b53cb8cb5aea0c7e2b2f2"), looks := false }, kinds := [], alts := [], laidByText := true, laidKinds := [.data, .data, .data], laidTests := true, laidLooks := .later }
def IntegralsMomentsUptoCardSaid : Prop := Claim7.holds Tryz.pinned (.plain (OpenSpec.upto integralsMomentsSpec)) integralsMomentsUptoCard

/-- THE SECOND FORM's CARD OF 'gussetlaw08.PolysRules'. -/
def polysRulesUptoCard : Claim7 := { stood := { row := polysRulesUptoRow, standIns := [], harness := (true, "17e183d7dce287bf92ecb871fc11de4a34209014a59b53cb8cb5aea0c7e2b2f2"), looks := false }, kinds := [], alts := [], laidByText := true, laidKinds := [.data, .data, .data], laidTests := true, laidLooks := .later }
def PolysRulesUptoCardSaid : Prop := Claim7.holds Tryz.pinned (.plain (OpenSpec.upto polysRulesSpec)) polysRulesUptoCard

/-- THE SECOND FORM's CARD OF 'gussetlaw09.IntegralsParts'. -/
def integralsPartsUptoCard : Claim7 := { stood := { row := integralsPartsUptoRow, standIns := [], harness := (true, "17e183d7dce287bf92ecb871fc11de4a34209014a59b53cb8cb5aea0c7e2b2f2"), looks := false }, kinds := [], alts := [], laidByText := true, laidKinds := [.data, .data, .data], laidTests := true, laidLooks := .later }
def IntegralsPartsUptoCardSaid : Prop := Claim7.holds Tryz.pinned (.plain (OpenSpec.upto integralsPartsSpec)) integralsPartsUptoCard

/-- THE SECOND FORM's CARD OF 'gussetlaw08.PolysRing'. -/
def polysRingUptoCard : Claim7 := { stood := { row := polysRingUptoRow, standIns := [], harness := (true, "17e183d7dce287bf92ecb871fc11de4a34209014a59b53cb8cb5aea0c7e2b2f2"), looks := false }, kinds := [], alts := [], laidByText := true, laidKinds := [.data, .data, .data], laidTests := true, laidLooks := .later }
def PolysRingUptoCardSaid : Prop := Claim7.holds Tryz.pinned (.plain (OpenSpec.upto polysRingSpec)) polysRingUptoCard

/-- THE SECOND FORM's CARD OF 'gussetlaw09.IntegralsGauss'. -/
def integralsGaussUptoCard : Claim7 := { stood := { row := integralsGaussUptoRow, standIns := [], harness := (true, "17e183d7dce287bf92ecb871fc11de4a34209014a59b53cb8cb5aea0c7e2b2f2"), looks := false }, kinds := [], alts := [], laidByText := true, laidKinds := [.data, .data, .data], laidTests := true, laidLooks := .later }
def IntegralsGaussUptoCardSaid : Prop := Claim7.holds Tryz.pinned (.plain (OpenSpec.upto integralsGaussSpec)) integralsGaussUptoCard

/-- THE SECOND FORM's CARD OF 'gussetlaw09.IntegralsWays'. -/
def integralsWaysUptoCard : Claim7 := { stood := { row := integralsWaysUptoRow, standIns := [], harness := (true, "17e183d7dce287bf92ecb871fc11de4a34209014a59b53cb8cb5aea0c7e2b2f2"), looks := false }, kinds := [], alts := [], laidByText := true, laidKinds := [.data, .data, .data], laidTests := true, laidLooks := .later }
def IntegralsWaysUptoCardSaid : Prop := Claim7.holds Tryz.pinned (.plain (OpenSpec.upto integralsWaysSpec)) integralsWaysUptoCard

/-- THE SECOND FORM's CARD OF 'gussetlaw08.PolysOf'. -/
def polysOfUptoCard : Claim7 := { stood := { row := polysOfUptoRow, standIns := [], harness := (true, "17e183d7dce287bf92ecb871fc11de4a34209014a59b53cb8cb5aea0c7e2b2f2"), looks := false }, kinds := [], alts := [], laidByText := true, laidKinds := [.data, .data, .data], laidTests := true, laidLooks := .later }
def PolysOfUptoCardSaid : Prop := Claim7.holds Tryz.pinned (.plain (OpenSpec.upto polysOfSpec)) polysOfUptoCard

/-- THE SECOND FORM's CARD OF 'gussetlaw08.PolysTexts'. -/
def polysTextsUptoCard : Claim7 := { stood := { row := polysTextsUptoRow, standIns := [], harness := (true, "17e183d7dce287bf92ecb871fc11de4a34209014a59b53cb8cb5aea0c7e2b2f2"), looks := false }, kinds := [], alts := [], laidByText := true, laidKinds := [.data, .data, .data], laidTests := true, laidLooks := .later }
def PolysTextsUptoCardSaid : Prop := Claim7.holds Tryz.pinned (.plain (OpenSpec.upto polysTextsSpec)) polysTextsUptoCard

/-- THE SECOND FORM's CARD OF 'gussetlaw08.PolysShifts'. -/
def polysShiftsUptoCard : Claim7 := { stood := { row := polysShiftsUptoRow, standIns := [], harness := (true, "17e183d7dce287bf92ecb871fc11de4a34209014a59b53cb8cb5aea0c7e2b2f2"), looks := false }, kinds := [], alts := [], laidByText := true, laidKinds := [.data, .data, .data], laidTests := true, laidLooks := .later }
def PolysShiftsUptoCardSaid : Prop := Claim7.holds Tryz.pinned (.plain (OpenSpec.upto polysShiftsSpec)) polysShiftsUptoCard

/-- THE SECOND FORM's CARD OF 'gussetlaw08.PolysKnown'. -/
def polysKnownUptoCard : Claim7 := { stood := { row := polysKnownUptoRow, standIns := [], harness := (true, "17e183d7dce287bf92ecb871fc11de4a34209014a59b53cb8cb5aea0c7e2b2f2"), looks := false }, kinds := [], alts := [], laidByText := true, laidKinds := [.data, .data, .data], laidTests := true, laidLooks := .later }
def PolysKnownUptoCardSaid : Prop := Claim7.holds Tryz.pinned (.plain (OpenSpec.upto polysKnownSpec)) polysKnownUptoCard
end Rows
end Go.Proofs.YtealgpgmbflilaaGreatDoor
