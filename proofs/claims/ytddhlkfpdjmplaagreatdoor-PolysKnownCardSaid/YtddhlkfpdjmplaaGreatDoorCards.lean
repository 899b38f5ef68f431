/-
  DERIVED. GIVEN WITH THE SEED: THE CARDS: each row of YtddhlkfpdjmplaaGreatDoorRows.lean that lists a variable, with what it lists TIED to the program's text (the seventh form; the later family's looks); each row that meets fmt, with fmt's text TOLD by the authors' own Lean function (tested against real Go, not proved from fmt's source: count such statements apart). THE CARD IS WHAT COUNTS. Prove the row's statement (the work); the ties are given (YtddhlkfpdjmplaaGreatDoorTie.lean); close each card by the builder's one call (the guide's Derived/Test/ToyasCard.lean, 'card_holds'). Laid BY PROGRAM, IN A SANDBOX (cutbox-door.mjs). By AI agents, Wed Nov 11 2026. No macro, syntax, notation, axiom, sorry.
-/
import Derived.Test.YtddhlkfpdjmplaaGreatDoorRows
import GoSem.ClaimSeven
namespace Go.Proofs.YtddhlkfpdjmplaaGreatDoor
namespace Rows

/-- THE TIED CARD OF 'gussetlaw09.IntegralsSeg'. -/
def integralsSegCard : Claim7 := { stood := { row := integralsSegRow, standIns := [], harness := (true, "359477c0030537578a0f0a032381ceb2eedc9ddb1cd40bb6da4bcaadebfaefce"), looks := false }, kinds := [], alts := [], laidByText := true, laidKinds := [.data, .data, .data], laidTests := true, laidLooks := .later }
def IntegralsSegCardSaid : Prop := Claim7.holds Tryz.pinned (.plain (OpenSpec.ofChange integralsSegSpec)) integralsSegCard

/-- THE TIED CARD OF 'gussetlaw08.PolysOf'. -/
def polysOfCard : Claim7 := { stood := { row := polysOfRow, standIns := [], harness := (true, "359477c0030537578a0f0a032381ceb2eedc9ddb1cd40bb6da4bcaadebfaefce"), looks := false }, kinds := [], alts := [], laidByText := true, laidKinds := [.data, .data, .data], laidTests := true, laidLooks := .later }
def PolysOfCardSaid : Prop := Claim7.holds Tryz.pinned (.plain (OpenSpec.ofChange polysOfSpec)) polysOfCard

/-- THE TIED CARD OF 'gussetlaw09.IntegralsKnown'. -/
def integralsKnownCard : Claim7 := { stood := { row := integralsKnownRow, standIns := [], harness := (true, "359477c0030537578a0f0a032381ceb2eedc9ddb1cd40bb6da4bcaadebfaefce"), looks := false }, kinds := [], alts := [], laidByText := true, laidKinds := [.data, .data, .data], laidTests := true, laidLooks := .later }
def IntegralsKnownCardSaid : Prop := Claim7.holds Tryz.pinned (.plain (OpenSpec.ofChange integralsKnownSpec)) integralsKnownCard

/-- THE TIED CARD OF 'gussetlaw08.PolysKnown'. -/
def polysKnownCard : Claim7 := { stood := { row := polysKnownRow, standIns := [], harness := (true, "359477c0030537578a0f0a032381ceb2eedc9ddb1cd40bb6da4bcaadebfaefce"), looks := false }, kinds := [], alts := [], laidByText := true, laidKinds := [.data, .data, .data], laidTests := true, laidLooks := .later }
def PolysKnownCardSaid : Prop := Claim7.holds Tryz.pinned (.plain (OpenSpec.ofChange polysKnownSpec)) polysKnownCard

/-- THE SECOND FORM's CARD OF 'gussetlaw09.IntegralsSeg'. -/
def integralsSegUptoCard : Claim7 := { stood := { row := integralsSegUptoRow, standIns := [], harness := (true, "359477c0030537578a0f0a032381ceb2eedc9ddb1cd40bb6da4bcaadebfaefce"), looks := false }, kinds := [], alts := [], laidByText := true, laidKinds := [.data, .data, .data], laidTests := true, laidLooks := .later }
def IntegralsSegUptoCardSaid : Prop := Claim7.holds Tryz.pinned (.plain (OpenSpec.upto integralsSegSpec)) integralsSegUptoCard

/-- THE SECOND FORM's CARD OF 'gussetlaw08.PolysOf'. -/
def polysOfUptoCard : Claim7 := { stood := { row := polysOfUptoRow, standIns := [], harness := (true, "359477c0030537578a0f0a032381ceb2eedc9ddb1cd40bb6da4bcaadebfaefce"), looks := false }, kinds := [], alts := [], laidByText := true, laidKinds := [.data, .data, .data], laidTests := true, laidLooks := .later }
def PolysOfUptoCardSaid : Prop := Claim7.holds Tryz.pinned (.plain (OpenSpec.upto polysOfSpec)) polysOfUptoCard

/-- THE SECOND FORM's CARD OF 'gussetlaw09.IntegralsKnown'. -/
def integralsKnownUptoCard : Claim7 := { stood := { row := integralsKnownUptoRow, standIns := [], harness := (true, "359477c0030537578a0f0a032381ceb2eedc9ddb1cd40bb6da4bcaadebfaefce"), looks := false }, kinds := [], alts := [], laidByText := true, laidKinds := [.data, .data, .data], laidTests := true, laidLooks := .later }
def IntegralsKnownUptoCardSaid : Prop := Claim7.holds Tryz.pinned (.plain (OpenSpec.upto integralsKnownSpec)) integralsKnownUptoCard

/-- THE SECOND FORM's CARD OF 'gussetlaw08.PolysKnown'. -/
def polysKnownUptoCard : Claim7 := { stood := { row := polysKnownUptoRow, standIns := [], harness := (true, "359477c0030537578a0f0a032381ceb2eedc9ddb1cd40bb6da4bcaadebfaefce"), looks := false }, kinds := [], alts := [], laidByText := true, laidKinds := [.data, .data, .data], laidTests := true, laidLooks := .later }
def PolysKnownUptoCardSaid : Prop := Claim7.holds Tryz.pinned (.plain (OpenSpec.upto polysKnownSpec)) polysKnownUptoCard
end Rows
end Go.Proofs.YtddhlkfpdjmplaaGreatDoor
