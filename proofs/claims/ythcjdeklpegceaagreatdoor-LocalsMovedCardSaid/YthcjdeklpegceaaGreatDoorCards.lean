/-
  DERIVED. GIVEN WITH THE SEED: THE CARDS: each row of YthcjdeklpegceaaGreatDoorRows.lean that lists a variable, with what it lists TIED to the program's text (the seventh form; the later family's looks); each row that meets fmt, with fmt's text TOLD by the authors' own Lean function (tested against real Go, not proved from fmt's source: count such statements apart). THE CARD IS WHAT COUNTS. Prove the row's statement (the work); the ties are given (YthcjdeklpegceaaGreatDoorTie.lean); close each card by the builder's one call (the guide's Derived/Test/ToyasCard.lean, 'card_holds'). Laid BY PROGRAM, IN A SANDBOX (cutbox-door.mjs). By AI agents, Wed Nov 11 2026. No macro, syntax, notation, axiom, sorry.
-/
import Derived.Test.YthcjdeklpegceaaGreatDoorRows
import GoSem.ClaimSeven
namespace Go.Proofs.YthcjdeklpegceaaGreatDoor
namespace Rows

/-- THE TIED CARD OF 'gussetlaw37.LocalsEnergy'. -/
def localsEnergyCard : Claim7 := { stood := { row := localsEnergyRow, standIns := [], harness := (true, "0e455969df999fa4790a0210480453cc4c4e898794f06cd3da73e459cd7ee64c"), looks := false }, kinds := [], alts := [], laidByText := true, laidKinds := [.data, .data, .data, .data], laidTests := true, laidLooks := .later }
def LocalsEnergyCardSaid : Prop := Claim7.holds Tryz.pinned (.plain (OpenSpec.ofChange localsEnergySpec)) localsEnergyCard

/-- THE TIED CARD OF 'gussetlaw37.LocalsMoved'. -/
def localsMovedCard : Claim7 := { stood := { row := localsMovedRow, standIns := [], harness := (true, "0e455969df999fa4790a0210480453cc4c4e898794f06cd3da73e459cd7ee64c"), looks := false }, kinds := [], alts := [], laidByText := true, laidKinds := [.data, .data, .data, .data], laidTests := true, laidLooks := .later }
def LocalsMovedCardSaid : Prop := Claim7.holds Tryz.pinned (.plain (OpenSpec.ofChange localsMovedSpec)) localsMovedCard

/-- THE SECOND FORM's CARD OF 'gussetlaw37.LocalsEnergy'. -/
def localsEnergyUptoCard : Claim7 := { stood := { row := localsEnergyUptoRow, standIns := [], harness := (true, "0e455969df999fa4790a0210480453cc4c4e898794f06cd3da73e459cd7ee64c"), looks := false }, kinds := [], alts := [], laidByText := true, laidKinds := [.data, .data, .data, .data], laidTests := true, laidLooks := .later }
def LocalsEnergyUptoCardSaid : Prop := Claim7.holds Tryz.pinned (.plain (OpenSpec.upto localsEnergySpec)) localsEnergyUptoCard

/-- THE SECOND FORM's CARD OF 'gussetlaw37.LocalsMoved'. -/
def localsMovedUptoCard : Claim7 := { stood := { row := localsMovedUptoRow, standIns := [], harness := (true, "0e455969df999fa4790a0210480453cc4c4e898794f06cd3da73e459cd7ee64c"), looks := false }, kinds := [], alts := [], laidByText := true, laidKinds := [.data, .data, .data, .data], laidTests := true, laidLooks := .later }
def LocalsMovedUptoCardSaid : Prop := Claim7.holds Tryz.pinned (.plain (OpenSpec.upto localsMovedSpec)) localsMovedUptoCard
end Rows
end Go.Proofs.YthcjdeklpegceaaGreatDoor
