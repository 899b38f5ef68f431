/-
  DERIVED. GIVEN WITH THE SEED: THE CARDS: each row of YtejhdcohoggojaaGreatDoorRows.lean that lists a variable, with what it lists TIED to the program's text (the seventh form; the later family's looks); each row that meets fmt, with fmt's text TOLD by the authors' own Lean function (tested against real Go, not proved from fmt's source: count such statements apart). THE CARD IS WHAT COUNTS. Prove the row's statement (the work); the ties are given (YtejhdcohoggojaaGreatDoorTie.lean); close each card by the builder's one call (the guide's Derived/Test/ToyasCard.lean, 'card_holds'). Laid BY PROGRAM, IN A SANDBOX (cutbox-door.mjs). By AI agents, Wed Nov 11 2026. No macro, syntax, notation, axiom, sorry.
-/
import Derived.Test.YtejhdcohoggojaaGreatDoorRows
import GoSem.ClaimSeven
namespace Go.Proofs.YtejhdcohoggojaaGreatDoor
namespace Rows

/-- THE TIED CARD OF 'gussetlaw44.AdaptsErrors'. -/
def adaptsErrorsCard : Claim7 := { stood := { row := adaptsErrorsRow, standIns := [], harness := (true, "8badad542de041fdcda5d59b6a41833da453fe8b8476f6a8e1cd41f57ee1309e"), looks := false }, kinds := [], alts := [], laidByText := true, laidKinds := [.data, .data], laidTests := true, laidLooks := .later }
def AdaptsErrorsCardSaid : Prop := Claim7.holds Tryz.pinned (.plain (OpenSpec.ofChange adaptsErrorsSpec)) adaptsErrorsCard

/-- THE SECOND FORM's CARD OF 'gussetlaw44.AdaptsErrors'. -/
def adaptsErrorsUptoCard : Claim7 := { stood := { row := adaptsErrorsUptoRow, standIns := [], harness := (true, "8badad542de041fdcda5d59b6a41833da453fe8b8476f6a8e1cd41f57ee1309e"), looks := false }, kinds := [], alts := [], laidByText := true, laidKinds := [.data, .data], laidTests := true, laidLooks := .later }
def AdaptsErrorsUptoCardSaid : Prop := Claim7.holds Tryz.pinned (.plain (OpenSpec.upto adaptsErrorsSpec)) adaptsErrorsUptoCard
end Rows
end Go.Proofs.YtejhdcohoggojaaGreatDoor
