/-
  DERIVED. GIVEN WITH THE SEED: THE CARDS: each row of YtdadideknhmbbaaGreatDoorRows.lean that lists a variable, with what it lists TIED to the program's text (the seventh form; the later family's looks); each row that meets fmt, with fmt's text TOLD by the authors' own Lean function (tested against real Go, not proved from fmt's source: count such statements apart). THE CARD IS WHAT COUNTS. Prove the row's statement (the work); the ties are given (YtdadideknhmbbaaGreatDoorTie.lean); close each card by the builder's one call (the guide's Derived/Test/ToyasCard.lean, 'card_holds'). Laid BY PROGRAM, IN A SANDBOX (cutbox-door.mjs). By AI agents, Wed Nov 11 2026. No macro, syntax, notation, axiom, sorry.
-/
import Derived.Test.YtdadideknhmbbaaGreatDoorRows
import GoSem.ClaimSeven
namespace Go.Proofs.YtdadideknhmbbaaGreatDoor
namespace Rows

/-- THE TIED CARD OF 'gussetlaw44.AdaptsStep'. -/
def adaptsStepCard : Claim7 := { stood := { row := adaptsStepRow, standIns := [], harness := (true, "c52babd86e07e8a281aa14ca0f295ee15cf9e4e5945ef73c4f795300d40d92d2"), looks := false }, kinds := [], alts := [], laidByText := true, laidKinds := [.data], laidTests := true, laidLooks := .later }
def AdaptsStepCardSaid : Prop := Claim7.holds Tryz.pinned (.plain (OpenSpec.ofChange adaptsStepSpec)) adaptsStepCard

/-- THE SECOND FORM's CARD OF 'gussetlaw44.AdaptsStep'. -/
def adaptsStepUptoCard : Claim7 := { stood := { row := adaptsStepUptoRow, standIns := [], harness := (true, "c52babd86e07e8a281aa14ca0f295ee15cf9e4e5945ef73c4f795300d40d92d2"), looks := false }, kinds := [], alts := [], laidByText := true, laidKinds := [.data], laidTests := true, laidLooks := .later }
def AdaptsStepUptoCardSaid : Prop := Claim7.holds Tryz.pinned (.plain (OpenSpec.upto adaptsStepSpec)) adaptsStepUptoCard
end Rows
end Go.Proofs.YtdadideknhmbbaaGreatDoor
