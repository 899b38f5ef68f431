/-
  DERIVED. GIVEN WITH THE SEED: THE CARDS: each row of YtddhlkfpdjmplabGreatDoorRows.lean that lists a variable, with what it lists TIED to the program's text (the seventh form; the later family's looks); each row that meets fmt, with fmt's text TOLD by the authors' own Lean function (tested against real Go, not proved from fmt's source: count such statements apart). THE CARD IS WHAT COUNTS. Prove the row's statement (the work); the ties are given (YtddhlkfpdjmplabGreatDoorTie.lean); close each card by the builder's one call (the guide's Derived/Test/ToyasCard.lean, 'card_holds'). Laid BY PROGRAM, IN A SANDBOX (cutbox-door.mjs). By AI agents, Wed Nov 11 2026. No macro, syntax, notation, axiom, sorry.
-/
import Derived.Test.YtddhlkfpdjmplabGreatDoorRows
import GoSem.ClaimSeven
namespace Go.Proofs.YtddhlkfpdjmplabGreatDoor
namespace Rows

/-- THE TIED CARD OF 'gussetlaw10.RulesKnown'. -/
def rulesKnownCard : Claim7 := { stood := { row := rulesKnownRow, standIns := [], harness := (true, "9ed8353a60867bc37f69a9fd812b49ef17cfef1ea2241a8145a3cd547d1dfc95"), looks := false }, kinds := [], alts := [], laidByText := true, laidKinds := [.data, .data, .data], laidTests := true, laidLooks := .later }
def RulesKnownCardSaid : Prop := Claim7.holds Tryz.pinned (.plain (OpenSpec.ofChange rulesKnownSpec)) rulesKnownCard

/-- THE SECOND FORM's CARD OF 'gussetlaw10.RulesKnown'. -/
def rulesKnownUptoCard : Claim7 := { stood := { row := rulesKnownUptoRow, standIns := [], harness := (true, "9ed8353a60867bc37f69a9fd812b49ef17cfef1ea2241a8145a3cd547d1dfc95"), looks := false }, kinds := [], alts := [], laidByText := true, laidKinds := [.data, .data, .data], laidTests := true, laidLooks := .later }
def RulesKnownUptoCardSaid : Prop := Claim7.holds Tryz.pinned (.plain (OpenSpec.upto rulesKnownSpec)) rulesKnownUptoCard
end Rows
end Go.Proofs.YtddhlkfpdjmplabGreatDoor
