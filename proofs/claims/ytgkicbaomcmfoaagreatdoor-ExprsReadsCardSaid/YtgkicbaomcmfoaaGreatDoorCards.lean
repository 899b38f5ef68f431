/-
  DERIVED. GIVEN WITH THE SEED: THE CARDS: each row of YtgkicbaomcmfoaaGreatDoorRows.lean that lists a variable, with what it lists TIED to the program's text (the seventh form; the later family's looks); each row that meets fmt, with fmt's text TOLD by the authors' own Lean function (tested against real Go, not proved from fmt's source: count such statements apart). THE CARD IS WHAT COUNTS. Prove the row's statement (the work); the ties are given (YtgkicbaomcmfoaaGreatDoorTie.lean); close each card by the builder's one call (the guide's Derived/Test/ToyasCard.lean, 'card_holds'). Laid BY PROGRAM, IN A SANDBOX (cutbox-door.mjs). By AI agents, Wed Nov 11 2026. No macro, syntax, notation, axiom, sorry.
-/
import Derived.Test.YtgkicbaomcmfoaaGreatDoorRows
import GoSem.ClaimSeven
namespace Go.Proofs.YtgkicbaomcmfoaaGreatDoor
namespace Rows

/-- THE TIED CARD OF 'gussetlaw11.ExprsFaults'. -/
def exprsFaultsCard : Claim7 := { stood := { row := exprsFaultsRow, standIns := [], harness := (true, "66a49affa317c339cd1c117ced0659cb7ba93a5bee8e06def12be72c2826e990"), looks := true }, kinds := [], alts := [], laidByText := true, laidKinds := [.data, .data, .data, .data, .pinned], laidTests := true, laidLooks := .later }
def ExprsFaultsCardSaid : Prop := Claim7.holds Tryz.pinned (.plain (OpenSpec.ofChange exprsFaultsSpec)) exprsFaultsCard

/-- THE TIED CARD OF 'gussetlaw11.ExprsNests'. -/
def exprsNestsCard : Claim7 := { stood := { row := exprsNestsRow, standIns := [], harness := (true, "66a49affa317c339cd1c117ced0659cb7ba93a5bee8e06def12be72c2826e990"), looks := true }, kinds := [], alts := [], laidByText := true, laidKinds := [.data, .data, .data, .data, .pinned], laidTests := true, laidLooks := .later }
def ExprsNestsCardSaid : Prop := Claim7.holds Tryz.pinned (.plain (OpenSpec.ofChange exprsNestsSpec)) exprsNestsCard

/-- THE TIED CARD OF 'gussetlaw11.ExprsBack'. -/
def exprsBackCard : Claim7 := { stood := { row := exprsBackRow, standIns := [], harness := (true, "66a49affa317c339cd1c117ced0659cb7ba93a5bee8e06def12be72c2826e990"), looks := true }, kinds := [], alts := [], laidByText := true, laidKinds := [.data, .data, .data, .data, .pinned], laidTests := true, laidLooks := .later }
def ExprsBackCardSaid : Prop := Claim7.holds Tryz.pinned (.plain (OpenSpec.ofChange exprsBackSpec)) exprsBackCard

/-- THE TIED CARD OF 'gussetlaw11.ExprsSums'. -/
def exprsSumsCard : Claim7 := { stood := { row := exprsSumsRow, standIns := [], harness := (true, "66a49affa317c339cd1c117ced0659cb7ba93a5bee8e06def12be72c2826e990"), looks := true }, kinds := [], alts := [], laidByText := true, laidKinds := [.data, .data, .data, .data, .pinned], laidTests := true, laidLooks := .later }
def ExprsSumsCardSaid : Prop := Claim7.holds Tryz.pinned (.plain (OpenSpec.ofChange exprsSumsSpec)) exprsSumsCard

/-- THE TIED CARD OF 'gussetlaw11.ExprsBlanks'. -/
def exprsBlanksCard : Claim7 := { stood := { row := exprsBlanksRow, standIns := [], harness := (true, "66a49affa317c339cd1c117ced0659cb7ba93a5bee8e06def12be72c2826e990"), looks := true }, kinds := [], alts := [], laidByText := true, laidKinds := [.data, .data, .data, .data, .pinned], laidTests := true, laidLooks := .later }
def ExprsBlanksCardSaid : Prop := Claim7.holds Tryz.pinned (.plain (OpenSpec.ofChange exprsBlanksSpec)) exprsBlanksCard

/-- THE TIED CARD OF 'gussetlaw11.ExprsReads'. -/
def exprsReadsCard : Claim7 := { stood := { row := exprsReadsRow, standIns := [], harness := (true, "66a49affa317c339cd1c117ced0659cb7ba93a5bee8e06def12be72c2826e990"), looks := true }, kinds := [], alts := [], laidByText := true, laidKinds := [.data, .data, .data, .data, .pinned], laidTests := true, laidLooks := .later }
def ExprsReadsCardSaid : Prop := Claim7.holds Tryz.pinned (.plain (OpenSpec.ofChange exprsReadsSpec)) exprsReadsCard

/-- THE SECOND FORM's CARD OF 'gussetlaw11.ExprsFaults'. -/
def exprsFaultsUptoCard : Claim7 := { stood := { row := exprsFaultsUptoRow, standIns := [], harness := (true, "66a49affa317c339cd1c117ced0659cb7ba93a5bee8e06def12be72c2826e990"), looks := true }, kinds := [], alts := [], laidByText := true, laidKinds := [.data, .data, .data, .data, .pinned], laidTests := true, laidLooks := .later }
def ExprsFaultsUptoCardSaid : Prop := Claim7.holds Tryz.pinned (.plain (OpenSpec.upto exprsFaultsSpec)) exprsFaultsUptoCard

/-- THE SECOND FORM's CARD OF 'gussetlaw11.ExprsNests'. -/
def exprsNestsUptoCard : Claim7 := { stood := { row := exprsNestsUptoRow, standIns := [], harness := (true, "66a49affa317c339cd1c117ced0659cb7ba93a5bee8e06def12be72c2826e990"), looks := true }, kinds := [], alts := [], laidByText := true, laidKinds := [.data, .data, .data, .data, .pinned], laidTests := true, laidLooks := .later }
def ExprsNestsUptoCardSaid : Prop := Claim7.holds Tryz.pinned (.plain (OpenSpec.upto exprsNestsSpec)) exprsNestsUptoCard

/-- THE SECOND FORM's CARD OF 'gussetlaw11.ExprsBack'. -/
def exprsBackUptoCard : Claim7 := { stood := { row := exprsBackUptoRow, standIns := [], harness := (true, "66a49affa317c339cd1c117ced0659cb7ba93a5bee8e06def12be72c2826e990"), looks := true }, kinds := [], alts := [], laidByText := true, laidKinds := [.data, .data, .data, .data, .pinned], laidTests := true, laidLooks := .later }
def ExprsBackUptoCardSaid : Prop := Claim7.holds Tryz.pinned (.plain (OpenSpec.upto exprsBackSpec)) exprsBackUptoCard

/-- THE SECOND FORM's CARD OF 'gussetlaw11.ExprsSums'. -/
def exprsSumsUptoCard : Claim7 := { stood := { row := exprsSumsUptoRow, standIns := [], harness := (true, "66a49affa317c339cd1c117ced0659cb7ba93a5bee8e06def12be72c2826e990"), looks := true }, kinds := [], alts := [], laidByText := true, laidKinds := [.data, .data, .data, .data, .pinned], laidTests := true, laidLooks := .later }
def ExprsSumsUptoCardSaid : Prop := Claim7.holds Tryz.pinned (.plain (OpenSpec.upto exprsSumsSpec)) exprsSumsUptoCard

/-- THE SECOND FORM's CARD OF 'gussetlaw11.ExprsBlanks'. -/
def exprsBlanksUptoCard : Claim7 := { stood := { row := exprsBlanksUptoRow, standIns := [], harness := (true, "66a49affa317c339cd1c117ced0659cb7ba93a5bee8e06def12be72c2826e990"), looks := true }, kinds := [], alts := [], laidByText := true, laidKinds := [.data, .data, .data, .data, .pinned], laidTests := true, laidLooks := .later }
def ExprsBlanksUptoCardSaid : Prop := Claim7.holds Tryz.pinned (.plain (OpenSpec.upto exprsBlanksSpec)) exprsBlanksUptoCard

/-- THE SECOND FORM's CARD OF 'gussetlaw11.ExprsReads'. -/
def exprsReadsUptoCard : Claim7 := { stood := { row := exprsReadsUptoRow, standIns := [], harness := (true, "66a49affa317c339cd1c117ced0659cb7ba93a5bee8e06def12be72c2826e990"), looks := true }, kinds := [], alts := [], laidByText := true, laidKinds := [.data, .data, .data, .data, .pinned], laidTests := true, laidLooks := .later }
def ExprsReadsUptoCardSaid : Prop := Claim7.holds Tryz.pinned (.plain (OpenSpec.upto exprsReadsSpec)) exprsReadsUptoCard
end Rows
end Go.Proofs.YtgkicbaomcmfoaaGreatDoor
