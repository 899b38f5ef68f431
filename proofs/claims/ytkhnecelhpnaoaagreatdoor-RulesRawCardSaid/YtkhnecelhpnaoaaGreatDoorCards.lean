/-
  DERIVED. GIVEN WITH THE SEED: THE CARDS: each row of YtkhnecelhpnaoaaGreatDoorRows.lean that lists a variable, with what it lists TIED to the program's text (the seventh form; the later family's looks); each row that meets fmt, with fmt's text TOLD by the authors' own Lean function (tested against real Go, not proved from fmt's source: count such statements apart). THE CARD IS WHAT COUNTS. Prove the row's statement (the work); the ties are given (YtkhnecelhpnaoaaGreatDoorTie.lean); close each card by the builder's one call (the guide's Derived/Test/ToyasCard.lean, 'card_holds'). Laid BY PROGRAM, IN A SANDBOX (cutbox-door.mjs). By AI agents, Wed Nov 11 2026. No macro, syntax, notation, axiom, sorry.
-/
import Derived.Test.YtkhnecelhpnaoaaGreatDoorRows
import GoSem.ClaimSeven
namespace Go.Proofs.YtkhnecelhpnaoaaGreatDoor
namespace Rows

/-- THE TIED CARD OF 'gussetlaw09.IntegralsKnown'. -/
def integralsKnownCard : Claim7 := { stood := { row := integralsKnownRow, standIns := [], harness := (true, "ab856f7a0d3720765943b3a1f890e9c541c7d687f50b718e9c14daa908f1efae"), looks := false }, kinds := [], alts := [], laidByText := true, laidKinds := [.data, .data, .data], laidTests := true, laidLooks := .later }
def IntegralsKnownCardSaid : Prop := Claim7.holds Tryz.pinned (.plain (OpenSpec.ofChange integralsKnownSpec)) integralsKnownCard

/-- THE TIED CARD OF 'gussetlaw10.RulesRaw'. -/
def rulesRawCard : Claim7 := { stood := { row := rulesRawRow, standIns := [], harness := (true, "ab856f7a0d3720765943b3a1f890e9c541c7d687f50b718e9c14daa908f1efae"), looks := false }, kinds := [], alts := [], laidByText := true, laidKinds := [.data, .data, .data], laidTests := true, laidLooks := .later }
def RulesRawCardSaid : Prop := Claim7.holds Tryz.pinned (.plain (OpenSpec.ofChange rulesRawSpec)) rulesRawCard

/-- THE TIED CARD OF 'gussetlaw10.RulesLines'. -/
def rulesLinesCard : Claim7 := { stood := { row := rulesLinesRow, standIns := [], harness := (true, "ab856f7a0d3720765943b3a1f890e9c541c7d687f50b718e9c14daa908f1efae"), looks := false }, kinds := [], alts := [], laidByText := true, laidKinds := [.data, .data, .data], laidTests := true, laidLooks := .later }
def RulesLinesCardSaid : Prop := Claim7.holds Tryz.pinned (.plain (OpenSpec.ofChange rulesLinesSpec)) rulesLinesCard

/-- THE TIED CARD OF 'gussetlaw10.RulesExact'. -/
def rulesExactCard : Claim7 := { stood := { row := rulesExactRow, standIns := [], harness := (true, "ab856f7a0d3720765943b3a1f890e9c541c7d687f50b718e9c14daa908f1efae"), looks := false }, kinds := [], alts := [], laidByText := true, laidKinds := [.data, .data, .data], laidTests := true, laidLooks := .later }
def RulesExactCardSaid : Prop := Claim7.holds Tryz.pinned (.plain (OpenSpec.ofChange rulesExactSpec)) rulesExactCard

/-- THE TIED CARD OF 'gussetlaw10.RulesSums'. -/
def rulesSumsCard : Claim7 := { stood := { row := rulesSumsRow, standIns := [], harness := (true, "ab856f7a0d3720765943b3a1f890e9c541c7d687f50b718e9c14daa908f1efae"), looks := false }, kinds := [], alts := [], laidByText := true, laidKinds := [.data, .data, .data], laidTests := true, laidLooks := .later }
def RulesSumsCardSaid : Prop := Claim7.holds Tryz.pinned (.plain (OpenSpec.ofChange rulesSumsSpec)) rulesSumsCard

/-- THE TIED CARD OF 'gussetlaw10.RulesKnown'. -/
def rulesKnownCard : Claim7 := { stood := { row := rulesKnownRow, standIns := [], harness := (true, "ab856f7a0d3720765943b3a1f890e9c541c7d687f50b718e9c14daa908f1efae"), looks := false }, kinds := [], alts := [], laidByText := true, laidKinds := [.data, .data, .data], laidTests := true, laidLooks := .later }
def RulesKnownCardSaid : Prop := Claim7.holds Tryz.pinned (.plain (OpenSpec.ofChange rulesKnownSpec)) rulesKnownCard

/-- THE SECOND FORM's CARD OF 'gussetlaw09.IntegralsKnown'. -/
def integralsKnownUptoCard : Claim7 := { stood := { row := integralsKnownUptoRow, standIns := [], harness := (true, "ab856f7a0d3720765943b3a1f890e9c541c7d687f50b718e9c14daa908f1efae"), looks := false }, kinds := [], alts := [], laidByText := true, laidKinds := [.data, .data, .data], laidTests := true, laidLooks := .later }
def IntegralsKnownUptoCardSaid : Prop := Claim7.holds Tryz.pinned (.plain (OpenSpec.upto integralsKnownSpec)) integralsKnownUptoCard

/-- THE SECOND FORM's CARD OF 'gussetlaw10.RulesRaw'. -/
def rulesRawUptoCard : Claim7 := { stood := { row := rulesRawUptoRow, standIns := [], harness := (true, "ab856f7a0d3720765943b3a1f890e9c541c7d687f50b718e9c14daa908f1efae"), looks := false }, kinds := [], alts := [], laidByText := true, laidKinds := [.data, .data, .data], laidTests := true, laidLooks := .later }
def RulesRawUptoCardSaid : Prop := Claim7.holds Tryz.pinned (.plain (OpenSpec.upto rulesRawSpec)) rulesRawUptoCard

/-- THE SECOND FORM's CARD OF 'gussetlaw10.RulesLines'. -/
def rulesLinesUptoCard : Claim7 := { stood := { row := rulesLinesUptoRow, standIns := [], harness := (true, "ab856f7a0d3720765943b3a1f890e9c541c7d687f50b718e9c14daa908f1efae"), looks := false }, kinds := [], alts := [], laidByText := true, laidKinds := [.data, .data, .data], laidTests := true, laidLooks := .later }
def RulesLinesUptoCardSaid : Prop := Claim7.holds Tryz.pinned (.plain (OpenSpec.upto rulesLinesSpec)) rulesLinesUptoCard

/-- THE SECOND FORM's CARD OF 'gussetlaw10.RulesExact'. -/
def rulesExactUptoCard : Claim7 := { stood := { row := rulesExactUptoRow, standIns := [], harness := (true, "ab856f7a0d3720765943b3a1f890e9c541c7d687f50b718e9c14daa908f1efae"), looks := false }, kinds := [], alts := [], laidByText := true, laidKinds := [.data, .data, .data], laidTests := true, laidLooks := .later }
def RulesExactUptoCardSaid : Prop := Claim7.holds Tryz.pinned (.plain (OpenSpec.upto rulesExactSpec)) rulesExactUptoCard

/-- THE SECOND FORM's CARD OF 'gussetlaw10.RulesSums'. -/
def rulesSumsUptoCard : Claim7 := { stood := { row := rulesSumsUptoRow, standIns := [], harness := (true, "ab856f7a0d3720765943b3a1f890e9c541c7d687f50b718e9c14daa908f1efae"), looks := false }, kinds := [], alts := [], laidByText := true, laidKinds := [.data, .data, .data], laidTests := true, laidLooks := .later }
def RulesSumsUptoCardSaid : Prop := Claim7.holds Tryz.pinned (.plain (OpenSpec.upto rulesSumsSpec)) rulesSumsUptoCard

/-- THE SECOND FORM's CARD OF 'gussetlaw10.RulesKnown'. -/
def rulesKnownUptoCard : Claim7 := { stood := { row := rulesKnownUptoRow, standIns := [], harness := (true, "ab856f7a0d3720765943b3a1f890e9c541c7d687f50b718e9c14daa908f1efae"), looks := false }, kinds := [], alts := [], laidByText := true, laidKinds := [.data, .data, .data], laidTests := true, laidLooks := .later }
def RulesKnownUptoCardSaid : Prop := Claim7.holds Tryz.pinned (.plain (OpenSpec.upto rulesKnownSpec)) rulesKnownUptoCard
end Rows
end Go.Proofs.YtkhnecelhpnaoaaGreatDoor
