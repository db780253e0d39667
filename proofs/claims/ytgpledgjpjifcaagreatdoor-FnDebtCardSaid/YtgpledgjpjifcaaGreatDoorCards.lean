/-
  DERIVED. GIVEN WITH THE SEED: THE CARDS: each row of YtgpledgjpjifcaaGreatDoorRows.lean that lists a variable, with what it lists TIED to the program's text (the seventh form; the later family's looks); each row that meets fmt, with fmt's text TOLD by the authors' own Lean function (tested against real Go, not proved from fmt's source: count such statements apart). THE CARD IS WHAT COUNTS. Prove the row's statement (the work); the ties are given (YtgpledgjpjifcaaGreatDoorTie.lean); close each card by the builder's one call (the guide's Derived/Test/ToyasCard.lean, 'card_holds'). Laid BY PROGRAM, IN A SANDBOX (cutbox-door.mjs). By AI agents, Wed Nov 11 2026. No macro, syntax, notation, axiom, sorry.
-/
import Derived.Test.YtgpledgjpjifcaaGreatDoorRows
import GoSem.ClaimSeven
namespace Go.Proofs.YtgpledgjpjifcaaGreatDoor
namespace Rows

/-- THE TIED CARD OF 'laws.FnBook'. -/
def fnBookCard : Claim7 := { stood := { row := fnBookRow, standIns := [], harness := (true, "81dabb792d5fe361bf0e6b1c2550c1c6677faa3c4c1ce8447b9b83430f46a2c4"), looks := true }, kinds := [], alts := [], laidByText := true, laidKinds := [.data, .data, .data, .data, .sentinel, .sentinel, .pinned], laidTests := true, laidLooks := .later }
def FnBookCardSaid : Prop := Claim7.holds Tryz.pinned (.plain (OpenSpec.ofChange fnBookSpec)) fnBookCard

/-- THE TIED CARD OF 'laws.FnDebt'. -/
def fnDebtCard : Claim7 := { stood := { row := fnDebtRow, standIns := [], harness := (true, "81dabb792d5fe361bf0e6b1c2550c1c6677faa3c4c1ce8447b9b83430f46a2c4"), looks := true }, kinds := [], alts := [], laidByText := true, laidKinds := [.data, .data, .data, .data, .sentinel, .sentinel, .pinned], laidTests := true, laidLooks := .later }
def FnDebtCardSaid : Prop := Claim7.holds Tryz.pinned (.plain (OpenSpec.ofChange fnDebtSpec)) fnDebtCard

/-- THE TIED CARD OF 'laws.FnExactTextBook'. -/
def fnExactTextBookCard : Claim7 := { stood := { row := fnExactTextBookRow, standIns := [], harness := (true, "81dabb792d5fe361bf0e6b1c2550c1c6677faa3c4c1ce8447b9b83430f46a2c4"), looks := true }, kinds := [], alts := [], laidByText := true, laidKinds := [.data, .data, .data, .data, .sentinel, .sentinel, .pinned], laidTests := true, laidLooks := .later }
def FnExactTextBookCardSaid : Prop := Claim7.holds Tryz.pinned (.plain (OpenSpec.ofChange fnExactTextBookSpec)) fnExactTextBookCard

/-- THE SECOND FORM's CARD OF 'laws.FnBook'. -/
def fnBookUptoCard : Claim7 := { stood := { row := fnBookUptoRow, standIns := [], harness := (true, "81dabb792d5fe361bf0e6b1c2550c1c6677faa3c4c1ce8447b9b83430f46a2c4"), looks := true }, kinds := [], alts := [], laidByText := true, laidKinds := [.data, .data, .data, .data, .sentinel, .sentinel, .pinned], laidTests := true, laidLooks := .later }
def FnBookUptoCardSaid : Prop := Claim7.holds Tryz.pinned (.plain (OpenSpec.upto fnBookSpec)) fnBookUptoCard

/-- THE SECOND FORM's CARD OF 'laws.FnDebt'. -/
def fnDebtUptoCard : Claim7 := { stood := { row := fnDebtUptoRow, standIns := [], harness := (true, "81dabb792d5fe361bf0e6b1c2550c1c6677faa3c4c1ce8447b9b83430f46a2c4"), looks := true }, kinds := [], alts := [], laidByText := true, laidKinds := [.data, .data, .data, .data, .sentinel, .sentinel, .pinned], laidTests := true, laidLooks := .later }
def FnDebtUptoCardSaid : Prop := Claim7.holds Tryz.pinned (.plain (OpenSpec.upto fnDebtSpec)) fnDebtUptoCard

/-- THE SECOND FORM's CARD OF 'laws.FnExactTextBook'. -/
def fnExactTextBookUptoCard : Claim7 := { stood := { row := fnExactTextBookUptoRow, standIns := [], harness := (true, "81dabb792d5fe361bf0e6b1c2550c1c6677faa3c4c1ce8447b9b83430f46a2c4"), looks := true }, kinds := [], alts := [], laidByText := true, laidKinds := [.data, .data, .data, .data, .sentinel, .sentinel, .pinned], laidTests := true, laidLooks := .later }
def FnExactTextBookUptoCardSaid : Prop := Claim7.holds Tryz.pinned (.plain (OpenSpec.upto fnExactTextBookSpec)) fnExactTextBookUptoCard
end Rows
end Go.Proofs.YtgpledgjpjifcaaGreatDoor
