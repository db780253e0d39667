/-
  DERIVED. GIVEN WITH THE SEED: THE CARDS: each row of YtcjbjpobpefehaaGreatDoorRows.lean that lists a variable, with what it lists TIED to the program's text (the seventh form; the later family's looks); each row that meets fmt, with fmt's text TOLD by the authors' own Lean function (tested against real Go, not proved from fmt's source: count such statements apart). THE CARD IS WHAT COUNTS. Prove the row's statement (the work); the ties are given (YtcjbjpobpefehaaGreatDoorTie.lean); close each card by the builder's one call (the guide's Derived/Test/ToyasCard.lean, 'card_holds'). Laid BY PROGRAM, IN A SANDBOX (cutbox-door.mjs). By AI agents, Wed Nov 11 2026. No macro, syntax, notation, axiom, sorry.
-/
import Derived.Test.YtcjbjpobpefehaaGreatDoorRows
import GoSem.ClaimSeven
namespace Go.Proofs.YtcjbjpobpefehaaGreatDoor
namespace Rows

/-- THE TIED CARD OF 'laws.FnBook'. -/
def fnBookCard : Claim7 := { stood := { row := fnBookRow, standIns := [], harness := (true, "25ffc9cb3bb1fc77a540dc3b02b6f9c8a3e550e16e575f167e12494df51d30db"), looks := true }, kinds := [], alts := [], laidByText := true, laidKinds := [.data, .data, .data, .data, .sentinel, .sentinel, .pinned], laidTests := true, laidLooks := .later }
def FnBookCardSaid : Prop := Claim7.holds Tryz.pinned (.plain (OpenSpec.ofChange fnBookSpec)) fnBookCard

/-- THE TIED CARD OF 'laws.FnExactTextBook'. -/
def fnExactTextBookCard : Claim7 := { stood := { row := fnExactTextBookRow, standIns := [], harness := (true, "25ffc9cb3bb1fc77a540dc3b02b6f9c8a3e550e16e575f167e12494df51d30db"), looks := true }, kinds := [], alts := [], laidByText := true, laidKinds := [.data, .data, .data, .data, .sentinel, .sentinel, .pinned], laidTests := true, laidLooks := .later }
def FnExactTextBookCardSaid : Prop := Claim7.holds Tryz.pinned (.plain (OpenSpec.ofChange fnExactTextBookSpec)) fnExactTextBookCard

/-- THE SECOND FORM's CARD OF 'laws.FnBook'. -/
def fnBookUptoCard : Claim7 := { stood := { row := fnBookUptoRow, standIns := [], harness := (true, "25ffc9cb3bb1fc77a540dc3b02b6f9c8a3e550e16e575f167e12494df51d30db"), looks := true }, kinds := [], alts := [], laidByText := true, laidKinds := [.data, .data, .data, .data, .sentinel, .sentinel, .pinned], laidTests := true, laidLooks := .later }
def FnBookUptoCardSaid : Prop := Claim7.holds Tryz.pinned (.plain (OpenSpec.upto fnBookSpec)) fnBookUptoCard

/-- THE SECOND FORM's CARD OF 'laws.FnExactTextBook'. -/
def fnExactTextBookUptoCard : Claim7 := { stood := { row := fnExactTextBookUptoRow, standIns := [], harness := (true, "25ffc9cb3bb1fc77a540dc3b02b6f9c8a3e550e16e575f167e12494df51d30db"), looks := true }, kinds := [], alts := [], laidByText := true, laidKinds := [.data, .data, .data, .data, .sentinel, .sentinel, .pinned], laidTests := true, laidLooks := .later }
def FnExactTextBookUptoCardSaid : Prop := Claim7.holds Tryz.pinned (.plain (OpenSpec.upto fnExactTextBookSpec)) fnExactTextBookUptoCard
end Rows
end Go.Proofs.YtcjbjpobpefehaaGreatDoor
