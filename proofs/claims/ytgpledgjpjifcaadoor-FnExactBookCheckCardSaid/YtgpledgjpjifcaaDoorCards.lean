/-
  DERIVED. GIVEN WITH THE SEED: THE CARDS: each row of YtgpledgjpjifcaaDoorRows.lean that lists a variable, with what it lists TIED to the program's text (the seventh form; the later family's looks); each row that meets fmt, with fmt's text TOLD by the authors' own Lean function (tested against real Go, not proved from fmt's source: count such statements apart). THE CARD IS WHAT COUNTS. Prove the row's statement (the work); the ties are given (YtgpledgjpjifcaaDoorTie.lean); close each card by the builder's one call (the guide's Derived/Test/ToyasCard.lean, 'card_holds'). Laid BY PROGRAM, IN A SANDBOX (cutbox-door.mjs). By AI agents, Wed Nov 11 2026. No macro, syntax, notation, axiom, sorry.
-/
import Derived.Test.YtgpledgjpjifcaaDoorRows
import GoSem.ClaimSeven
namespace Go.Proofs.YtgpledgjpjifcaaDoor
namespace Rows

/-- THE TIED CARD OF 'laws.FnExactDebtText'. -/
def fnExactDebtTextCard : Claim7 := { stood := { row := fnExactDebtTextRow, standIns := [], harness := (true, "6eef4d0427dfcc49cc2f17c2c579f52b9dad0a4380fd061067d30a79de12441a"), looks := true }, kinds := [], alts := [], laidByText := true, laidKinds := [.data, .data, .data], laidTests := true, laidLooks := .later }
def FnExactDebtTextCardSaid : Prop := Claim7.holds Tryd.pinned (.plain (OpenSpec.ofChange fnExactDebtTextSpec)) fnExactDebtTextCard

/-- THE TIED CARD OF 'laws.FnExactLedgerText'. -/
def fnExactLedgerTextCard : Claim7 := { stood := { row := fnExactLedgerTextRow, standIns := [], harness := (true, "6eef4d0427dfcc49cc2f17c2c579f52b9dad0a4380fd061067d30a79de12441a"), looks := true }, kinds := [], alts := [], laidByText := true, laidKinds := [.data, .data, .data, .data, .pinned], laidTests := true, laidLooks := .later }
def FnExactLedgerTextCardSaid : Prop := Claim7.holds Tryd.pinned (.plain (OpenSpec.ofChange fnExactLedgerTextSpec)) fnExactLedgerTextCard

/-- THE TIED CARD OF 'laws.FnExactPostingText'. -/
def fnExactPostingTextCard : Claim7 := { stood := { row := fnExactPostingTextRow, standIns := [], harness := (true, "6eef4d0427dfcc49cc2f17c2c579f52b9dad0a4380fd061067d30a79de12441a"), looks := true }, kinds := [], alts := [], laidByText := true, laidKinds := [.data, .data, .data, .data, .pinned], laidTests := true, laidLooks := .later }
def FnExactPostingTextCardSaid : Prop := Claim7.holds Tryd.pinned (.plain (OpenSpec.ofChange fnExactPostingTextSpec)) fnExactPostingTextCard

/-- THE TIED CARD OF 'laws.FnExactBookText'. -/
def fnExactBookTextCard : Claim7 := { stood := { row := fnExactBookTextRow, standIns := [], harness := (true, "6eef4d0427dfcc49cc2f17c2c579f52b9dad0a4380fd061067d30a79de12441a"), looks := true }, kinds := [], alts := [], laidByText := true, laidKinds := [.data, .data, .data], laidTests := true, laidLooks := .later }
def FnExactBookTextCardSaid : Prop := Claim7.holds Tryd.pinned (.plain (OpenSpec.ofChange fnExactBookTextSpec)) fnExactBookTextCard

/-- THE TIED CARD OF 'laws.FnExactBookCheck'. -/
def fnExactBookCheckCard : Claim7 := { stood := { row := fnExactBookCheckRow, standIns := [], harness := (true, "6eef4d0427dfcc49cc2f17c2c579f52b9dad0a4380fd061067d30a79de12441a"), looks := true }, kinds := [], alts := [], laidByText := true, laidKinds := [.data, .data, .data], laidTests := true, laidLooks := .later }
def FnExactBookCheckCardSaid : Prop := Claim7.holds Tryd.pinned (.plain (OpenSpec.ofChange fnExactBookCheckSpec)) fnExactBookCheckCard

/-- THE TIED CARD OF 'laws.FnExactTextDebt'. -/
def fnExactTextDebtCard : Claim7 := { stood := { row := fnExactTextDebtRow, standIns := [], harness := (true, "6eef4d0427dfcc49cc2f17c2c579f52b9dad0a4380fd061067d30a79de12441a"), looks := true }, kinds := [], alts := [], laidByText := true, laidKinds := [.data, .data, .data, .data, .sentinel, .sentinel, .pinned], laidTests := true, laidLooks := .later }
def FnExactTextDebtCardSaid : Prop := Claim7.holds Tryd.pinned (.plain (OpenSpec.ofChange fnExactTextDebtSpec)) fnExactTextDebtCard

/-- THE TIED CARD OF 'laws.FnExactTextPosting'. -/
def fnExactTextPostingCard : Claim7 := { stood := { row := fnExactTextPostingRow, standIns := [], harness := (true, "6eef4d0427dfcc49cc2f17c2c579f52b9dad0a4380fd061067d30a79de12441a"), looks := true }, kinds := [], alts := [], laidByText := true, laidKinds := [.data, .data, .data, .data, .sentinel, .sentinel, .pinned], laidTests := true, laidLooks := .later }
def FnExactTextPostingCardSaid : Prop := Claim7.holds Tryd.pinned (.plain (OpenSpec.ofChange fnExactTextPostingSpec)) fnExactTextPostingCard

/-- THE TIED CARD OF 'laws.FnExactTextLedger'. -/
def fnExactTextLedgerCard : Claim7 := { stood := { row := fnExactTextLedgerRow, standIns := [], harness := (true, "6eef4d0427dfcc49cc2f17c2c579f52b9dad0a4380fd061067d30a79de12441a"), looks := true }, kinds := [], alts := [], laidByText := true, laidKinds := [.data, .data, .data, .data, .sentinel, .sentinel, .pinned], laidTests := true, laidLooks := .later }
def FnExactTextLedgerCardSaid : Prop := Claim7.holds Tryd.pinned (.plain (OpenSpec.ofChange fnExactTextLedgerSpec)) fnExactTextLedgerCard

/-- THE SECOND FORM's CARD OF 'laws.FnExactDebtText'. -/
def fnExactDebtTextUptoCard : Claim7 := { stood := { row := fnExactDebtTextUptoRow, standIns := [], harness := (true, "6eef4d0427dfcc49cc2f17c2c579f52b9dad0a4380fd061067d30a79de12441a"), looks := true }, kinds := [], alts := [], laidByText := true, laidKinds := [.data, .data, .data], laidTests := true, laidLooks := .later }
def FnExactDebtTextUptoCardSaid : Prop := Claim7.holds Tryd.pinned (.plain (OpenSpec.upto fnExactDebtTextSpec)) fnExactDebtTextUptoCard

/-- THE SECOND FORM's CARD OF 'laws.FnExactLedgerText'. -/
def fnExactLedgerTextUptoCard : Claim7 := { stood := { row := fnExactLedgerTextUptoRow, standIns := [], harness := (true, "6eef4d0427dfcc49cc2f17c2c579f52b9dad0a4380fd061067d30a79de12441a"), looks := true }, kinds := [], alts := [], laidByText := true, laidKinds := [.data, .data, .data, .data, .pinned], laidTests := true, laidLooks := .later }
def FnExactLedgerTextUptoCardSaid : Prop := Claim7.holds Tryd.pinned (.plain (OpenSpec.upto fnExactLedgerTextSpec)) fnExactLedgerTextUptoCard

/-- THE SECOND FORM's CARD OF 'laws.FnExactPostingText'. -/
def fnExactPostingTextUptoCard : Claim7 := { stood := { row := fnExactPostingTextUptoRow, standIns := [], harness := (true, "6eef4d0427dfcc49cc2f17c2c579f52b9dad0a4380fd061067d30a79de12441a"), looks := true }, kinds := [], alts := [], laidByText := true, laidKinds := [.data, .data, .data, .data, .pinned], laidTests := true, laidLooks := .later }
def FnExactPostingTextUptoCardSaid : Prop := Claim7.holds Tryd.pinned (.plain (OpenSpec.upto fnExactPostingTextSpec)) fnExactPostingTextUptoCard

/-- THE SECOND FORM's CARD OF 'laws.FnExactBookText'. -/
def fnExactBookTextUptoCard : Claim7 := { stood := { row := fnExactBookTextUptoRow, standIns := [], harness := (true, "6eef4d0427dfcc49cc2f17c2c579f52b9dad0a4380fd061067d30a79de12441a"), looks := true }, kinds := [], alts := [], laidByText := true, laidKinds := [.data, .data, .data], laidTests := true, laidLooks := .later }
def FnExactBookTextUptoCardSaid : Prop := Claim7.holds Tryd.pinned (.plain (OpenSpec.upto fnExactBookTextSpec)) fnExactBookTextUptoCard

/-- THE SECOND FORM's CARD OF 'laws.FnExactBookCheck'. -/
def fnExactBookCheckUptoCard : Claim7 := { stood := { row := fnExactBookCheckUptoRow, standIns := [], harness := (true, "6eef4d0427dfcc49cc2f17c2c579f52b9dad0a4380fd061067d30a79de12441a"), looks := true }, kinds := [], alts := [], laidByText := true, laidKinds := [.data, .data, .data], laidTests := true, laidLooks := .later }
def FnExactBookCheckUptoCardSaid : Prop := Claim7.holds Tryd.pinned (.plain (OpenSpec.upto fnExactBookCheckSpec)) fnExactBookCheckUptoCard

/-- THE SECOND FORM's CARD OF 'laws.FnExactTextDebt'. -/
def fnExactTextDebtUptoCard : Claim7 := { stood := { row := fnExactTextDebtUptoRow, standIns := [], harness := (true, "6eef4d0427dfcc49cc2f17c2c579f52b9dad0a4380fd061067d30a79de12441a"), looks := true }, kinds := [], alts := [], laidByText := true, laidKinds := [.data, .data, .data, .data, .sentinel, .sentinel, .pinned], laidTests := true, laidLooks := .later }
def FnExactTextDebtUptoCardSaid : Prop := Claim7.holds Tryd.pinned (.plain (OpenSpec.upto fnExactTextDebtSpec)) fnExactTextDebtUptoCard

/-- THE SECOND FORM's CARD OF 'laws.FnExactTextPosting'. -/
def fnExactTextPostingUptoCard : Claim7 := { stood := { row := fnExactTextPostingUptoRow, standIns := [], harness := (true, "6eef4d0427dfcc49cc2f17c2c579f52b9dad0a4380fd061067d30a79de12441a"), looks := true }, kinds := [], alts := [], laidByText := true, laidKinds := [.data, .data, .data, .data, .sentinel, .sentinel, .pinned], laidTests := true, laidLooks := .later }
def FnExactTextPostingUptoCardSaid : Prop := Claim7.holds Tryd.pinned (.plain (OpenSpec.upto fnExactTextPostingSpec)) fnExactTextPostingUptoCard

/-- THE SECOND FORM's CARD OF 'laws.FnExactTextLedger'. -/
def fnExactTextLedgerUptoCard : Claim7 := { stood := { row := fnExactTextLedgerUptoRow, standIns := [], harness := (true, "6eef4d0427dfcc49cc2f17c2c579f52b9dad0a4380fd061067d30a79de12441a"), looks := true }, kinds := [], alts := [], laidByText := true, laidKinds := [.data, .data, .data, .data, .sentinel, .sentinel, .pinned], laidTests := true, laidLooks := .later }
def FnExactTextLedgerUptoCardSaid : Prop := Claim7.holds Tryd.pinned (.plain (OpenSpec.upto fnExactTextLedgerSpec)) fnExactTextLedgerUptoCard
end Rows
end Go.Proofs.YtgpledgjpjifcaaDoor
