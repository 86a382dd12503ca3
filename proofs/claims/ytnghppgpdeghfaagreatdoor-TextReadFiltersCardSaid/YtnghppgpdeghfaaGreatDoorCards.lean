/-
  DERIVED. GIVEN WITH THE SEED: THE CARDS: each row of YtnghppgpdeghfaaGreatDoorRows.lean that lists a variable, with what it lists TIED to the program's text (the seventh form; the later family's looks); each row that meets fmt, with fmt's text TOLD by the authors' own Lean function (tested against real Go, not proved from fmt's source: count such statements apart). THE CARD IS WHAT COUNTS. Prove the row's statement (the work); the ties are given (YtnghppgpdeghfaaGreatDoorTie.lean); close each card by the builder's one call (the guide's Derived/Test/ToyasCard.lean, 'card_holds'). Laid BY PROGRAM, IN A SANDBOX (cutbox-door.mjs). By AI agents, Wed Nov 11 2026. No macro, syntax, notation, axiom, sorry.
-/
import Derived.Test.YtnghppgpdeghfaaGreatDoorRows
import GoSem.ClaimSeven
namespace Go.Proofs.YtnghppgpdeghfaaGreatDoor
namespace Rows

/-- THE TIED CARD OF 'quaverlaw27.TextReads'. -/
def textReadsCard : Claim7 := { stood := { row := textReadsRow, standIns := [], harness := (true, "7d8762121a5190ddad7d411ee2218485c61866459a4cb80b27eaa69c9d428e3a"), looks := true }, kinds := [], alts := [], laidByText := true, laidKinds := [.data, .data, .widerDeep, .widerDeep, .data, .data, .data, .data, .data, .sentinel, .sentinel, .pinned, .pinned], laidTests := true, laidLooks := .later }
def TextReadsCardSaid : Prop := Claim7.holds Tryz.pinned (.plain (OpenSpec.ofChange textReadsSpec)) textReadsCard

/-- THE TIED CARD OF 'quaverlaw27.TextLong'. -/
def textLongCard : Claim7 := { stood := { row := textLongRow, standIns := [], harness := (true, "7d8762121a5190ddad7d411ee2218485c61866459a4cb80b27eaa69c9d428e3a"), looks := true }, kinds := [], alts := [], laidByText := true, laidKinds := [.data, .data, .widerDeep, .widerDeep, .data, .data, .data, .data, .data, .sentinel, .sentinel, .pinned, .pinned], laidTests := true, laidLooks := .later }
def TextLongCardSaid : Prop := Claim7.holds Tryz.pinned (.plain (OpenSpec.ofChange textLongSpec)) textLongCard

/-- THE TIED CARD OF 'quaverlaw27.TextReadZpks'. -/
def textReadZpksCard : Claim7 := { stood := { row := textReadZpksRow, standIns := [], harness := (true, "7d8762121a5190ddad7d411ee2218485c61866459a4cb80b27eaa69c9d428e3a"), looks := true }, kinds := [], alts := [], laidByText := true, laidKinds := [.data, .data, .widerDeep, .widerDeep, .data, .data, .data, .data, .data, .sentinel, .sentinel, .pinned, .pinned], laidTests := true, laidLooks := .later }
def TextReadZpksCardSaid : Prop := Claim7.holds Tryz.pinned (.plain (OpenSpec.ofChange textReadZpksSpec)) textReadZpksCard

/-- THE TIED CARD OF 'quaverlaw27.TextReadFilters'. -/
def textReadFiltersCard : Claim7 := { stood := { row := textReadFiltersRow, standIns := [], harness := (true, "7d8762121a5190ddad7d411ee2218485c61866459a4cb80b27eaa69c9d428e3a"), looks := true }, kinds := [], alts := [], laidByText := true, laidKinds := [.data, .data, .widerDeep, .widerDeep, .data, .data, .data, .data, .data, .sentinel, .sentinel, .pinned, .pinned], laidTests := true, laidLooks := .later }
def TextReadFiltersCardSaid : Prop := Claim7.holds Tryz.pinned (.plain (OpenSpec.ofChange textReadFiltersSpec)) textReadFiltersCard

/-- THE SECOND FORM's CARD OF 'quaverlaw27.TextReads'. -/
def textReadsUptoCard : Claim7 := { stood := { row := textReadsUptoRow, standIns := [], harness := (true, "7d8762121a5190ddad7d411ee2218485c61866459a4cb80b27eaa69c9d428e3a"), looks := true }, kinds := [], alts := [], laidByText := true, laidKinds := [.data, .data, .widerDeep, .widerDeep, .data, .data, .data, .data, .data, .sentinel, .sentinel, .pinned, .pinned], laidTests := true, laidLooks := .later }
def TextReadsUptoCardSaid : Prop := Claim7.holds Tryz.pinned (.plain (OpenSpec.upto textReadsSpec)) textReadsUptoCard

/-- THE SECOND FORM's CARD OF 'quaverlaw27.TextLong'. -/
def textLongUptoCard : Claim7 := { stood := { row := textLongUptoRow, standIns := [], harness := (true, "7d8762121a5190ddad7d411ee2218485c61866459a4cb80b27eaa69c9d428e3a"), looks := true }, kinds := [], alts := [], laidByText := true, laidKinds := [.data, .data, .widerDeep, .widerDeep, .data, .data, .data, .data, .data, .sentinel, .sentinel, .pinned, .pinned], laidTests := true, laidLooks := .later }
def TextLongUptoCardSaid : Prop := Claim7.holds Tryz.pinned (.plain (OpenSpec.upto textLongSpec)) textLongUptoCard

/-- THE SECOND FORM's CARD OF 'quaverlaw27.TextReadZpks'. -/
def textReadZpksUptoCard : Claim7 := { stood := { row := textReadZpksUptoRow, standIns := [], harness := (true, "7d8762121a5190ddad7d411ee2218485c61866459a4cb80b27eaa69c9d428e3a"), looks := true }, kinds := [], alts := [], laidByText := true, laidKinds := [.data, .data, .widerDeep, .widerDeep, .data, .data, .data, .data, .data, .sentinel, .sentinel, .pinned, .pinned], laidTests := true, laidLooks := .later }
def TextReadZpksUptoCardSaid : Prop := Claim7.holds Tryz.pinned (.plain (OpenSpec.upto textReadZpksSpec)) textReadZpksUptoCard

/-- THE SECOND FORM's CARD OF 'quaverlaw27.TextReadFilters'. -/
def textReadFiltersUptoCard : Claim7 := { stood := { row := textReadFiltersUptoRow, standIns := [], harness := (true, "7d8762121a5190ddad7d411ee2218485c61866459a4cb80b27eaa69c9d428e3a"), looks := true }, kinds := [], alts := [], laidByText := true, laidKinds := [.data, .data, .widerDeep, .widerDeep, .data, .data, .data, .data, .data, .sentinel, .sentinel, .pinned, .pinned], laidTests := true, laidLooks := .later }
def TextReadFiltersUptoCardSaid : Prop := Claim7.holds Tryz.pinned (.plain (OpenSpec.upto textReadFiltersSpec)) textReadFiltersUptoCard
end Rows
end Go.Proofs.YtnghppgpdeghfaaGreatDoor
