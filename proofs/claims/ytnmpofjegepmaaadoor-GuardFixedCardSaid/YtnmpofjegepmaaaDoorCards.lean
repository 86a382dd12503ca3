/-
  DERIVED. GIVEN WITH THE SEED: THE CARDS: each row of YtnmpofjegepmaaaDoorRows.lean that lists a variable, with what it lists TIED to the program's text (the seventh form; the later family's looks); each row that meets fmt, with fmt's text TOLD by the authors' own Lean function (tested against real Go, not proved from fmt's source: count such statements apart). THE CARD IS WHAT COUNTS. Prove the row's statement (the work); the ties are given (YtnmpofjegepmaaaDoorTie.lean); close each card by the builder's one call (the guide's Derived/Test/ToyasCard.lean, 'card_holds'). Laid BY PROGRAM, IN A SANDBOX (cutbox-door.mjs). By AI agents, Wed Nov 11 2026. No macro, syntax, notation, axiom, sorry.
-/
import Derived.Test.YtnmpofjegepmaaaDoorRows
import GoSem.ClaimSeven
namespace Go.Proofs.YtnmpofjegepmaaaDoor
namespace Rows

/-- THE TIED CARD OF 'quaverlaw19.GuardFixed'. -/
def guardFixedCard : Claim7 := { stood := { row := guardFixedRow, standIns := [], harness := (true, "6cf225bb4da4899d37ed8f8531ef943e7507fac7626a8be174bb432e5412b4e9"), looks := false }, kinds := [], alts := [], laidByText := true, laidKinds := [.data], laidTests := true, laidLooks := .later }
def GuardFixedCardSaid : Prop := Claim7.holds Tryd.pinned (.plain (OpenSpec.ofChange guardFixedSpec)) guardFixedCard

/-- THE SECOND FORM's CARD OF 'quaverlaw19.GuardFixed'. -/
def guardFixedUptoCard : Claim7 := { stood := { row := guardFixedUptoRow, standIns := [], harness := (true, "6cf225bb4da4899d37ed8f8531ef943e7507fac7626a8be174bb432e5412b4e9"), looks := false }, kinds := [], alts := [], laidByText := true, laidKinds := [.data], laidTests := true, laidLooks := .later }
def GuardFixedUptoCardSaid : Prop := Claim7.holds Tryd.pinned (.plain (OpenSpec.upto guardFixedSpec)) guardFixedUptoCard
end Rows
end Go.Proofs.YtnmpofjegepmaaaDoor
