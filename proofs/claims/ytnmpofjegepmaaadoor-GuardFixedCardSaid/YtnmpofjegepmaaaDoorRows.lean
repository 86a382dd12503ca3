/-
  NARROWER THAN 'FOR EVERY INPUT', by the rows' own cells (each row's printed sentence says how): GuardFixed: laid.
  DERIVED. THE GIVEN ROWS OF THIS SEAT. 1 by the template 'for every input the law returns true; each argument reads behind the call as it read before'; 0 by the template 'total and deterministic' (their statements: YtnmpofjegepmaaaDoorTotals.lean).
  GIVEN WITH THE SEED: the statements are not yours to turn. If you find one false, say at which input.
  Laid BY PROGRAM, IN A SANDBOX (cutbox-rows.mjs): the forced cells as the released guide's own fill.sh prints them over the translation 7f6b5b46ae1957df… (all of the seat's roots in one cut). By AI agents, Wed Nov 11 2026. No macro, syntax, notation, axiom, sorry.
-/
import Derived.Test.YtnmpofjegepmaaaDoorChecked
import GoSem.Claim
import GoSem.ClaimJoined
import GoSem.ClaimMapViews
import Derived.JoinedTies
import Derived.KernelRfl
namespace Go.Proofs.YtnmpofjegepmaaaDoor
/- THE CELL 'sum', in the pinned program and in every row, IS THE sha256 OF THE DUMP (.gsa) THAT YtnmpofjegepmaaaDoorProg.lean LOADS. Nothing in Lean hashes anything: it is a label: what it is worth is what the hold of that sum in a sandbox is worth. -/
noncomputable def Tryd.pinned : Pinned := { name := "ytnmpofjegepmaaadoor", sum := "7f6b5b46ae1957dfd252e39bad4e7f377ec18758e76baf8ea149cdb302ac2be3", checked := Tryd.checked }
namespace Rows
def none {H : Type} : Left H := { results := [], args := [] }

/- WHAT THE LISTED PACKAGE-LEVEL VARIABLES READ AS WHEN THE CALL BEGINS. Each datum BY PROGRAM (the guide's laid-datum.mjs) off the statement by which the dump's own 'gosem.cut.vars' lays the variable. In a bare row this is a premise. The card (YtnmpofjegepmaaaDoorCards.lean) ties it to the program's text. -/
def laid_quaver_quaverlaw19_all {H : Type} : DataW H := .agg [.lit (.bool true), .lit (.bool true), .lit (.bool true)]

/-- 'quaverlaw19.GuardFixed': WHATEVER THE INPUT: true; the input reads as it did. -/
def guardFixedSpec : ChangeSpec := { name := "guardFixed", fn := fun _ => fun
  | [] => { results := [.lit (.bool true)], args := [] }
  | _ => none }
def guardFixedRow : OpenClaim := { program := "ytnmpofjegepmaaadoor", sum := "7f6b5b46ae1957dfd252e39bad4e7f377ec18758e76baf8ea149cdb302ac2be3", func := "quaver/quaverlaw19.GuardFixed", spec := "guardFixed", inPlace := ["math.Float64bits", "math.Float64frombits"], named := ["quaver/quaverlaw19.all"], apart := false, laid := [("quaver/quaverlaw19.all", laid_quaver_quaverlaw19_all)] }
def GuardFixedSaid : Prop := guardFixedRow.holds Tryd.pinned (OpenSpec.ofChange guardFixedSpec)

/-- ITS FALSE NEIGHBOUR: 'it returns false'. Refute it at one input. -/
def guardFixedWrong : ChangeSpec := { name := "guardFixed", fn := fun _ => fun
  | [] => { results := [.lit (.bool false)], args := [] }
  | _ => none }
def GuardFixedWrongFalsely : Prop := guardFixedRow.holds Tryd.pinned (OpenSpec.ofChange guardFixedWrong)

/- THE SECOND FORM. 'bulk': how many values and letters a reading holds, each counted each time it is reached (what is shared counts as often as it is met; a slice's spare places count too). A statement '..UptoSaid' is the law's where the arguments, and the package variables that the reading takes, are together of bulk at most 1048576: NARROWER than '..Said'. Prove '..Said' where nothing that the law and all that it calls make is longer than what came in: it says more and counts as full. Else prove '..UptoSaid'. A law counts once. -/
mutual
def uptoBulk {H : Type} : DataW H → Nat
  | .lit (.string bytes) => bytes.length + 1
  | .lit _ => 1
  | .nil => 1
  | .ptr d => uptoBulk d + 1
  | .slice elems spare => uptoBulkAll elems + uptoBulkAll spare + 1
  | .agg parts => uptoBulkAll parts + 1
  | .iface _ d => uptoBulk d + 1
  | .map entries => uptoBulkEntries entries + 1
  | .held _ => 1
def uptoBulkAll {H : Type} : List (DataW H) → Nat
  | [] => 0
  | d :: r => uptoBulk d + uptoBulkAll r
def uptoBulkEntries {H : Type} : List (Lit × DataW H) → Nat
  | [] => 0
  | x :: r => uptoBulkEntry x + uptoBulkEntries r
def uptoBulkEntry {H : Type} : Lit × DataW H → Nat
  | (.string bytes, d) => bytes.length + uptoBulk d + 1
  | (_, d) => uptoBulk d + 1
 end
def uptoSmall : (H : Type) → List (DataW H) → Bool := fun _ ds => decide (uptoBulkAll ds ≤ 1048576)
def OpenSpec.upto (s : _root_.Go.ChangeSpec) : _root_.Go.OpenSpec := { _root_.Go.OpenSpec.ofChange s with cond := some uptoSmall }

/-- 'quaverlaw19.GuardFixed', WHERE WHAT IT READS IS OF BULK AT MOST 1048576: true; the input reads as it did. -/
def guardFixedUptoRow : OpenClaim := { program := "ytnmpofjegepmaaadoor", sum := "7f6b5b46ae1957dfd252e39bad4e7f377ec18758e76baf8ea149cdb302ac2be3", func := "quaver/quaverlaw19.GuardFixed", spec := "guardFixed", inPlace := ["math.Float64bits", "math.Float64frombits"], named := ["quaver/quaverlaw19.all"], apart := false, laid := [("quaver/quaverlaw19.all", laid_quaver_quaverlaw19_all)], narrowed := true }
def GuardFixedUptoSaid : Prop := guardFixedUptoRow.holds Tryd.pinned (OpenSpec.upto guardFixedSpec)

end Rows
end Go.Proofs.YtnmpofjegepmaaaDoor
