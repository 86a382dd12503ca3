/-
  No cell of these rows narrows 'for every input' (looked for: loops, veiled, ifaces, maps, wideKeys, modest, calm, conditions, laid).
  DERIVED. THE GIVEN ROWS OF THIS SEAT. 9 by the template 'for every input the law returns true; each argument reads behind the call as it read before'; 0 by the template 'total and deterministic' (their statements: YtnmpofjegepmaaaTotals.lean).
  GIVEN WITH THE SEED: the statements are not yours to turn. If you find one false, say at which input.
  Laid BY PROGRAM, IN A SANDBOX (cutbox-rows.mjs): the forced cells as the released guide's own fill.sh prints them over the translation f0c5033188f6a009… (all of the seat's roots in one cut). By AI agents, Wed Nov 11 2026. No macro, syntax, notation, axiom, sorry.
-/
import Derived.Test.YtnmpofjegepmaaaChecked
import GoSem.Claim
import GoSem.ClaimJoined
import GoSem.ClaimMapViews
import Derived.JoinedTies
import Derived.KernelRfl
namespace Go.Proofs.Ytnmpofjegepmaaa
/- THE CELL 'sum', in the pinned program and in every row, IS THE sha256 OF THE DUMP (.gsa) THAT YtnmpofjegepmaaaProg.lean LOADS. Nothing in Lean hashes anything: it is a label: what it is worth is what the hold of that sum in a sandbox is worth. -/
noncomputable def Try.pinned : Pinned := { name := "ytnmpofjegepmaaa", sum := "f0c5033188f6a0097a5e21b2aeef626d20abd7af5e2c25860d00e215544674fb", checked := Try.checked }
namespace Rows
def none {H : Type} : Left H := { results := [], args := [] }

/-- 'quaverlaw17.CascadeLinear': WHATEVER THE INPUT: true; the input reads as it did. -/
def cascadeLinearSpec : ChangeSpec := { name := "cascadeLinear", fn := fun _ => fun
  | [d1, d2, d3] => { results := [.lit (.bool true)], args := [d1, d2, d3] }
  | _ => none }
def cascadeLinearRow : OpenClaim := { program := "ytnmpofjegepmaaa", sum := "f0c5033188f6a0097a5e21b2aeef626d20abd7af5e2c25860d00e215544674fb", func := "quaver/quaverlaw17.CascadeLinear", spec := "cascadeLinear", inPlace := ["math.Float64bits"], apart := false }
def CascadeLinearSaid : Prop := cascadeLinearRow.holds Try.pinned (OpenSpec.ofChange cascadeLinearSpec)

/-- ITS FALSE NEIGHBOUR: 'it returns false'. Refute it at one input. -/
def cascadeLinearWrong : ChangeSpec := { name := "cascadeLinear", fn := fun _ => fun
  | [d1, d2, d3] => { results := [.lit (.bool false)], args := [d1, d2, d3] }
  | _ => none }
def CascadeLinearWrongFalsely : Prop := cascadeLinearRow.holds Try.pinned (OpenSpec.ofChange cascadeLinearWrong)

/-- 'quavertop.WholeCuts': WHATEVER THE INPUT: true; the input reads as it did. -/
def wholeCutsSpec : ChangeSpec := { name := "wholeCuts", fn := fun _ => fun
  | [d1, d2, d3] => { results := [.lit (.bool true)], args := [d1, d2, d3] }
  | _ => none }
def wholeCutsRow : OpenClaim := { program := "ytnmpofjegepmaaa", sum := "f0c5033188f6a0097a5e21b2aeef626d20abd7af5e2c25860d00e215544674fb", func := "quaver/quavertop.WholeCuts", spec := "wholeCuts", inPlace := ["math.Float64frombits", "math.Float64bits"], apart := false }
def WholeCutsSaid : Prop := wholeCutsRow.holds Try.pinned (OpenSpec.ofChange wholeCutsSpec)

/-- ITS FALSE NEIGHBOUR: 'it returns false'. Refute it at one input. -/
def wholeCutsWrong : ChangeSpec := { name := "wholeCuts", fn := fun _ => fun
  | [d1, d2, d3] => { results := [.lit (.bool false)], args := [d1, d2, d3] }
  | _ => none }
def WholeCutsWrongFalsely : Prop := wholeCutsRow.holds Try.pinned (OpenSpec.ofChange wholeCutsWrong)

/-- 'quaverlaw19.GuardCleans': WHATEVER THE INPUT: true; the input reads as it did. -/
def guardCleansSpec : ChangeSpec := { name := "guardCleans", fn := fun _ => fun
  | [d1, d2, d3] => { results := [.lit (.bool true)], args := [d1, d2, d3] }
  | _ => none }
def guardCleansRow : OpenClaim := { program := "ytnmpofjegepmaaa", sum := "f0c5033188f6a0097a5e21b2aeef626d20abd7af5e2c25860d00e215544674fb", func := "quaver/quaverlaw19.GuardCleans", spec := "guardCleans", inPlace := ["math.Float64bits", "math.Float64frombits"], apart := false }
def GuardCleansSaid : Prop := guardCleansRow.holds Try.pinned (OpenSpec.ofChange guardCleansSpec)

/-- ITS FALSE NEIGHBOUR: 'it returns false'. Refute it at one input. -/
def guardCleansWrong : ChangeSpec := { name := "guardCleans", fn := fun _ => fun
  | [d1, d2, d3] => { results := [.lit (.bool false)], args := [d1, d2, d3] }
  | _ => none }
def GuardCleansWrongFalsely : Prop := guardCleansRow.holds Try.pinned (OpenSpec.ofChange guardCleansWrong)

/-- 'quavertop.WholeGuards': WHATEVER THE INPUT: true; the input reads as it did. -/
def wholeGuardsSpec : ChangeSpec := { name := "wholeGuards", fn := fun _ => fun
  | [d1, d2, d3, d4, d5] => { results := [.lit (.bool true)], args := [d1, d2, d3, d4, d5] }
  | _ => none }
def wholeGuardsRow : OpenClaim := { program := "ytnmpofjegepmaaa", sum := "f0c5033188f6a0097a5e21b2aeef626d20abd7af5e2c25860d00e215544674fb", func := "quaver/quavertop.WholeGuards", spec := "wholeGuards", inPlace := ["math.Float64frombits", "math.Float64bits"], apart := false }
def WholeGuardsSaid : Prop := wholeGuardsRow.holds Try.pinned (OpenSpec.ofChange wholeGuardsSpec)

/-- ITS FALSE NEIGHBOUR: 'it returns false'. Refute it at one input. -/
def wholeGuardsWrong : ChangeSpec := { name := "wholeGuards", fn := fun _ => fun
  | [d1, d2, d3, d4, d5] => { results := [.lit (.bool false)], args := [d1, d2, d3, d4, d5] }
  | _ => none }
def WholeGuardsWrongFalsely : Prop := wholeGuardsRow.holds Try.pinned (OpenSpec.ofChange wholeGuardsWrong)

/-- 'quavertop.WholeStreams': WHATEVER THE INPUT: true; the input reads as it did. -/
def wholeStreamsSpec : ChangeSpec := { name := "wholeStreams", fn := fun _ => fun
  | [d1, d2, d3, d4, d5, d6] => { results := [.lit (.bool true)], args := [d1, d2, d3, d4, d5, d6] }
  | _ => none }
def wholeStreamsRow : OpenClaim := { program := "ytnmpofjegepmaaa", sum := "f0c5033188f6a0097a5e21b2aeef626d20abd7af5e2c25860d00e215544674fb", func := "quaver/quavertop.WholeStreams", spec := "wholeStreams", inPlace := ["math.Float64frombits", "math.Float64bits"], unfollowed := true, recurses := true, apart := false }
def WholeStreamsSaid : Prop := wholeStreamsRow.holds Try.pinned (OpenSpec.ofChange wholeStreamsSpec)

/-- ITS FALSE NEIGHBOUR: 'it returns false'. Refute it at one input. -/
def wholeStreamsWrong : ChangeSpec := { name := "wholeStreams", fn := fun _ => fun
  | [d1, d2, d3, d4, d5, d6] => { results := [.lit (.bool false)], args := [d1, d2, d3, d4, d5, d6] }
  | _ => none }
def WholeStreamsWrongFalsely : Prop := wholeStreamsRow.holds Try.pinned (OpenSpec.ofChange wholeStreamsWrong)

/-- 'quavertop.WholeNarrow': WHATEVER THE INPUT: true; the input reads as it did. -/
def wholeNarrowSpec : ChangeSpec := { name := "wholeNarrow", fn := fun _ => fun
  | [d1, d2, d3, d4, d5, d6] => { results := [.lit (.bool true)], args := [d1, d2, d3, d4, d5, d6] }
  | _ => none }
def wholeNarrowRow : OpenClaim := { program := "ytnmpofjegepmaaa", sum := "f0c5033188f6a0097a5e21b2aeef626d20abd7af5e2c25860d00e215544674fb", func := "quaver/quavertop.WholeNarrow", spec := "wholeNarrow", inPlace := ["math.Float64frombits", "math.Float32bits", "math.Float64bits"], apart := false }
def WholeNarrowSaid : Prop := wholeNarrowRow.holds Try.pinned (OpenSpec.ofChange wholeNarrowSpec)

/-- ITS FALSE NEIGHBOUR: 'it returns false'. Refute it at one input. -/
def wholeNarrowWrong : ChangeSpec := { name := "wholeNarrow", fn := fun _ => fun
  | [d1, d2, d3, d4, d5, d6] => { results := [.lit (.bool false)], args := [d1, d2, d3, d4, d5, d6] }
  | _ => none }
def WholeNarrowWrongFalsely : Prop := wholeNarrowRow.holds Try.pinned (OpenSpec.ofChange wholeNarrowWrong)

/-- 'quavertop.WholeParts': WHATEVER THE INPUT: true; the input reads as it did. -/
def wholePartsSpec : ChangeSpec := { name := "wholeParts", fn := fun _ => fun
  | [d1, d2, d3, d4] => { results := [.lit (.bool true)], args := [d1, d2, d3, d4] }
  | _ => none }
def wholePartsRow : OpenClaim := { program := "ytnmpofjegepmaaa", sum := "f0c5033188f6a0097a5e21b2aeef626d20abd7af5e2c25860d00e215544674fb", func := "quaver/quavertop.WholeParts", spec := "wholeParts", inPlace := ["math.Float64frombits", "math.Float64bits", "math.sqrt"], apart := false }
def WholePartsSaid : Prop := wholePartsRow.holds Try.pinned (OpenSpec.ofChange wholePartsSpec)

/-- ITS FALSE NEIGHBOUR: 'it returns false'. Refute it at one input. -/
def wholePartsWrong : ChangeSpec := { name := "wholeParts", fn := fun _ => fun
  | [d1, d2, d3, d4] => { results := [.lit (.bool false)], args := [d1, d2, d3, d4] }
  | _ => none }
def WholePartsWrongFalsely : Prop := wholePartsRow.holds Try.pinned (OpenSpec.ofChange wholePartsWrong)

/-- 'quaverlaw03.CplxWhole': WHATEVER THE INPUT: true; the input reads as it did. -/
def cplxWholeSpec : ChangeSpec := { name := "cplxWhole", fn := fun _ => fun
  | [d1, d2, d3, d4, d5] => { results := [.lit (.bool true)], args := [d1, d2, d3, d4, d5] }
  | _ => none }
def cplxWholeRow : OpenClaim := { program := "ytnmpofjegepmaaa", sum := "f0c5033188f6a0097a5e21b2aeef626d20abd7af5e2c25860d00e215544674fb", func := "quaver/quaverlaw03.CplxWhole", spec := "cplxWhole", inPlace := ["math.Float64bits", "math.Float64frombits", "math.sqrt"], recurses := true, apart := false }
def CplxWholeSaid : Prop := cplxWholeRow.holds Try.pinned (OpenSpec.ofChange cplxWholeSpec)

/-- ITS FALSE NEIGHBOUR: 'it returns false'. Refute it at one input. -/
def cplxWholeWrong : ChangeSpec := { name := "cplxWhole", fn := fun _ => fun
  | [d1, d2, d3, d4, d5] => { results := [.lit (.bool false)], args := [d1, d2, d3, d4, d5] }
  | _ => none }
def CplxWholeWrongFalsely : Prop := cplxWholeRow.holds Try.pinned (OpenSpec.ofChange cplxWholeWrong)

/-- 'quavertop.WholeMagnitudes': WHATEVER THE INPUT: true; the input reads as it did. -/
def wholeMagnitudesSpec : ChangeSpec := { name := "wholeMagnitudes", fn := fun _ => fun
  | [d1, d2] => { results := [.lit (.bool true)], args := [d1, d2] }
  | _ => none }
def wholeMagnitudesRow : OpenClaim := { program := "ytnmpofjegepmaaa", sum := "f0c5033188f6a0097a5e21b2aeef626d20abd7af5e2c25860d00e215544674fb", func := "quaver/quavertop.WholeMagnitudes", spec := "wholeMagnitudes", inPlace := ["math.Float64frombits", "math.Float64bits", "math.sqrt", "math.archMax"], recurses := true, apart := false }
def WholeMagnitudesSaid : Prop := wholeMagnitudesRow.holds Try.pinned (OpenSpec.ofChange wholeMagnitudesSpec)

/-- ITS FALSE NEIGHBOUR: 'it returns false'. Refute it at one input. -/
def wholeMagnitudesWrong : ChangeSpec := { name := "wholeMagnitudes", fn := fun _ => fun
  | [d1, d2] => { results := [.lit (.bool false)], args := [d1, d2] }
  | _ => none }
def WholeMagnitudesWrongFalsely : Prop := wholeMagnitudesRow.holds Try.pinned (OpenSpec.ofChange wholeMagnitudesWrong)

/- THE SECOND FORM. 'bulk': how many values and letters a reading holds, each counted each time it is reached (what is shared counts as often as it is met; a slice's spare places count too). A statement '..UptoSaid' is the law's where the arguments, and the package variables that the reading takes, are together of bulk at most 1048576: NARROWER than '..Said'. Prove '..Said' where nothing that the law and all that it calls make is longer than what came in: it says more and counts as full. Else prove '..UptoSaid'. A law counts once. -/
mutual
def uptoBulk {H : Type} : DataW H → Nat
  | .lit (.string bytes) => bytes.length + 1
  | .lit _ => 1
  | .nil => 1
  | .ptr d => uptoBulk d + 1
  | .slice elems spare => uptoBulkAll elems + uptoBulkAll spare + 1
  | .agg parts => uptoBulkAll parts + 1
  | .iface _ d => uptoBulk d + 1
  | .map entries => uptoBulkEntries entries + 1
  | .held _ => 1
def uptoBulkAll {H : Type} : List (DataW H) → Nat
  | [] => 0
  | d :: r => uptoBulk d + uptoBulkAll r
def uptoBulkEntries {H : Type} : List (Lit × DataW H) → Nat
  | [] => 0
  | x :: r => uptoBulkEntry x + uptoBulkEntries r
def uptoBulkEntry {H : Type} : Lit × DataW H → Nat
  | (.string bytes, d) => bytes.length + uptoBulk d + 1
  | (_, d) => uptoBulk d + 1
 end
def uptoSmall : (H : Type) → List (DataW H) → Bool := fun _ ds => decide (uptoBulkAll ds ≤ 1048576)
def OpenSpec.upto (s : _root_.Go.ChangeSpec) : _root_.Go.OpenSpec := { _root_.Go.OpenSpec.ofChange s with cond := some uptoSmall }

/-- 'quaverlaw17.CascadeLinear', WHERE WHAT IT READS IS OF BULK AT MOST 1048576: true; the input reads as it did. -/
def cascadeLinearUptoRow : OpenClaim := { program := "ytnmpofjegepmaaa", sum := "f0c5033188f6a0097a5e21b2aeef626d20abd7af5e2c25860d00e215544674fb", func := "quaver/quaverlaw17.CascadeLinear", spec := "cascadeLinear", inPlace := ["math.Float64bits"], apart := false, narrowed := true }
def CascadeLinearUptoSaid : Prop := cascadeLinearUptoRow.holds Try.pinned (OpenSpec.upto cascadeLinearSpec)

/-- 'quavertop.WholeCuts', WHERE WHAT IT READS IS OF BULK AT MOST 1048576: true; the input reads as it did. -/
def wholeCutsUptoRow : OpenClaim := { program := "ytnmpofjegepmaaa", sum := "f0c5033188f6a0097a5e21b2aeef626d20abd7af5e2c25860d00e215544674fb", func := "quaver/quavertop.WholeCuts", spec := "wholeCuts", inPlace := ["math.Float64frombits", "math.Float64bits"], apart := false, narrowed := true }
def WholeCutsUptoSaid : Prop := wholeCutsUptoRow.holds Try.pinned (OpenSpec.upto wholeCutsSpec)

/-- 'quaverlaw19.GuardCleans', WHERE WHAT IT READS IS OF BULK AT MOST 1048576: true; the input reads as it did. -/
def guardCleansUptoRow : OpenClaim := { program := "ytnmpofjegepmaaa", sum := "f0c5033188f6a0097a5e21b2aeef626d20abd7af5e2c25860d00e215544674fb", func := "quaver/quaverlaw19.GuardCleans", spec := "guardCleans", inPlace := ["math.Float64bits", "math.Float64frombits"], apart := false, narrowed := true }
def GuardCleansUptoSaid : Prop := guardCleansUptoRow.holds Try.pinned (OpenSpec.upto guardCleansSpec)

/-- 'quavertop.WholeGuards', WHERE WHAT IT READS IS OF BULK AT MOST 1048576: true; the input reads as it did. -/
def wholeGuardsUptoRow : OpenClaim := { program := "ytnmpofjegepmaaa", sum := "f0c5033188f6a0097a5e21b2aeef626d20abd7af5e2c25860d00e215544674fb", func := "quaver/quavertop.WholeGuards", spec := "wholeGuards", inPlace := ["math.Float64frombits", "math.Float64bits"], apart := false, narrowed := true }
def WholeGuardsUptoSaid : Prop := wholeGuardsUptoRow.holds Try.pinned (OpenSpec.upto wholeGuardsSpec)

/-- 'quavertop.WholeStreams', WHERE WHAT IT READS IS OF BULK AT MOST 1048576: true; the input reads as it did. -/
def wholeStreamsUptoRow : OpenClaim := { program := "ytnmpofjegepmaaa", sum := "f0c5033188f6a0097a5e21b2aeef626d20abd7af5e2c25860d00e215544674fb", func := "quaver/quavertop.WholeStreams", spec := "wholeStreams", inPlace := ["math.Float64frombits", "math.Float64bits"], unfollowed := true, recurses := true, apart := false, narrowed := true }
def WholeStreamsUptoSaid : Prop := wholeStreamsUptoRow.holds Try.pinned (OpenSpec.upto wholeStreamsSpec)

/-- 'quavertop.WholeNarrow', WHERE WHAT IT READS IS OF BULK AT MOST 1048576: true; the input reads as it did. -/
def wholeNarrowUptoRow : OpenClaim := { program := "ytnmpofjegepmaaa", sum := "f0c5033188f6a0097a5e21b2aeef626d20abd7af5e2c25860d00e215544674fb", func := "quaver/quavertop.WholeNarrow", spec := "wholeNarrow", inPlace := ["math.Float64frombits", "math.Float32bits", "math.Float64bits"], apart := false, narrowed := true }
def WholeNarrowUptoSaid : Prop := wholeNarrowUptoRow.holds Try.pinned (OpenSpec.upto wholeNarrowSpec)

/-- 'quavertop.WholeParts', WHERE WHAT IT READS IS OF BULK AT MOST 1048576: true; the input reads as it did. -/
def wholePartsUptoRow : OpenClaim := { program := "ytnmpofjegepmaaa", sum := "f0c5033188f6a0097a5e21b2aeef626d20abd7af5e2c25860d00e215544674fb", func := "quaver/quavertop.WholeParts", spec := "wholeParts", inPlace := ["math.Float64frombits", "math.Float64bits", "math.sqrt"], apart := false, narrowed := true }
def WholePartsUptoSaid : Prop := wholePartsUptoRow.holds Try.pinned (OpenSpec.upto wholePartsSpec)

/-- 'quaverlaw03.CplxWhole', WHERE WHAT IT READS IS OF BULK AT MOST 1048576: true; the input reads as it did. -/
def cplxWholeUptoRow : OpenClaim := { program := "ytnmpofjegepmaaa", sum := "f0c5033188f6a0097a5e21b2aeef626d20abd7af5e2c25860d00e215544674fb", func := "quaver/quaverlaw03.CplxWhole", spec := "cplxWhole", inPlace := ["math.Float64bits", "math.Float64frombits", "math.sqrt"], recurses := true, apart := false, narrowed := true }
def CplxWholeUptoSaid : Prop := cplxWholeUptoRow.holds Try.pinned (OpenSpec.upto cplxWholeSpec)

/-- 'quavertop.WholeMagnitudes', WHERE WHAT IT READS IS OF BULK AT MOST 1048576: true; the input reads as it did. -/
def wholeMagnitudesUptoRow : OpenClaim := { program := "ytnmpofjegepmaaa", sum := "f0c5033188f6a0097a5e21b2aeef626d20abd7af5e2c25860d00e215544674fb", func := "quaver/quavertop.WholeMagnitudes", spec := "wholeMagnitudes", inPlace := ["math.Float64frombits", "math.Float64bits", "math.sqrt", "math.archMax"], recurses := true, apart := false, narrowed := true }
def WholeMagnitudesUptoSaid : Prop := wholeMagnitudesUptoRow.holds Try.pinned (OpenSpec.upto wholeMagnitudesSpec)

end Rows
end Go.Proofs.Ytnmpofjegepmaaa
