/-
  No cell of these rows narrows 'for every input' (looked for: loops, veiled, ifaces, maps, wideKeys, modest, calm, conditions, laid).
  DERIVED. THE GIVEN ROWS OF THIS SEAT. 10 by the template 'for every input the law returns true; each argument reads behind the call as it read before'; 0 by the template 'total and deterministic' (their statements: YtdincnjmohlgiaaTotals.lean).
  GIVEN WITH THE SEED: the statements are not yours to turn. If you find one false, say at which input.
  Laid BY PROGRAM, IN A SANDBOX (cutbox-rows.mjs): the forced cells as the released guide's own fill.sh prints them over the translation e26210bdf5d6a3ae… (all of the seat's roots in one cut). By AI agents, Wed Nov 11 2026. No macro, syntax, notation, axiom, sorry.
-/
import Derived.Test.YtdincnjmohlgiaaChecked
import GoSem.Claim
import GoSem.ClaimJoined
import GoSem.ClaimMapViews
import Derived.JoinedTies
import Derived.KernelRfl
namespace Go.Proofs.Ytdincnjmohlgiaa
/- THE CELL 'sum', in the pinned program and in every row, IS THE sha256 OF THE DUMP (.gsa) THAT YtdincnjmohlgiaaProg.lean LOADS. Nothing in Lean hashes anything: it is a label: what it is worth is what the hold of that sum in a sandbox is worth. -/
noncomputable def Try.pinned : Pinned := { name := "ytdincnjmohlgiaa", sum := "e26210bdf5d6a3ae32d484bc5391eb78cde281d24749038cbdebe23a2653605b", checked := Try.checked }
namespace Rows
def none {H : Type} : Left H := { results := [], args := [] }

/-- 'quaverlaw17.CascadeLinear': WHATEVER THE INPUT: true; the input reads as it did. -/
def cascadeLinearSpec : ChangeSpec := { name := "cascadeLinear", fn := fun _ => fun
  | [d1, d2, d3] => { results := [.lit (.bool true)], args := [d1, d2, d3] }
  | _ => none }
def cascadeLinearRow : OpenClaim := { program := "ytdincnjmohlgiaa", sum := "e26210bdf5d6a3ae32d484bc5391eb78cde281d24749038cbdebe23a2653605b", func := "quaver/quaverlaw17.CascadeLinear", spec := "cascadeLinear", inPlace := ["math.Float64bits"], apart := false }
def CascadeLinearSaid : Prop := cascadeLinearRow.holds Try.pinned (OpenSpec.ofChange cascadeLinearSpec)

/-- ITS FALSE NEIGHBOUR: 'it returns false'. Refute it at one input. -/
def cascadeLinearWrong : ChangeSpec := { name := "cascadeLinear", fn := fun _ => fun
  | [d1, d2, d3] => { results := [.lit (.bool false)], args := [d1, d2, d3] }
  | _ => none }
def CascadeLinearWrongFalsely : Prop := cascadeLinearRow.holds Try.pinned (OpenSpec.ofChange cascadeLinearWrong)

/-- 'quaverlaw01.PartSplits': WHATEVER THE INPUT: true; the input reads as it did. -/
def partSplitsSpec : ChangeSpec := { name := "partSplits", fn := fun _ => fun
  | [d] => { results := [.lit (.bool true)], args := [d] }
  | _ => none }
def partSplitsRow : OpenClaim := { program := "ytdincnjmohlgiaa", sum := "e26210bdf5d6a3ae32d484bc5391eb78cde281d24749038cbdebe23a2653605b", func := "quaver/quaverlaw01.PartSplits", spec := "partSplits", inPlace := ["math.Float64bits", "math.Float64frombits"], apart := false }
def PartSplitsSaid : Prop := partSplitsRow.holds Try.pinned (OpenSpec.ofChange partSplitsSpec)

/-- ITS FALSE NEIGHBOUR: 'it returns false'. Refute it at one input. -/
def partSplitsWrong : ChangeSpec := { name := "partSplits", fn := fun _ => fun
  | [d] => { results := [.lit (.bool false)], args := [d] }
  | _ => none }
def PartSplitsWrongFalsely : Prop := partSplitsRow.holds Try.pinned (OpenSpec.ofChange partSplitsWrong)

/-- 'quaverlaw01.PartJoins': WHATEVER THE INPUT: true; the input reads as it did. -/
def partJoinsSpec : ChangeSpec := { name := "partJoins", fn := fun _ => fun
  | [d1, d2, d3] => { results := [.lit (.bool true)], args := [d1, d2, d3] }
  | _ => none }
def partJoinsRow : OpenClaim := { program := "ytdincnjmohlgiaa", sum := "e26210bdf5d6a3ae32d484bc5391eb78cde281d24749038cbdebe23a2653605b", func := "quaver/quaverlaw01.PartJoins", spec := "partJoins", inPlace := ["math.Float64bits", "math.Float64frombits"], apart := false }
def PartJoinsSaid : Prop := partJoinsRow.holds Try.pinned (OpenSpec.ofChange partJoinsSpec)

/-- ITS FALSE NEIGHBOUR: 'it returns false'. Refute it at one input. -/
def partJoinsWrong : ChangeSpec := { name := "partJoins", fn := fun _ => fun
  | [d1, d2, d3] => { results := [.lit (.bool false)], args := [d1, d2, d3] }
  | _ => none }
def PartJoinsWrongFalsely : Prop := partJoinsRow.holds Try.pinned (OpenSpec.ofChange partJoinsWrong)

/-- 'quaverlaw01.PartNearest': WHATEVER THE INPUT: true; the input reads as it did. -/
def partNearestSpec : ChangeSpec := { name := "partNearest", fn := fun _ => fun
  | [d1, d2, d3] => { results := [.lit (.bool true)], args := [d1, d2, d3] }
  | _ => none }
def partNearestRow : OpenClaim := { program := "ytdincnjmohlgiaa", sum := "e26210bdf5d6a3ae32d484bc5391eb78cde281d24749038cbdebe23a2653605b", func := "quaver/quaverlaw01.PartNearest", spec := "partNearest", inPlace := ["math.Float64bits", "math.Float64frombits"], apart := false }
def PartNearestSaid : Prop := partNearestRow.holds Try.pinned (OpenSpec.ofChange partNearestSpec)

/-- ITS FALSE NEIGHBOUR: 'it returns false'. Refute it at one input. -/
def partNearestWrong : ChangeSpec := { name := "partNearest", fn := fun _ => fun
  | [d1, d2, d3] => { results := [.lit (.bool false)], args := [d1, d2, d3] }
  | _ => none }
def PartNearestWrongFalsely : Prop := partNearestRow.holds Try.pinned (OpenSpec.ofChange partNearestWrong)

/-- 'quaverlaw01.PartPairs': WHATEVER THE INPUT: true; the input reads as it did. -/
def partPairsSpec : ChangeSpec := { name := "partPairs", fn := fun _ => fun
  | [d1, d2] => { results := [.lit (.bool true)], args := [d1, d2] }
  | _ => none }
def partPairsRow : OpenClaim := { program := "ytdincnjmohlgiaa", sum := "e26210bdf5d6a3ae32d484bc5391eb78cde281d24749038cbdebe23a2653605b", func := "quaver/quaverlaw01.PartPairs", spec := "partPairs", inPlace := ["math.Float64bits", "math.Float64frombits"], apart := false }
def PartPairsSaid : Prop := partPairsRow.holds Try.pinned (OpenSpec.ofChange partPairsSpec)

/-- ITS FALSE NEIGHBOUR: 'it returns false'. Refute it at one input. -/
def partPairsWrong : ChangeSpec := { name := "partPairs", fn := fun _ => fun
  | [d1, d2] => { results := [.lit (.bool false)], args := [d1, d2] }
  | _ => none }
def PartPairsWrongFalsely : Prop := partPairsRow.holds Try.pinned (OpenSpec.ofChange partPairsWrong)

/-- 'quaverlaw01.PartOrders': WHATEVER THE INPUT: true; the input reads as it did. -/
def partOrdersSpec : ChangeSpec := { name := "partOrders", fn := fun _ => fun
  | [d1, d2, d3] => { results := [.lit (.bool true)], args := [d1, d2, d3] }
  | _ => none }
def partOrdersRow : OpenClaim := { program := "ytdincnjmohlgiaa", sum := "e26210bdf5d6a3ae32d484bc5391eb78cde281d24749038cbdebe23a2653605b", func := "quaver/quaverlaw01.PartOrders", spec := "partOrders", inPlace := ["math.Float64bits", "math.Float64frombits"], apart := false }
def PartOrdersSaid : Prop := partOrdersRow.holds Try.pinned (OpenSpec.ofChange partOrdersSpec)

/-- ITS FALSE NEIGHBOUR: 'it returns false'. Refute it at one input. -/
def partOrdersWrong : ChangeSpec := { name := "partOrders", fn := fun _ => fun
  | [d1, d2, d3] => { results := [.lit (.bool false)], args := [d1, d2, d3] }
  | _ => none }
def PartOrdersWrongFalsely : Prop := partOrdersRow.holds Try.pinned (OpenSpec.ofChange partOrdersWrong)

/-- 'quaverlaw01.PartFlushes': WHATEVER THE INPUT: true; the input reads as it did. -/
def partFlushesSpec : ChangeSpec := { name := "partFlushes", fn := fun _ => fun
  | [d] => { results := [.lit (.bool true)], args := [d] }
  | _ => none }
def partFlushesRow : OpenClaim := { program := "ytdincnjmohlgiaa", sum := "e26210bdf5d6a3ae32d484bc5391eb78cde281d24749038cbdebe23a2653605b", func := "quaver/quaverlaw01.PartFlushes", spec := "partFlushes", inPlace := ["math.Float64bits", "math.Float64frombits"], apart := false }
def PartFlushesSaid : Prop := partFlushesRow.holds Try.pinned (OpenSpec.ofChange partFlushesSpec)

/-- ITS FALSE NEIGHBOUR: 'it returns false'. Refute it at one input. -/
def partFlushesWrong : ChangeSpec := { name := "partFlushes", fn := fun _ => fun
  | [d] => { results := [.lit (.bool false)], args := [d] }
  | _ => none }
def PartFlushesWrongFalsely : Prop := partFlushesRow.holds Try.pinned (OpenSpec.ofChange partFlushesWrong)

/-- 'quaverlaw01.PartSteps': WHATEVER THE INPUT: true; the input reads as it did. -/
def partStepsSpec : ChangeSpec := { name := "partSteps", fn := fun _ => fun
  | [d] => { results := [.lit (.bool true)], args := [d] }
  | _ => none }
def partStepsRow : OpenClaim := { program := "ytdincnjmohlgiaa", sum := "e26210bdf5d6a3ae32d484bc5391eb78cde281d24749038cbdebe23a2653605b", func := "quaver/quaverlaw01.PartSteps", spec := "partSteps", inPlace := ["math.Float64bits", "math.Float64frombits"], apart := false }
def PartStepsSaid : Prop := partStepsRow.holds Try.pinned (OpenSpec.ofChange partStepsSpec)

/-- ITS FALSE NEIGHBOUR: 'it returns false'. Refute it at one input. -/
def partStepsWrong : ChangeSpec := { name := "partSteps", fn := fun _ => fun
  | [d] => { results := [.lit (.bool false)], args := [d] }
  | _ => none }
def PartStepsWrongFalsely : Prop := partStepsRow.holds Try.pinned (OpenSpec.ofChange partStepsWrong)

/-- 'quaverlaw01.PartNeighbours': WHATEVER THE INPUT: true; the input reads as it did. -/
def partNeighboursSpec : ChangeSpec := { name := "partNeighbours", fn := fun _ => fun
  | [d] => { results := [.lit (.bool true)], args := [d] }
  | _ => none }
def partNeighboursRow : OpenClaim := { program := "ytdincnjmohlgiaa", sum := "e26210bdf5d6a3ae32d484bc5391eb78cde281d24749038cbdebe23a2653605b", func := "quaver/quaverlaw01.PartNeighbours", spec := "partNeighbours", inPlace := ["math.Float64bits", "math.Float64frombits"], apart := false }
def PartNeighboursSaid : Prop := partNeighboursRow.holds Try.pinned (OpenSpec.ofChange partNeighboursSpec)

/-- ITS FALSE NEIGHBOUR: 'it returns false'. Refute it at one input. -/
def partNeighboursWrong : ChangeSpec := { name := "partNeighbours", fn := fun _ => fun
  | [d] => { results := [.lit (.bool false)], args := [d] }
  | _ => none }
def PartNeighboursWrongFalsely : Prop := partNeighboursRow.holds Try.pinned (OpenSpec.ofChange partNeighboursWrong)

/-- 'quavertop.WholeCuts': WHATEVER THE INPUT: true; the input reads as it did. -/
def wholeCutsSpec : ChangeSpec := { name := "wholeCuts", fn := fun _ => fun
  | [d1, d2, d3] => { results := [.lit (.bool true)], args := [d1, d2, d3] }
  | _ => none }
def wholeCutsRow : OpenClaim := { program := "ytdincnjmohlgiaa", sum := "e26210bdf5d6a3ae32d484bc5391eb78cde281d24749038cbdebe23a2653605b", func := "quaver/quavertop.WholeCuts", spec := "wholeCuts", inPlace := ["math.Float64frombits", "math.Float64bits"], apart := false }
def WholeCutsSaid : Prop := wholeCutsRow.holds Try.pinned (OpenSpec.ofChange wholeCutsSpec)

/-- ITS FALSE NEIGHBOUR: 'it returns false'. Refute it at one input. -/
def wholeCutsWrong : ChangeSpec := { name := "wholeCuts", fn := fun _ => fun
  | [d1, d2, d3] => { results := [.lit (.bool false)], args := [d1, d2, d3] }
  | _ => none }
def WholeCutsWrongFalsely : Prop := wholeCutsRow.holds Try.pinned (OpenSpec.ofChange wholeCutsWrong)

/- THE SECOND FORM. 'bulk': how many values and letters a reading holds, each counted each time it is reached (what is shared counts as often as it is met; a slice's spare places count too). A statement '..UptoSaid' is the law's where the arguments, and the package variables that the reading takes, are together of bulk at most 1048576: NARROWER than '..Said'. Prove '..Said' where nothing that the law and all that it calls make is longer than what came in: it says more and counts as full. Else prove '..UptoSaid'. A law counts once. -/
mutual
def uptoBulk {H : Type} : DataW H → Nat
  | .lit (.string bytes) => bytes.length + 1
  | .lit _ => 1
  | .nil => 1
  | .ptr d => uptoBulk d + 1
  | .slice elems spare => uptoBulkAll elems + uptoBulkAll spare + 1
  | .agg parts => uptoBulkAll parts + 1
  | .iface _ d => uptoBulk d + 1
  | .map entries => uptoBulkEntries entries + 1
  | .held _ => 1
def uptoBulkAll {H : Type} : List (DataW H) → Nat
  | [] => 0
  | d :: r => uptoBulk d + uptoBulkAll r
def uptoBulkEntries {H : Type} : List (Lit × DataW H) → Nat
  | [] => 0
  | x :: r => uptoBulkEntry x + uptoBulkEntries r
def uptoBulkEntry {H : Type} : Lit × DataW H → Nat
  | (.string bytes, d) => bytes.length + uptoBulk d + 1
  | (_, d) => uptoBulk d + 1
 end
def uptoSmall : (H : Type) → List (DataW H) → Bool := fun _ ds => decide (uptoBulkAll ds ≤ 1048576)
def OpenSpec.upto (s : _root_.Go.ChangeSpec) : _root_.Go.OpenSpec := { _root_.Go.OpenSpec.ofChange s with cond := some uptoSmall }

/-- 'quaverlaw17.CascadeLinear', WHERE WHAT IT READS IS OF BULK AT MOST 1048576: true; the input reads as it did. -/
def cascadeLinearUptoRow : OpenClaim := { program := "ytdincnjmohlgiaa", sum := "e26210bdf5d6a3ae32d484bc5391eb78cde281d24749038cbdebe23a2653605b", func := "quaver/quaverlaw17.CascadeLinear", spec := "cascadeLinear", inPlace := ["math.Float64bits"], apart := false, narrowed := true }
def CascadeLinearUptoSaid : Prop := cascadeLinearUptoRow.holds Try.pinned (OpenSpec.upto cascadeLinearSpec)

/-- 'quaverlaw01.PartSplits', WHERE WHAT IT READS IS OF BULK AT MOST 1048576: true; the input reads as it did. -/
def partSplitsUptoRow : OpenClaim := { program := "ytdincnjmohlgiaa", sum := "e26210bdf5d6a3ae32d484bc5391eb78cde281d24749038cbdebe23a2653605b", func := "quaver/quaverlaw01.PartSplits", spec := "partSplits", inPlace := ["math.Float64bits", "math.Float64frombits"], apart := false, narrowed := true }
def PartSplitsUptoSaid : Prop := partSplitsUptoRow.holds Try.pinned (OpenSpec.upto partSplitsSpec)

/-- 'quaverlaw01.PartJoins', WHERE WHAT IT READS IS OF BULK AT MOST 1048576: true; the input reads as it did. -/
def partJoinsUptoRow : OpenClaim := { program := "ytdincnjmohlgiaa", sum := "e26210bdf5d6a3ae32d484bc5391eb78cde281d24749038cbdebe23a2653605b", func := "quaver/quaverlaw01.PartJoins", spec := "partJoins", inPlace := ["math.Float64bits", "math.Float64frombits"], apart := false, narrowed := true }
def PartJoinsUptoSaid : Prop := partJoinsUptoRow.holds Try.pinned (OpenSpec.upto partJoinsSpec)

/-- 'quaverlaw01.PartNearest', WHERE WHAT IT READS IS OF BULK AT MOST 1048576: true; the input reads as it did. -/
def partNearestUptoRow : OpenClaim := { program := "ytdincnjmohlgiaa", sum := "e26210bdf5d6a3ae32d484bc5391eb78cde281d24749038cbdebe23a2653605b", func := "quaver/quaverlaw01.PartNearest", spec := "partNearest", inPlace := ["math.Float64bits", "math.Float64frombits"], apart := false, narrowed := true }
def PartNearestUptoSaid : Prop := partNearestUptoRow.holds Try.pinned (OpenSpec.upto partNearestSpec)

/-- 'quaverlaw01.PartPairs', WHERE WHAT IT READS IS OF BULK AT MOST 1048576: true; the input reads as it did. -/
def partPairsUptoRow : OpenClaim := { program := "ytdincnjmohlgiaa", sum := "e26210bdf5d6a3ae32d484bc5391eb78cde281d24749038cbdebe23a2653605b", func := "quaver/quaverlaw01.PartPairs", spec := "partPairs", inPlace := ["math.Float64bits", "math.Float64frombits"], apart := false, narrowed := true }
def PartPairsUptoSaid : Prop := partPairsUptoRow.holds Try.pinned (OpenSpec.upto partPairsSpec)

/-- 'quaverlaw01.PartOrders', WHERE WHAT IT READS IS OF BULK AT MOST 1048576: true; the input reads as it did. -/
def partOrdersUptoRow : OpenClaim := { program := "ytdincnjmohlgiaa", sum := "e26210bdf5d6a3ae32d484bc5391eb78cde281d24749038cbdebe23a2653605b", func := "quaver/quaverlaw01.PartOrders", spec := "partOrders", inPlace := ["math.Float64bits", "math.Float64frombits"], apart := false, narrowed := true }
def PartOrdersUptoSaid : Prop := partOrdersUptoRow.holds Try.pinned (OpenSpec.upto partOrdersSpec)

/-- 'quaverlaw01.PartFlushes', WHERE WHAT IT READS IS OF BULK AT MOST 1048576: true; the input reads as it did. -/
def partFlushesUptoRow : OpenClaim := { program := "ytdincnjmohlgiaa", sum := "e26210bdf5d6a3ae32d484bc5391eb78cde281d24749038cbdebe23a2653605b", func := "quaver/quaverlaw01.PartFlushes", spec := "partFlushes", inPlace := ["math.Float64bits", "math.Float64frombits"], apart := false, narrowed := true }
def PartFlushesUptoSaid : Prop := partFlushesUptoRow.holds Try.pinned (OpenSpec.upto partFlushesSpec)

/-- 'quaverlaw01.PartSteps', WHERE WHAT IT READS IS OF BULK AT MOST 1048576: true; the input reads as it did. -/
def partStepsUptoRow : OpenClaim := { program := "ytdincnjmohlgiaa", sum := "e26210bdf5d6a3ae32d484bc5391eb78cde281d24749038cbdebe23a2653605b", func := "quaver/quaverlaw01.PartSteps", spec := "partSteps", inPlace := ["math.Float64bits", "math.Float64frombits"], apart := false, narrowed := true }
def PartStepsUptoSaid : Prop := partStepsUptoRow.holds Try.pinned (OpenSpec.upto partStepsSpec)

/-- 'quaverlaw01.PartNeighbours', WHERE WHAT IT READS IS OF BULK AT MOST 1048576: true; the input reads as it did. -/
def partNeighboursUptoRow : OpenClaim := { program := "ytdincnjmohlgiaa", sum := "e26210bdf5d6a3ae32d484bc5391eb78cde281d24749038cbdebe23a2653605b", func := "quaver/quaverlaw01.PartNeighbours", spec := "partNeighbours", inPlace := ["math.Float64bits", "math.Float64frombits"], apart := false, narrowed := true }
def PartNeighboursUptoSaid : Prop := partNeighboursUptoRow.holds Try.pinned (OpenSpec.upto partNeighboursSpec)

/-- 'quavertop.WholeCuts', WHERE WHAT IT READS IS OF BULK AT MOST 1048576: true; the input reads as it did. -/
def wholeCutsUptoRow : OpenClaim := { program := "ytdincnjmohlgiaa", sum := "e26210bdf5d6a3ae32d484bc5391eb78cde281d24749038cbdebe23a2653605b", func := "quaver/quavertop.WholeCuts", spec := "wholeCuts", inPlace := ["math.Float64frombits", "math.Float64bits"], apart := false, narrowed := true }
def WholeCutsUptoSaid : Prop := wholeCutsUptoRow.holds Try.pinned (OpenSpec.upto wholeCutsSpec)

end Rows
end Go.Proofs.Ytdincnjmohlgiaa
