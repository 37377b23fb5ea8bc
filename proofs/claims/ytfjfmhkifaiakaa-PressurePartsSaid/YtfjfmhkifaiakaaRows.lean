/-
  No cell of these rows narrows 'for every input' (looked for: loops, veiled, ifaces, maps, wideKeys, modest, calm, conditions, laid).
  DERIVED. THE GIVEN ROWS OF THIS SEAT. 6 by the template 'for every input the law returns true; each argument reads behind the call as it read before'; 0 by the template 'total and deterministic' (their statements: YtfjfmhkifaiakaaTotals.lean).
  GIVEN WITH THE SEED: the statements are not yours to turn. If you find one false, say at which input.
  Laid BY PROGRAM, IN A SANDBOX (cutbox-rows.mjs): the forced cells as the released guide's own fill.sh prints them over the translation ba34e05f052effd0… (all of the seat's roots in one cut). By AI agents, Wed Nov 11 2026. No macro, syntax, notation, axiom, sorry.
-/
import Derived.Test.YtfjfmhkifaiakaaChecked
import GoSem.Claim
import GoSem.ClaimJoined
import GoSem.ClaimMapViews
import Derived.JoinedTies
import Derived.KernelRfl
namespace Go.Proofs.Ytfjfmhkifaiakaa
/- THE CELL 'sum', in the pinned program and in every row, IS THE sha256 OF THE DUMP (.gsa) THAT YtfjfmhkifaiakaaProg.lean LOADS. Nothing in Lean hashes anything: it is a label: what it is worth is what the hold of that sum in a sandbox is worth. -/
noncomputable def Try.pinned : Pinned := { name := "ytfjfmhkifaiakaa", sum := "ba34e05f052effd050cfe9d487f066f77e328ccfd8ea69faa2b8fc692d8fc378", checked := Try.checked }
namespace Rows
def none {H : Type} : Left H := { results := [], args := [] }

/-- 'headgatelaw32.PressureLevels': WHATEVER THE INPUT: true; the input reads as it did. -/
def pressureLevelsSpec : ChangeSpec := { name := "pressureLevels", fn := fun _ => fun
  | [d1, d2, d3] => { results := [.lit (.bool true)], args := [d1, d2, d3] }
  | _ => none }
def pressureLevelsRow : OpenClaim := { program := "ytfjfmhkifaiakaa", sum := "ba34e05f052effd050cfe9d487f066f77e328ccfd8ea69faa2b8fc692d8fc378", func := "headgate/headgatelaw32.PressureLevels", spec := "pressureLevels", unfollowed := true, recurses := true, apart := false }
def PressureLevelsSaid : Prop := pressureLevelsRow.holds Try.pinned (OpenSpec.ofChange pressureLevelsSpec)

/-- ITS FALSE NEIGHBOUR: 'it returns false'. Refute it at one input. -/
def pressureLevelsWrong : ChangeSpec := { name := "pressureLevels", fn := fun _ => fun
  | [d1, d2, d3] => { results := [.lit (.bool false)], args := [d1, d2, d3] }
  | _ => none }
def PressureLevelsWrongFalsely : Prop := pressureLevelsRow.holds Try.pinned (OpenSpec.ofChange pressureLevelsWrong)

/-- 'headgatelaw32.PressureMore': WHATEVER THE INPUT: true; the input reads as it did. -/
def pressureMoreSpec : ChangeSpec := { name := "pressureMore", fn := fun _ => fun
  | [d1, d2, d3] => { results := [.lit (.bool true)], args := [d1, d2, d3] }
  | _ => none }
def pressureMoreRow : OpenClaim := { program := "ytfjfmhkifaiakaa", sum := "ba34e05f052effd050cfe9d487f066f77e328ccfd8ea69faa2b8fc692d8fc378", func := "headgate/headgatelaw32.PressureMore", spec := "pressureMore", unfollowed := true, recurses := true, apart := false }
def PressureMoreSaid : Prop := pressureMoreRow.holds Try.pinned (OpenSpec.ofChange pressureMoreSpec)

/-- ITS FALSE NEIGHBOUR: 'it returns false'. Refute it at one input. -/
def pressureMoreWrong : ChangeSpec := { name := "pressureMore", fn := fun _ => fun
  | [d1, d2, d3] => { results := [.lit (.bool false)], args := [d1, d2, d3] }
  | _ => none }
def PressureMoreWrongFalsely : Prop := pressureMoreRow.holds Try.pinned (OpenSpec.ofChange pressureMoreWrong)

/-- 'headgatelaw32.PressureParts': WHATEVER THE INPUT: true; the input reads as it did. -/
def pressurePartsSpec : ChangeSpec := { name := "pressureParts", fn := fun _ => fun
  | [d1, d2, d3] => { results := [.lit (.bool true)], args := [d1, d2, d3] }
  | _ => none }
def pressurePartsRow : OpenClaim := { program := "ytfjfmhkifaiakaa", sum := "ba34e05f052effd050cfe9d487f066f77e328ccfd8ea69faa2b8fc692d8fc378", func := "headgate/headgatelaw32.PressureParts", spec := "pressureParts", unfollowed := true, recurses := true, apart := false }
def PressurePartsSaid : Prop := pressurePartsRow.holds Try.pinned (OpenSpec.ofChange pressurePartsSpec)

/-- ITS FALSE NEIGHBOUR: 'it returns false'. Refute it at one input. -/
def pressurePartsWrong : ChangeSpec := { name := "pressureParts", fn := fun _ => fun
  | [d1, d2, d3] => { results := [.lit (.bool false)], args := [d1, d2, d3] }
  | _ => none }
def PressurePartsWrongFalsely : Prop := pressurePartsRow.holds Try.pinned (OpenSpec.ofChange pressurePartsWrong)

/-- 'headgatelaw32.PressureLast': WHATEVER THE INPUT: true; the input reads as it did. -/
def pressureLastSpec : ChangeSpec := { name := "pressureLast", fn := fun _ => fun
  | [d1, d2] => { results := [.lit (.bool true)], args := [d1, d2] }
  | _ => none }
def pressureLastRow : OpenClaim := { program := "ytfjfmhkifaiakaa", sum := "ba34e05f052effd050cfe9d487f066f77e328ccfd8ea69faa2b8fc692d8fc378", func := "headgate/headgatelaw32.PressureLast", spec := "pressureLast", unfollowed := true, recurses := true, apart := false }
def PressureLastSaid : Prop := pressureLastRow.holds Try.pinned (OpenSpec.ofChange pressureLastSpec)

/-- ITS FALSE NEIGHBOUR: 'it returns false'. Refute it at one input. -/
def pressureLastWrong : ChangeSpec := { name := "pressureLast", fn := fun _ => fun
  | [d1, d2] => { results := [.lit (.bool false)], args := [d1, d2] }
  | _ => none }
def PressureLastWrongFalsely : Prop := pressureLastRow.holds Try.pinned (OpenSpec.ofChange pressureLastWrong)

/-- 'headgatelaw32.PressureRuns': WHATEVER THE INPUT: true; the input reads as it did. -/
def pressureRunsSpec : ChangeSpec := { name := "pressureRuns", fn := fun _ => fun
  | [d1, d2] => { results := [.lit (.bool true)], args := [d1, d2] }
  | _ => none }
def pressureRunsRow : OpenClaim := { program := "ytfjfmhkifaiakaa", sum := "ba34e05f052effd050cfe9d487f066f77e328ccfd8ea69faa2b8fc692d8fc378", func := "headgate/headgatelaw32.PressureRuns", spec := "pressureRuns", unfollowed := true, recurses := true, apart := false }
def PressureRunsSaid : Prop := pressureRunsRow.holds Try.pinned (OpenSpec.ofChange pressureRunsSpec)

/-- ITS FALSE NEIGHBOUR: 'it returns false'. Refute it at one input. -/
def pressureRunsWrong : ChangeSpec := { name := "pressureRuns", fn := fun _ => fun
  | [d1, d2] => { results := [.lit (.bool false)], args := [d1, d2] }
  | _ => none }
def PressureRunsWrongFalsely : Prop := pressureRunsRow.holds Try.pinned (OpenSpec.ofChange pressureRunsWrong)

/-- 'headgatelaw32.PressureKnown': WHATEVER THE INPUT: true; the input reads as it did. -/
def pressureKnownSpec : ChangeSpec := { name := "pressureKnown", fn := fun _ => fun
  | [] => { results := [.lit (.bool true)], args := [] }
  | _ => none }
def pressureKnownRow : OpenClaim := { program := "ytfjfmhkifaiakaa", sum := "ba34e05f052effd050cfe9d487f066f77e328ccfd8ea69faa2b8fc692d8fc378", func := "headgate/headgatelaw32.PressureKnown", spec := "pressureKnown", unfollowed := true, recurses := true, apart := false }
def PressureKnownSaid : Prop := pressureKnownRow.holds Try.pinned (OpenSpec.ofChange pressureKnownSpec)

/-- ITS FALSE NEIGHBOUR: 'it returns false'. Refute it at one input. -/
def pressureKnownWrong : ChangeSpec := { name := "pressureKnown", fn := fun _ => fun
  | [] => { results := [.lit (.bool false)], args := [] }
  | _ => none }
def PressureKnownWrongFalsely : Prop := pressureKnownRow.holds Try.pinned (OpenSpec.ofChange pressureKnownWrong)

/- THE SECOND FORM. 'bulk': how many values and letters a reading holds, each counted each time it is reached (what is shared counts as often as it is met; a slice's spare places count too). A statement '..UptoSaid' is the law's where the arguments, and the package variables that the reading takes, are together of bulk at most 1048576: NARROWER than '..Said'. Prove '..Said' where nothing that the law and all that it calls make is longer than what came in: it says more and counts as full. Else prove '..UptoSaid'. A law counts once. -/
mutual
def uptoBulk {H : Type} : DataW H → Nat
  | .lit (.string bytes) => bytes.length + 1
  | .lit _ => 1
  | .nil => 1
  | .ptr d => uptoBulk d + 1
  | .slice elems spare => uptoBulkAll elems + uptoBulkAll spare + 1
  | .agg parts => uptoBulkAll parts + 1
  | .iface _ d => uptoBulk d + 1
  | .map entries => uptoBulkEntries entries + 1
  | .held _ => 1
def uptoBulkAll {H : Type} : List (DataW H) → Nat
  | [] => 0
  | d :: r => uptoBulk d + uptoBulkAll r
def uptoBulkEntries {H : Type} : List (Lit × DataW H) → Nat
  | [] => 0
  | x :: r => uptoBulkEntry x + uptoBulkEntries r
def uptoBulkEntry {H : Type} : Lit × DataW H → Nat
  | (.string bytes, d) => bytes.length + uptoBulk d + 1
  | (_, d) => uptoBulk d + 1
 end
def uptoSmall : (H : Type) → List (DataW H) → Bool := fun _ ds => decide (uptoBulkAll ds ≤ 1048576)
def OpenSpec.upto (s : _root_.Go.ChangeSpec) : _root_.Go.OpenSpec := { _root_.Go.OpenSpec.ofChange s with cond := some uptoSmall }

/-- 'headgatelaw32.PressureLevels', WHERE WHAT IT READS IS OF BULK AT MOST 1048576: true; the input reads as it did. -/
def pressureLevelsUptoRow : OpenClaim := { program := "ytfjfmhkifaiakaa", sum := "ba34e05f052effd050cfe9d487f066f77e328ccfd8ea69faa2b8fc692d8fc378", func := "headgate/headgatelaw32.PressureLevels", spec := "pressureLevels", unfollowed := true, recurses := true, apart := false, narrowed := true }
def PressureLevelsUptoSaid : Prop := pressureLevelsUptoRow.holds Try.pinned (OpenSpec.upto pressureLevelsSpec)

/-- 'headgatelaw32.PressureMore', WHERE WHAT IT READS IS OF BULK AT MOST 1048576: true; the input reads as it did. -/
def pressureMoreUptoRow : OpenClaim := { program := "ytfjfmhkifaiakaa", sum := "ba34e05f052effd050cfe9d487f066f77e328ccfd8ea69faa2b8fc692d8fc378", func := "headgate/headgatelaw32.PressureMore", spec := "pressureMore", unfollowed := true, recurses := true, apart := false, narrowed := true }
def PressureMoreUptoSaid : Prop := pressureMoreUptoRow.holds Try.pinned (OpenSpec.upto pressureMoreSpec)

/-- 'headgatelaw32.PressureParts', WHERE WHAT IT READS IS OF BULK AT MOST 1048576: true; the input reads as it did. -/
def pressurePartsUptoRow : OpenClaim := { program := "ytfjfmhkifaiakaa", sum := "ba34e05f052effd050cfe9d487f066f77e328ccfd8ea69faa2b8fc692d8fc378", func := "headgate/headgatelaw32.PressureParts", spec := "pressureParts", unfollowed := true, recurses := true, apart := false, narrowed := true }
def PressurePartsUptoSaid : Prop := pressurePartsUptoRow.holds Try.pinned (OpenSpec.upto pressurePartsSpec)

/-- 'headgatelaw32.PressureLast', WHERE WHAT IT READS IS OF BULK AT MOST 1048576: true; the input reads as it did. -/
def pressureLastUptoRow : OpenClaim := { program := "ytfjfmhkifaiakaa", sum := "ba34e05f052effd050cfe9d487f066f77e328ccfd8ea69faa2b8fc692d8fc378", func := "headgate/headgatelaw32.PressureLast", spec := "pressureLast", unfollowed := true, recurses := true, apart := false, narrowed := true }
def PressureLastUptoSaid : Prop := pressureLastUptoRow.holds Try.pinned (OpenSpec.upto pressureLastSpec)

/-- 'headgatelaw32.PressureRuns', WHERE WHAT IT READS IS OF BULK AT MOST 1048576: true; the input reads as it did. -/
def pressureRunsUptoRow : OpenClaim := { program := "ytfjfmhkifaiakaa", sum := "ba34e05f052effd050cfe9d487f066f77e328ccfd8ea69faa2b8fc692d8fc378", func := "headgate/headgatelaw32.PressureRuns", spec := "pressureRuns", unfollowed := true, recurses := true, apart := false, narrowed := true }
def PressureRunsUptoSaid : Prop := pressureRunsUptoRow.holds Try.pinned (OpenSpec.upto pressureRunsSpec)

/-- 'headgatelaw32.PressureKnown', WHERE WHAT IT READS IS OF BULK AT MOST 1048576: true; the input reads as it did. -/
def pressureKnownUptoRow : OpenClaim := { program := "ytfjfmhkifaiakaa", sum := "ba34e05f052effd050cfe9d487f066f77e328ccfd8ea69faa2b8fc692d8fc378", func := "headgate/headgatelaw32.PressureKnown", spec := "pressureKnown", unfollowed := true, recurses := true, apart := false, narrowed := true }
def PressureKnownUptoSaid : Prop := pressureKnownUptoRow.holds Try.pinned (OpenSpec.upto pressureKnownSpec)

end Rows
end Go.Proofs.Ytfjfmhkifaiakaa
