/-
  No cell of these rows narrows 'for every input' (looked for: loops, veiled, ifaces, maps, wideKeys, modest, calm, conditions, laid).
  DERIVED. THE GIVEN ROWS OF THIS SEAT. 4 by the template 'for every input the law returns true; each argument reads behind the call as it read before'; 0 by the template 'total and deterministic' (their statements: YtbhbddpebhccgaaTotals.lean).
  GIVEN WITH THE SEED: the statements are not yours to turn. If you find one false, say at which input.
  Laid BY PROGRAM, IN A SANDBOX (cutbox-rows.mjs): the forced cells as the released guide's own fill.sh prints them over the translation dd084b8f7d69b6cb… (all of the seat's roots in one cut). By AI agents, Wed Nov 11 2026. No macro, syntax, notation, axiom, sorry.
-/
import Derived.Test.YtbhbddpebhccgaaChecked
import GoSem.Claim
import GoSem.ClaimJoined
import GoSem.ClaimMapViews
import Derived.JoinedTies
import Derived.KernelRfl
namespace Go.Proofs.Ytbhbddpebhccgaa
/- THE CELL 'sum', in the pinned program and in every row, IS THE sha256 OF THE DUMP (.gsa) THAT YtbhbddpebhccgaaProg.lean LOADS. Nothing in Lean hashes anything: it is a label: what it is worth is what the hold of that sum in a sandbox is worth. -/
noncomputable def Try.pinned : Pinned := { name := "ytbhbddpebhccgaa", sum := "dd084b8f7d69b6cb7344ccc776223a267b07ab2132f34f3694d96159211c604a", checked := Try.checked }
namespace Rows
def none {H : Type} : Left H := { results := [], args := [] }

/-- 'headgatelaw12.SlabSplits': WHATEVER THE INPUT: true; the input reads as it did. -/
def slabSplitsSpec : ChangeSpec := { name := "slabSplits", fn := fun _ => fun
  | [d] => { results := [.lit (.bool true)], args := [d] }
  | _ => none }
def slabSplitsRow : OpenClaim := { program := "ytbhbddpebhccgaa", sum := "dd084b8f7d69b6cb7344ccc776223a267b07ab2132f34f3694d96159211c604a", func := "headgate/headgatelaw12.SlabSplits", spec := "slabSplits", apart := false }
def SlabSplitsSaid : Prop := slabSplitsRow.holds Try.pinned (OpenSpec.ofChange slabSplitsSpec)

/-- ITS FALSE NEIGHBOUR: 'it returns false'. Refute it at one input. -/
def slabSplitsWrong : ChangeSpec := { name := "slabSplits", fn := fun _ => fun
  | [d] => { results := [.lit (.bool false)], args := [d] }
  | _ => none }
def SlabSplitsWrongFalsely : Prop := slabSplitsRow.holds Try.pinned (OpenSpec.ofChange slabSplitsWrong)

/-- 'headgatelaw12.SlabFills': WHATEVER THE INPUT: true; the input reads as it did. -/
def slabFillsSpec : ChangeSpec := { name := "slabFills", fn := fun _ => fun
  | [d] => { results := [.lit (.bool true)], args := [d] }
  | _ => none }
def slabFillsRow : OpenClaim := { program := "ytbhbddpebhccgaa", sum := "dd084b8f7d69b6cb7344ccc776223a267b07ab2132f34f3694d96159211c604a", func := "headgate/headgatelaw12.SlabFills", spec := "slabFills", apart := false }
def SlabFillsSaid : Prop := slabFillsRow.holds Try.pinned (OpenSpec.ofChange slabFillsSpec)

/-- ITS FALSE NEIGHBOUR: 'it returns false'. Refute it at one input. -/
def slabFillsWrong : ChangeSpec := { name := "slabFills", fn := fun _ => fun
  | [d] => { results := [.lit (.bool false)], args := [d] }
  | _ => none }
def SlabFillsWrongFalsely : Prop := slabFillsRow.holds Try.pinned (OpenSpec.ofChange slabFillsWrong)

/-- 'headgatelaw12.SlabSteps': WHATEVER THE INPUT: true; the input reads as it did. -/
def slabStepsSpec : ChangeSpec := { name := "slabSteps", fn := fun _ => fun
  | [d1, d2] => { results := [.lit (.bool true)], args := [d1, d2] }
  | _ => none }
def slabStepsRow : OpenClaim := { program := "ytbhbddpebhccgaa", sum := "dd084b8f7d69b6cb7344ccc776223a267b07ab2132f34f3694d96159211c604a", func := "headgate/headgatelaw12.SlabSteps", spec := "slabSteps", unfollowed := true, recurses := true, apart := false }
def SlabStepsSaid : Prop := slabStepsRow.holds Try.pinned (OpenSpec.ofChange slabStepsSpec)

/-- ITS FALSE NEIGHBOUR: 'it returns false'. Refute it at one input. -/
def slabStepsWrong : ChangeSpec := { name := "slabSteps", fn := fun _ => fun
  | [d1, d2] => { results := [.lit (.bool false)], args := [d1, d2] }
  | _ => none }
def SlabStepsWrongFalsely : Prop := slabStepsRow.holds Try.pinned (OpenSpec.ofChange slabStepsWrong)

/-- 'headgatelaw12.SlabUndo': WHATEVER THE INPUT: true; the input reads as it did. -/
def slabUndoSpec : ChangeSpec := { name := "slabUndo", fn := fun _ => fun
  | [d] => { results := [.lit (.bool true)], args := [d] }
  | _ => none }
def slabUndoRow : OpenClaim := { program := "ytbhbddpebhccgaa", sum := "dd084b8f7d69b6cb7344ccc776223a267b07ab2132f34f3694d96159211c604a", func := "headgate/headgatelaw12.SlabUndo", spec := "slabUndo", unfollowed := true, recurses := true, apart := false }
def SlabUndoSaid : Prop := slabUndoRow.holds Try.pinned (OpenSpec.ofChange slabUndoSpec)

/-- ITS FALSE NEIGHBOUR: 'it returns false'. Refute it at one input. -/
def slabUndoWrong : ChangeSpec := { name := "slabUndo", fn := fun _ => fun
  | [d] => { results := [.lit (.bool false)], args := [d] }
  | _ => none }
def SlabUndoWrongFalsely : Prop := slabUndoRow.holds Try.pinned (OpenSpec.ofChange slabUndoWrong)

/- THE SECOND FORM. 'bulk': how many values and letters a reading holds, each counted each time it is reached (what is shared counts as often as it is met; a slice's spare places count too). A statement '..UptoSaid' is the law's where the arguments, and the package variables that the reading takes, are together of bulk at most 1048576: NARROWER than '..Said'. Prove '..Said' where nothing that the law and all that it calls make is longer than what came in: it says more and counts as full. Else prove '..UptoSaid'. A law counts once. -/
mutual
def uptoBulk {H : Type} : DataW H → Nat
  | .lit (.string bytes) => bytes.length + 1
  | .lit _ => 1
  | .nil => 1
  | .ptr d => uptoBulk d + 1
  | .slice elems spare => uptoBulkAll elems + uptoBulkAll spare + 1
  | .agg parts => uptoBulkAll parts + 1
  | .iface _ d => uptoBulk d + 1
  | .map entries => uptoBulkEntries entries + 1
  | .held _ => 1
def uptoBulkAll {H : Type} : List (DataW H) → Nat
  | [] => 0
  | d :: r => uptoBulk d + uptoBulkAll r
def uptoBulkEntries {H : Type} : List (Lit × DataW H) → Nat
  | [] => 0
  | x :: r => uptoBulkEntry x + uptoBulkEntries r
def uptoBulkEntry {H : Type} : Lit × DataW H → Nat
  | (.string bytes, d) => bytes.length + uptoBulk d + 1
  | (_, d) => uptoBulk d + 1
 end
def uptoSmall : (H : Type) → List (DataW H) → Bool := fun _ ds => decide (uptoBulkAll ds ≤ 1048576)
def OpenSpec.upto (s : _root_.Go.ChangeSpec) : _root_.Go.OpenSpec := { _root_.Go.OpenSpec.ofChange s with cond := some uptoSmall }

/-- 'headgatelaw12.SlabSplits', WHERE WHAT IT READS IS OF BULK AT MOST 1048576: true; the input reads as it did. -/
def slabSplitsUptoRow : OpenClaim := { program := "ytbhbddpebhccgaa", sum := "dd084b8f7d69b6cb7344ccc776223a267b07ab2132f34f3694d96159211c604a", func := "headgate/headgatelaw12.SlabSplits", spec := "slabSplits", apart := false, narrowed := true }
def SlabSplitsUptoSaid : Prop := slabSplitsUptoRow.holds Try.pinned (OpenSpec.upto slabSplitsSpec)

/-- 'headgatelaw12.SlabFills', WHERE WHAT IT READS IS OF BULK AT MOST 1048576: true; the input reads as it did. -/
def slabFillsUptoRow : OpenClaim := { program := "ytbhbddpebhccgaa", sum := "dd084b8f7d69b6cb7344ccc776223a267b07ab2132f34f3694d96159211c604a", func := "headgate/headgatelaw12.SlabFills", spec := "slabFills", apart := false, narrowed := true }
def SlabFillsUptoSaid : Prop := slabFillsUptoRow.holds Try.pinned (OpenSpec.upto slabFillsSpec)

/-- 'headgatelaw12.SlabSteps', WHERE WHAT IT READS IS OF BULK AT MOST 1048576: true; the input reads as it did. -/
def slabStepsUptoRow : OpenClaim := { program := "ytbhbddpebhccgaa", sum := "dd084b8f7d69b6cb7344ccc776223a267b07ab2132f34f3694d96159211c604a", func := "headgate/headgatelaw12.SlabSteps", spec := "slabSteps", unfollowed := true, recurses := true, apart := false, narrowed := true }
def SlabStepsUptoSaid : Prop := slabStepsUptoRow.holds Try.pinned (OpenSpec.upto slabStepsSpec)

/-- 'headgatelaw12.SlabUndo', WHERE WHAT IT READS IS OF BULK AT MOST 1048576: true; the input reads as it did. -/
def slabUndoUptoRow : OpenClaim := { program := "ytbhbddpebhccgaa", sum := "dd084b8f7d69b6cb7344ccc776223a267b07ab2132f34f3694d96159211c604a", func := "headgate/headgatelaw12.SlabUndo", spec := "slabUndo", unfollowed := true, recurses := true, apart := false, narrowed := true }
def SlabUndoUptoSaid : Prop := slabUndoUptoRow.holds Try.pinned (OpenSpec.upto slabUndoSpec)

end Rows
end Go.Proofs.Ytbhbddpebhccgaa
