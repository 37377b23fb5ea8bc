/-
  NARROWER THAN 'FOR EVERY INPUT', by the rows' own cells (each row's printed sentence says how): WoutRuns: laid · WoutEnds: laid · WoutEvents: laid · WoutLooks: laid · WoutOne: laid · WoutKnown: laid.
  DERIVED. THE GIVEN ROWS OF THIS SEAT. 6 by the template 'for every input the law returns true; each argument reads behind the call as it read before'; 0 by the template 'total and deterministic' (their statements: YtaklhokabnjjcaaDoorTotals.lean).
  GIVEN WITH THE SEED: the statements are not yours to turn. If you find one false, say at which input.
  Laid BY PROGRAM, IN A SANDBOX (cutbox-rows.mjs): the forced cells as the released guide's own fill.sh prints them over the translation aa739f9f53c346c0… (all of the seat's roots in one cut). By AI agents, Wed Nov 11 2026. No macro, syntax, notation, axiom, sorry.
-/
import Derived.Test.YtaklhokabnjjcaaDoorChecked
import GoSem.Claim
import GoSem.ClaimJoined
import GoSem.ClaimMapViews
import Derived.JoinedTies
import Derived.KernelRfl
namespace Go.Proofs.YtaklhokabnjjcaaDoor
/- THE CELL 'sum', in the pinned program and in every row, IS THE sha256 OF THE DUMP (.gsa) THAT YtaklhokabnjjcaaDoorProg.lean LOADS. Nothing in Lean hashes anything: it is a label: what it is worth is what the hold of that sum in a sandbox is worth. -/
noncomputable def Tryd.pinned : Pinned := { name := "ytaklhokabnjjcaadoor", sum := "aa739f9f53c346c03774fef7d43710ee409583981afcf63d060ac282bde0fc9c", checked := Tryd.checked }
namespace Rows
def none {H : Type} : Left H := { results := [], args := [] }

/- WHAT THE LISTED PACKAGE-LEVEL VARIABLES READ AS WHEN THE CALL BEGINS. Each datum BY PROGRAM (the guide's laid-datum.mjs) off the statement by which the dump's own 'gosem.cut.vars' lays the variable. In a bare row this is a premise. The card (YtaklhokabnjjcaaDoorCards.lean) ties it to the program's text. -/
def laid_headgate_headgatelaw20_claim {H : Type} : DataW H := .agg [.lit (.int .i64 4), .lit (.int .i64 3)]

/-- 'headgatelaw20.WoutRuns': WHATEVER THE INPUT: true; the input reads as it did. -/
def woutRunsSpec : ChangeSpec := { name := "woutRuns", fn := fun _ => fun
  | [d1, d2, d3] => { results := [.lit (.bool true)], args := [d1, d2, d3] }
  | _ => none }
def woutRunsRow : OpenClaim := { program := "ytaklhokabnjjcaadoor", sum := "aa739f9f53c346c03774fef7d43710ee409583981afcf63d060ac282bde0fc9c", func := "headgate/headgatelaw20.WoutRuns", spec := "woutRuns", named := ["headgate/headgatelaw20.claim"], apart := false, laid := [("headgate/headgatelaw20.claim", laid_headgate_headgatelaw20_claim)] }
def WoutRunsSaid : Prop := woutRunsRow.holds Tryd.pinned (OpenSpec.ofChange woutRunsSpec)

/-- ITS FALSE NEIGHBOUR: 'it returns false'. Refute it at one input. -/
def woutRunsWrong : ChangeSpec := { name := "woutRuns", fn := fun _ => fun
  | [d1, d2, d3] => { results := [.lit (.bool false)], args := [d1, d2, d3] }
  | _ => none }
def WoutRunsWrongFalsely : Prop := woutRunsRow.holds Tryd.pinned (OpenSpec.ofChange woutRunsWrong)

/-- 'headgatelaw20.WoutEnds': WHATEVER THE INPUT: true; the input reads as it did. -/
def woutEndsSpec : ChangeSpec := { name := "woutEnds", fn := fun _ => fun
  | [d1, d2] => { results := [.lit (.bool true)], args := [d1, d2] }
  | _ => none }
def woutEndsRow : OpenClaim := { program := "ytaklhokabnjjcaadoor", sum := "aa739f9f53c346c03774fef7d43710ee409583981afcf63d060ac282bde0fc9c", func := "headgate/headgatelaw20.WoutEnds", spec := "woutEnds", named := ["headgate/headgatelaw20.claim"], apart := false, laid := [("headgate/headgatelaw20.claim", laid_headgate_headgatelaw20_claim)] }
def WoutEndsSaid : Prop := woutEndsRow.holds Tryd.pinned (OpenSpec.ofChange woutEndsSpec)

/-- ITS FALSE NEIGHBOUR: 'it returns false'. Refute it at one input. -/
def woutEndsWrong : ChangeSpec := { name := "woutEnds", fn := fun _ => fun
  | [d1, d2] => { results := [.lit (.bool false)], args := [d1, d2] }
  | _ => none }
def WoutEndsWrongFalsely : Prop := woutEndsRow.holds Tryd.pinned (OpenSpec.ofChange woutEndsWrong)

/-- 'headgatelaw20.WoutEvents': WHATEVER THE INPUT: true; the input reads as it did. -/
def woutEventsSpec : ChangeSpec := { name := "woutEvents", fn := fun _ => fun
  | [d1, d2] => { results := [.lit (.bool true)], args := [d1, d2] }
  | _ => none }
def woutEventsRow : OpenClaim := { program := "ytaklhokabnjjcaadoor", sum := "aa739f9f53c346c03774fef7d43710ee409583981afcf63d060ac282bde0fc9c", func := "headgate/headgatelaw20.WoutEvents", spec := "woutEvents", named := ["headgate/headgatelaw20.claim"], apart := false, laid := [("headgate/headgatelaw20.claim", laid_headgate_headgatelaw20_claim)] }
def WoutEventsSaid : Prop := woutEventsRow.holds Tryd.pinned (OpenSpec.ofChange woutEventsSpec)

/-- ITS FALSE NEIGHBOUR: 'it returns false'. Refute it at one input. -/
def woutEventsWrong : ChangeSpec := { name := "woutEvents", fn := fun _ => fun
  | [d1, d2] => { results := [.lit (.bool false)], args := [d1, d2] }
  | _ => none }
def WoutEventsWrongFalsely : Prop := woutEventsRow.holds Tryd.pinned (OpenSpec.ofChange woutEventsWrong)

/-- 'headgatelaw20.WoutLooks': WHATEVER THE INPUT: true; the input reads as it did. -/
def woutLooksSpec : ChangeSpec := { name := "woutLooks", fn := fun _ => fun
  | [d] => { results := [.lit (.bool true)], args := [d] }
  | _ => none }
def woutLooksRow : OpenClaim := { program := "ytaklhokabnjjcaadoor", sum := "aa739f9f53c346c03774fef7d43710ee409583981afcf63d060ac282bde0fc9c", func := "headgate/headgatelaw20.WoutLooks", spec := "woutLooks", named := ["headgate/headgatelaw20.claim"], apart := false, laid := [("headgate/headgatelaw20.claim", laid_headgate_headgatelaw20_claim)] }
def WoutLooksSaid : Prop := woutLooksRow.holds Tryd.pinned (OpenSpec.ofChange woutLooksSpec)

/-- ITS FALSE NEIGHBOUR: 'it returns false'. Refute it at one input. -/
def woutLooksWrong : ChangeSpec := { name := "woutLooks", fn := fun _ => fun
  | [d] => { results := [.lit (.bool false)], args := [d] }
  | _ => none }
def WoutLooksWrongFalsely : Prop := woutLooksRow.holds Tryd.pinned (OpenSpec.ofChange woutLooksWrong)

/-- 'headgatelaw20.WoutOne': WHATEVER THE INPUT: true; the input reads as it did. -/
def woutOneSpec : ChangeSpec := { name := "woutOne", fn := fun _ => fun
  | [d1, d2] => { results := [.lit (.bool true)], args := [d1, d2] }
  | _ => none }
def woutOneRow : OpenClaim := { program := "ytaklhokabnjjcaadoor", sum := "aa739f9f53c346c03774fef7d43710ee409583981afcf63d060ac282bde0fc9c", func := "headgate/headgatelaw20.WoutOne", spec := "woutOne", named := ["headgate/headgatelaw20.claim"], apart := false, laid := [("headgate/headgatelaw20.claim", laid_headgate_headgatelaw20_claim)] }
def WoutOneSaid : Prop := woutOneRow.holds Tryd.pinned (OpenSpec.ofChange woutOneSpec)

/-- ITS FALSE NEIGHBOUR: 'it returns false'. Refute it at one input. -/
def woutOneWrong : ChangeSpec := { name := "woutOne", fn := fun _ => fun
  | [d1, d2] => { results := [.lit (.bool false)], args := [d1, d2] }
  | _ => none }
def WoutOneWrongFalsely : Prop := woutOneRow.holds Tryd.pinned (OpenSpec.ofChange woutOneWrong)

/-- 'headgatelaw20.WoutKnown': WHATEVER THE INPUT: true; the input reads as it did. -/
def woutKnownSpec : ChangeSpec := { name := "woutKnown", fn := fun _ => fun
  | [] => { results := [.lit (.bool true)], args := [] }
  | _ => none }
def woutKnownRow : OpenClaim := { program := "ytaklhokabnjjcaadoor", sum := "aa739f9f53c346c03774fef7d43710ee409583981afcf63d060ac282bde0fc9c", func := "headgate/headgatelaw20.WoutKnown", spec := "woutKnown", unfollowed := true, recurses := true, named := ["headgate/headgatelaw20.claim"], apart := false, laid := [("headgate/headgatelaw20.claim", laid_headgate_headgatelaw20_claim)] }
def WoutKnownSaid : Prop := woutKnownRow.holds Tryd.pinned (OpenSpec.ofChange woutKnownSpec)

/-- ITS FALSE NEIGHBOUR: 'it returns false'. Refute it at one input. -/
def woutKnownWrong : ChangeSpec := { name := "woutKnown", fn := fun _ => fun
  | [] => { results := [.lit (.bool false)], args := [] }
  | _ => none }
def WoutKnownWrongFalsely : Prop := woutKnownRow.holds Tryd.pinned (OpenSpec.ofChange woutKnownWrong)

/- THE SECOND FORM. 'bulk': how many values and letters a reading holds, each counted each time it is reached (what is shared counts as often as it is met; a slice's spare places count too). A statement '..UptoSaid' is the law's where the arguments, and the package variables that the reading takes, are together of bulk at most 1048576: NARROWER than '..Said'. Prove '..Said' where nothing that the law and all that it calls make is longer than what came in: it says more and counts as full. Else prove '..UptoSaid'. A law counts once. -/
mutual
def uptoBulk {H : Type} : DataW H → Nat
  | .lit (.string bytes) => bytes.length + 1
  | .lit _ => 1
  | .nil => 1
  | .ptr d => uptoBulk d + 1
  | .slice elems spare => uptoBulkAll elems + uptoBulkAll spare + 1
  | .agg parts => uptoBulkAll parts + 1
  | .iface _ d => uptoBulk d + 1
  | .map entries => uptoBulkEntries entries + 1
  | .held _ => 1
def uptoBulkAll {H : Type} : List (DataW H) → Nat
  | [] => 0
  | d :: r => uptoBulk d + uptoBulkAll r
def uptoBulkEntries {H : Type} : List (Lit × DataW H) → Nat
  | [] => 0
  | x :: r => uptoBulkEntry x + uptoBulkEntries r
def uptoBulkEntry {H : Type} : Lit × DataW H → Nat
  | (.string bytes, d) => bytes.length + uptoBulk d + 1
  | (_, d) => uptoBulk d + 1
 end
def uptoSmall : (H : Type) → List (DataW H) → Bool := fun _ ds => decide (uptoBulkAll ds ≤ 1048576)
def OpenSpec.upto (s : _root_.Go.ChangeSpec) : _root_.Go.OpenSpec := { _root_.Go.OpenSpec.ofChange s with cond := some uptoSmall }

/-- 'headgatelaw20.WoutRuns', WHERE WHAT IT READS IS OF BULK AT MOST 1048576: true; the input reads as it did. -/
def woutRunsUptoRow : OpenClaim := { program := "ytaklhokabnjjcaadoor", sum := "aa739f9f53c346c03774fef7d43710ee409583981afcf63d060ac282bde0fc9c", func := "headgate/headgatelaw20.WoutRuns", spec := "woutRuns", named := ["headgate/headgatelaw20.claim"], apart := false, laid := [("headgate/headgatelaw20.claim", laid_headgate_headgatelaw20_claim)], narrowed := true }
def WoutRunsUptoSaid : Prop := woutRunsUptoRow.holds Tryd.pinned (OpenSpec.upto woutRunsSpec)

/-- 'headgatelaw20.WoutEnds', WHERE WHAT IT READS IS OF BULK AT MOST 1048576: true; the input reads as it did. -/
def woutEndsUptoRow : OpenClaim := { program := "ytaklhokabnjjcaadoor", sum := "aa739f9f53c346c03774fef7d43710ee409583981afcf63d060ac282bde0fc9c", func := "headgate/headgatelaw20.WoutEnds", spec := "woutEnds", named := ["headgate/headgatelaw20.claim"], apart := false, laid := [("headgate/headgatelaw20.claim", laid_headgate_headgatelaw20_claim)], narrowed := true }
def WoutEndsUptoSaid : Prop := woutEndsUptoRow.holds Tryd.pinned (OpenSpec.upto woutEndsSpec)

/-- 'headgatelaw20.WoutEvents', WHERE WHAT IT READS IS OF BULK AT MOST 1048576: true; the input reads as it did. -/
def woutEventsUptoRow : OpenClaim := { program := "ytaklhokabnjjcaadoor", sum := "aa739f9f53c346c03774fef7d43710ee409583981afcf63d060ac282bde0fc9c", func := "headgate/headgatelaw20.WoutEvents", spec := "woutEvents", named := ["headgate/headgatelaw20.claim"], apart := false, laid := [("headgate/headgatelaw20.claim", laid_headgate_headgatelaw20_claim)], narrowed := true }
def WoutEventsUptoSaid : Prop := woutEventsUptoRow.holds Tryd.pinned (OpenSpec.upto woutEventsSpec)

/-- 'headgatelaw20.WoutLooks', WHERE WHAT IT READS IS OF BULK AT MOST 1048576: true; the input reads as it did. -/
def woutLooksUptoRow : OpenClaim := { program := "ytaklhokabnjjcaadoor", sum := "aa739f9f53c346c03774fef7d43710ee409583981afcf63d060ac282bde0fc9c", func := "headgate/headgatelaw20.WoutLooks", spec := "woutLooks", named := ["headgate/headgatelaw20.claim"], apart := false, laid := [("headgate/headgatelaw20.claim", laid_headgate_headgatelaw20_claim)], narrowed := true }
def WoutLooksUptoSaid : Prop := woutLooksUptoRow.holds Tryd.pinned (OpenSpec.upto woutLooksSpec)

/-- 'headgatelaw20.WoutOne', WHERE WHAT IT READS IS OF BULK AT MOST 1048576: true; the input reads as it did. -/
def woutOneUptoRow : OpenClaim := { program := "ytaklhokabnjjcaadoor", sum := "aa739f9f53c346c03774fef7d43710ee409583981afcf63d060ac282bde0fc9c", func := "headgate/headgatelaw20.WoutOne", spec := "woutOne", named := ["headgate/headgatelaw20.claim"], apart := false, laid := [("headgate/headgatelaw20.claim", laid_headgate_headgatelaw20_claim)], narrowed := true }
def WoutOneUptoSaid : Prop := woutOneUptoRow.holds Tryd.pinned (OpenSpec.upto woutOneSpec)

/-- 'headgatelaw20.WoutKnown', WHERE WHAT IT READS IS OF BULK AT MOST 1048576: true; the input reads as it did. -/
def woutKnownUptoRow : OpenClaim := { program := "ytaklhokabnjjcaadoor", sum := "aa739f9f53c346c03774fef7d43710ee409583981afcf63d060ac282bde0fc9c", func := "headgate/headgatelaw20.WoutKnown", spec := "woutKnown", unfollowed := true, recurses := true, named := ["headgate/headgatelaw20.claim"], apart := false, laid := [("headgate/headgatelaw20.claim", laid_headgate_headgatelaw20_claim)], narrowed := true }
def WoutKnownUptoSaid : Prop := woutKnownUptoRow.holds Tryd.pinned (OpenSpec.upto woutKnownSpec)

end Rows
end Go.Proofs.YtaklhokabnjjcaaDoor
