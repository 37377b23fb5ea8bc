/-
  NARROWER THAN 'FOR EVERY INPUT', by the rows' own cells (each row's printed sentence says how): PoolMakes: laid · PoolChanges: laid · PoolLooks: laid · PoolKnown: laid · PoolBack: laid · PoolAll: laid.
  DERIVED. THE GIVEN ROWS OF THIS SEAT. 6 by the template 'for every input the law returns true; each argument reads behind the call as it read before'; 0 by the template 'total and deterministic' (their statements: YtompoghbdpfdjaaDoorTotals.lean).
  GIVEN WITH THE SEED: the statements are not yours to turn. If you find one false, say at which input.
  Laid BY PROGRAM, IN A SANDBOX (cutbox-rows.mjs): the forced cells as the released guide's own fill.sh prints them over the translation 622c85d62fa9c68e… (all of the seat's roots in one cut). By AI agents, Wed Nov 11 2026. No macro, syntax, notation, axiom, sorry.
-/
import Derived.Test.YtompoghbdpfdjaaDoorChecked
import GoSem.Claim
import GoSem.ClaimJoined
import GoSem.ClaimMapViews
import Derived.JoinedTies
import Derived.KernelRfl
namespace Go.Proofs.YtompoghbdpfdjaaDoor
/- THE CELL 'sum', in the pinned program and in every row, IS THE sha256 OF THE DUMP (.gsa) THAT YtompoghbdpfdjaaDoorProg.lean LOADS. Nothing in Lean hashes anything: it is a label: what it is worth is what the hold of that sum in a sandbox is worth. -/
noncomputable def Tryd.pinned : Pinned := { name := "ytompoghbdpfdjaadoor", sum := "622c85d62fa9c68e152373b3220822769d2be5ebef1bbf2f42b7dc2fa0f3c69b", checked := Tryd.checked }
namespace Rows
def none {H : Type} : Left H := { results := [], args := [] }

/- WHAT THE LISTED PACKAGE-LEVEL VARIABLES READ AS WHEN THE CALL BEGINS. Each datum BY PROGRAM (the guide's laid-datum.mjs) off the statement by which the dump's own 'gosem.cut.vars' lays the variable. In a bare row this is a premise. The card (YtompoghbdpfdjaaDoorCards.lean) ties it to the program's text. -/
def laid_math_bits_deBruijn32tab {H : Type} : DataW H := .agg [.lit (.int .u8 0), .lit (.int .u8 1), .lit (.int .u8 28), .lit (.int .u8 2), .lit (.int .u8 29), .lit (.int .u8 14), .lit (.int .u8 24), .lit (.int .u8 3), .lit (.int .u8 30), .lit (.int .u8 22), .lit (.int .u8 20), .lit (.int .u8 15), .lit (.int .u8 25), .lit (.int .u8 17), .lit (.int .u8 4), .lit (.int .u8 8), .lit (.int .u8 31), .lit (.int .u8 27), .lit (.int .u8 13), .lit (.int .u8 23), .lit (.int .u8 21), .lit (.int .u8 19), .lit (.int .u8 16), .lit (.int .u8 7), .lit (.int .u8 26), .lit (.int .u8 12), .lit (.int .u8 18), .lit (.int .u8 6), .lit (.int .u8 11), .lit (.int .u8 5), .lit (.int .u8 10), .lit (.int .u8 9)]

/-- 'headgatelaw14.PoolMakes': WHATEVER THE INPUT: true; the input reads as it did. -/
def poolMakesSpec : ChangeSpec := { name := "poolMakes", fn := fun _ => fun
  | [d] => { results := [.lit (.bool true)], args := [d] }
  | _ => none }
def poolMakesRow : OpenClaim := { program := "ytompoghbdpfdjaadoor", sum := "622c85d62fa9c68e152373b3220822769d2be5ebef1bbf2f42b7dc2fa0f3c69b", func := "headgate/headgatelaw14.PoolMakes", spec := "poolMakes", named := ["math/bits.deBruijn32tab"], apart := false, laid := [("math/bits.deBruijn32tab", laid_math_bits_deBruijn32tab)] }
def PoolMakesSaid : Prop := poolMakesRow.holds Tryd.pinned (OpenSpec.ofChange poolMakesSpec)

/-- ITS FALSE NEIGHBOUR: 'it returns false'. Refute it at one input. -/
def poolMakesWrong : ChangeSpec := { name := "poolMakes", fn := fun _ => fun
  | [d] => { results := [.lit (.bool false)], args := [d] }
  | _ => none }
def PoolMakesWrongFalsely : Prop := poolMakesRow.holds Tryd.pinned (OpenSpec.ofChange poolMakesWrong)

/-- 'headgatelaw14.PoolChanges': WHATEVER THE INPUT: true; the input reads as it did. -/
def poolChangesSpec : ChangeSpec := { name := "poolChanges", fn := fun _ => fun
  | [d1, d2] => { results := [.lit (.bool true)], args := [d1, d2] }
  | _ => none }
def poolChangesRow : OpenClaim := { program := "ytompoghbdpfdjaadoor", sum := "622c85d62fa9c68e152373b3220822769d2be5ebef1bbf2f42b7dc2fa0f3c69b", func := "headgate/headgatelaw14.PoolChanges", spec := "poolChanges", named := ["math/bits.deBruijn32tab"], apart := false, laid := [("math/bits.deBruijn32tab", laid_math_bits_deBruijn32tab)] }
def PoolChangesSaid : Prop := poolChangesRow.holds Tryd.pinned (OpenSpec.ofChange poolChangesSpec)

/-- ITS FALSE NEIGHBOUR: 'it returns false'. Refute it at one input. -/
def poolChangesWrong : ChangeSpec := { name := "poolChanges", fn := fun _ => fun
  | [d1, d2] => { results := [.lit (.bool false)], args := [d1, d2] }
  | _ => none }
def PoolChangesWrongFalsely : Prop := poolChangesRow.holds Tryd.pinned (OpenSpec.ofChange poolChangesWrong)

/-- 'headgatelaw14.PoolLooks': WHATEVER THE INPUT: true; the input reads as it did. -/
def poolLooksSpec : ChangeSpec := { name := "poolLooks", fn := fun _ => fun
  | [d1, d2] => { results := [.lit (.bool true)], args := [d1, d2] }
  | _ => none }
def poolLooksRow : OpenClaim := { program := "ytompoghbdpfdjaadoor", sum := "622c85d62fa9c68e152373b3220822769d2be5ebef1bbf2f42b7dc2fa0f3c69b", func := "headgate/headgatelaw14.PoolLooks", spec := "poolLooks", named := ["math/bits.deBruijn32tab"], apart := false, laid := [("math/bits.deBruijn32tab", laid_math_bits_deBruijn32tab)] }
def PoolLooksSaid : Prop := poolLooksRow.holds Tryd.pinned (OpenSpec.ofChange poolLooksSpec)

/-- ITS FALSE NEIGHBOUR: 'it returns false'. Refute it at one input. -/
def poolLooksWrong : ChangeSpec := { name := "poolLooks", fn := fun _ => fun
  | [d1, d2] => { results := [.lit (.bool false)], args := [d1, d2] }
  | _ => none }
def PoolLooksWrongFalsely : Prop := poolLooksRow.holds Tryd.pinned (OpenSpec.ofChange poolLooksWrong)

/-- 'headgatelaw14.PoolKnown': WHATEVER THE INPUT: true; the input reads as it did. -/
def poolKnownSpec : ChangeSpec := { name := "poolKnown", fn := fun _ => fun
  | [] => { results := [.lit (.bool true)], args := [] }
  | _ => none }
def poolKnownRow : OpenClaim := { program := "ytompoghbdpfdjaadoor", sum := "622c85d62fa9c68e152373b3220822769d2be5ebef1bbf2f42b7dc2fa0f3c69b", func := "headgate/headgatelaw14.PoolKnown", spec := "poolKnown", named := ["math/bits.deBruijn32tab"], apart := false, laid := [("math/bits.deBruijn32tab", laid_math_bits_deBruijn32tab)] }
def PoolKnownSaid : Prop := poolKnownRow.holds Tryd.pinned (OpenSpec.ofChange poolKnownSpec)

/-- ITS FALSE NEIGHBOUR: 'it returns false'. Refute it at one input. -/
def poolKnownWrong : ChangeSpec := { name := "poolKnown", fn := fun _ => fun
  | [] => { results := [.lit (.bool false)], args := [] }
  | _ => none }
def PoolKnownWrongFalsely : Prop := poolKnownRow.holds Tryd.pinned (OpenSpec.ofChange poolKnownWrong)

/-- 'headgatelaw14.PoolBack': WHATEVER THE INPUT: true; the input reads as it did. -/
def poolBackSpec : ChangeSpec := { name := "poolBack", fn := fun _ => fun
  | [d1, d2] => { results := [.lit (.bool true)], args := [d1, d2] }
  | _ => none }
def poolBackRow : OpenClaim := { program := "ytompoghbdpfdjaadoor", sum := "622c85d62fa9c68e152373b3220822769d2be5ebef1bbf2f42b7dc2fa0f3c69b", func := "headgate/headgatelaw14.PoolBack", spec := "poolBack", named := ["math/bits.deBruijn32tab"], apart := false, laid := [("math/bits.deBruijn32tab", laid_math_bits_deBruijn32tab)] }
def PoolBackSaid : Prop := poolBackRow.holds Tryd.pinned (OpenSpec.ofChange poolBackSpec)

/-- ITS FALSE NEIGHBOUR: 'it returns false'. Refute it at one input. -/
def poolBackWrong : ChangeSpec := { name := "poolBack", fn := fun _ => fun
  | [d1, d2] => { results := [.lit (.bool false)], args := [d1, d2] }
  | _ => none }
def PoolBackWrongFalsely : Prop := poolBackRow.holds Tryd.pinned (OpenSpec.ofChange poolBackWrong)

/-- 'headgatelaw14.PoolAll': WHATEVER THE INPUT: true; the input reads as it did. -/
def poolAllSpec : ChangeSpec := { name := "poolAll", fn := fun _ => fun
  | [d] => { results := [.lit (.bool true)], args := [d] }
  | _ => none }
def poolAllRow : OpenClaim := { program := "ytompoghbdpfdjaadoor", sum := "622c85d62fa9c68e152373b3220822769d2be5ebef1bbf2f42b7dc2fa0f3c69b", func := "headgate/headgatelaw14.PoolAll", spec := "poolAll", named := ["math/bits.deBruijn32tab"], apart := false, laid := [("math/bits.deBruijn32tab", laid_math_bits_deBruijn32tab)] }
def PoolAllSaid : Prop := poolAllRow.holds Tryd.pinned (OpenSpec.ofChange poolAllSpec)

/-- ITS FALSE NEIGHBOUR: 'it returns false'. Refute it at one input. -/
def poolAllWrong : ChangeSpec := { name := "poolAll", fn := fun _ => fun
  | [d] => { results := [.lit (.bool false)], args := [d] }
  | _ => none }
def PoolAllWrongFalsely : Prop := poolAllRow.holds Tryd.pinned (OpenSpec.ofChange poolAllWrong)

/- THE SECOND FORM. 'bulk': how many values and letters a reading holds, each counted each time it is reached (what is shared counts as often as it is met; a slice's spare places count too). A statement '..UptoSaid' is the law's where the arguments, and the package variables that the reading takes, are together of bulk at most 1048576: NARROWER than '..Said'. Prove '..Said' where nothing that the law and all that it calls make is longer than what came in: it says more and counts as full. Else prove '..UptoSaid'. A law counts once. -/
mutual
def uptoBulk {H : Type} : DataW H → Nat
  | .lit (.string bytes) => bytes.length + 1
  | .lit _ => 1
  | .nil => 1
  | .ptr d => uptoBulk d + 1
  | .slice elems spare => uptoBulkAll elems + uptoBulkAll spare + 1
  | .agg parts => uptoBulkAll parts + 1
  | .iface _ d => uptoBulk d + 1
  | .map entries => uptoBulkEntries entries + 1
  | .held _ => 1
def uptoBulkAll {H : Type} : List (DataW H) → Nat
  | [] => 0
  | d :: r => uptoBulk d + uptoBulkAll r
def uptoBulkEntries {H : Type} : List (Lit × DataW H) → Nat
  | [] => 0
  | x :: r => uptoBulkEntry x + uptoBulkEntries r
def uptoBulkEntry {H : Type} : Lit × DataW H → Nat
  | (.string bytes, d) => bytes.length + uptoBulk d + 1
  | (_, d) => uptoBulk d + 1
 end
def uptoSmall : (H : Type) → List (DataW H) → Bool := fun _ ds => decide (uptoBulkAll ds ≤ 1048576)
def OpenSpec.upto (s : _root_.Go.ChangeSpec) : _root_.Go.OpenSpec := { _root_.Go.OpenSpec.ofChange s with cond := some uptoSmall }

/-- 'headgatelaw14.PoolMakes', WHERE WHAT IT READS IS OF BULK AT MOST 1048576: true; the input reads as it did. -/
def poolMakesUptoRow : OpenClaim := { program := "ytompoghbdpfdjaadoor", sum := "622c85d62fa9c68e152373b3220822769d2be5ebef1bbf2f42b7dc2fa0f3c69b", func := "headgate/headgatelaw14.PoolMakes", spec := "poolMakes", named := ["math/bits.deBruijn32tab"], apart := false, laid := [("math/bits.deBruijn32tab", laid_math_bits_deBruijn32tab)], narrowed := true }
def PoolMakesUptoSaid : Prop := poolMakesUptoRow.holds Tryd.pinned (OpenSpec.upto poolMakesSpec)

/-- 'headgatelaw14.PoolChanges', WHERE WHAT IT READS IS OF BULK AT MOST 1048576: true; the input reads as it did. -/
def poolChangesUptoRow : OpenClaim := { program := "ytompoghbdpfdjaadoor", sum := "622c85d62fa9c68e152373b3220822769d2be5ebef1bbf2f42b7dc2fa0f3c69b", func := "headgate/headgatelaw14.PoolChanges", spec := "poolChanges", named := ["math/bits.deBruijn32tab"], apart := false, laid := [("math/bits.deBruijn32tab", laid_math_bits_deBruijn32tab)], narrowed := true }
def PoolChangesUptoSaid : Prop := poolChangesUptoRow.holds Tryd.pinned (OpenSpec.upto poolChangesSpec)

/-- 'headgatelaw14.PoolLooks', WHERE WHAT IT READS IS OF BULK AT MOST 1048576: true; the input reads as it did. -/
def poolLooksUptoRow : OpenClaim := { program := "ytompoghbdpfdjaadoor", sum := "622c85d62fa9c68e152373b3220822769d2be5ebef1bbf2f42b7dc2fa0f3c69b", func := "headgate/headgatelaw14.PoolLooks", spec := "poolLooks", named := ["math/bits.deBruijn32tab"], apart := false, laid := [("math/bits.deBruijn32tab", laid_math_bits_deBruijn32tab)], narrowed := true }
def PoolLooksUptoSaid : Prop := poolLooksUptoRow.holds Tryd.pinned (OpenSpec.upto poolLooksSpec)

/-- 'headgatelaw14.PoolKnown', WHERE WHAT IT READS IS OF BULK AT MOST 1048576: true; the input reads as it did. -/
def poolKnownUptoRow : OpenClaim := { program := "ytompoghbdpfdjaadoor", sum := "622c85d62fa9c68e152373b3220822769d2be5ebef1bbf2f42b7dc2fa0f3c69b", func := "headgate/headgatelaw14.PoolKnown", spec := "poolKnown", named := ["math/bits.deBruijn32tab"], apart := false, laid := [("math/bits.deBruijn32tab", laid_math_bits_deBruijn32tab)], narrowed := true }
def PoolKnownUptoSaid : Prop := poolKnownUptoRow.holds Tryd.pinned (OpenSpec.upto poolKnownSpec)

/-- 'headgatelaw14.PoolBack', WHERE WHAT IT READS IS OF BULK AT MOST 1048576: true; the input reads as it did. -/
def poolBackUptoRow : OpenClaim := { program := "ytompoghbdpfdjaadoor", sum := "622c85d62fa9c68e152373b3220822769d2be5ebef1bbf2f42b7dc2fa0f3c69b", func := "headgate/headgatelaw14.PoolBack", spec := "poolBack", named := ["math/bits.deBruijn32tab"], apart := false, laid := [("math/bits.deBruijn32tab", laid_math_bits_deBruijn32tab)], narrowed := true }
def PoolBackUptoSaid : Prop := poolBackUptoRow.holds Tryd.pinned (OpenSpec.upto poolBackSpec)

/-- 'headgatelaw14.PoolAll', WHERE WHAT IT READS IS OF BULK AT MOST 1048576: true; the input reads as it did. -/
def poolAllUptoRow : OpenClaim := { program := "ytompoghbdpfdjaadoor", sum := "622c85d62fa9c68e152373b3220822769d2be5ebef1bbf2f42b7dc2fa0f3c69b", func := "headgate/headgatelaw14.PoolAll", spec := "poolAll", named := ["math/bits.deBruijn32tab"], apart := false, laid := [("math/bits.deBruijn32tab", laid_math_bits_deBruijn32tab)], narrowed := true }
def PoolAllUptoSaid : Prop := poolAllUptoRow.holds Tryd.pinned (OpenSpec.upto poolAllSpec)

end Rows
end Go.Proofs.YtompoghbdpfdjaaDoor
