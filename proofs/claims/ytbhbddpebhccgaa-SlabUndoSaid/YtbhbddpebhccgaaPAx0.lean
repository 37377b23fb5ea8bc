-- written by a program of this seat's prover out of the translation; Lean checks it
import Derived.Test.YtbhbddpebhccgaaProg
import Derived.Below
import Derived.Deep.Draws
import Derived.Deep.AppendLies
import Derived.Maps.AppendAt
import Derived.OwnWalk
import Derived.Laws.BytesArg
import Derived.Laws.MakeOwn
import Derived.Laws.OwnMore
import Derived.Deep.OwnRows
import Derived.Tactics
import Derived.Lib.ConvBytes
import Derived.Laws.Slices
import Derived.WalkKit
import Derived.KernelRfl
import Derived.RowKit3
import Derived.Deep.LoopGhost
import Derived.Deep.QuietTactic
import Derived.BigQuiet
import Derived.WideLaws
import Derived.Deep.DeepCutAuto
import Derived.Deep.CutBlock
import Derived.Deep.RegionHeld3
import Derived.Laws.Rows
import Derived.Lib.AppendStr
import Derived.ArgAppend
import Derived.Laws.IdiomCopy
import Derived.OrdersHeld
import Derived.Laws.BitsLemmas
import Derived.RowKit
import Derived.Test.YtbhbddpebhccgaaWWords
import Derived.Test.YtbhbddpebhccgaaWLast
import Derived.Test.YtbhbddpebhccgaaWTab
import Derived.Test.YtbhbddpebhccgaaWFour
import Derived.Test.YtbhbddpebhccgaaWQPut
import Derived.Test.YtbhbddpebhccgaaWApart
import Derived.Test.YtbhbddpebhccgaaWArr
import Derived.Test.YtbhbddpebhccgaaWZeros
import Derived.Test.YtbhbddpebhccgaaWFoot
import Derived.Test.YtbhbddpebhccgaaWKept
import Derived.Test.YtbhbddpebhccgaaWShare
import Derived.Test.YtbhbddpebhccgaaWN
import Derived.Test.YtbhbddpebhccgaaWFootNe
import Derived.Test.YtbhbddpebhccgaaWAt
import Derived.Test.YtbhbddpebhccgaaWEqStruct
import Derived.Test.YtbhbddpebhccgaaWRepsOne
import Derived.Test.YtbhbddpebhccgaaWInv
import Derived.Test.YtbhbddpebhccgaaWInvWords
import Derived.Test.YtbhbddpebhccgaaWGuard
import Derived.Test.YtbhbddpebhccgaaWNEv
import Derived.Test.YtbhbddpebhccgaaWMore
namespace Go.Proofs.Ytbhbddpebhccgaa.PA
open Go.RowKit Go.Proofs.YtbhbddpebhccgaaW.PrintWords Go.Proofs.YtbhbddpebhccgaaW.PrintLast Go.Proofs.YtbhbddpebhccgaaW.PrintMore
attribute [local go_sem] max2_int min2_int max_two min_two max_three min_three max_four min_four   -- for this text's walks alone
set_option linter.unusedVariables false
set_option linter.unusedSimpArgs false



def errW : Option Int → Value
  | none => .nilIface
  | some c => .iface 0 (.int .i64 c)
theorem errW_none : errW none = .nilIface := rfl
theorem errW_some (c : Int) : errW (some c) = .iface 0 (.int .i64 c) := rfl

theorem info3 : (Try.prog.info? 3).map (fun i => (i.zero, i.size, i.bytes)) = some (some (.int .i64 0), 1, 8) := by kernel_rfl
-- the values' own types

end Go.Proofs.Ytbhbddpebhccgaa.PA
