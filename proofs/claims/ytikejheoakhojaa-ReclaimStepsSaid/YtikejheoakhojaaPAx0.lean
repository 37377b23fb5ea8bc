-- written by a program of this seat's prover out of the translation; Lean checks it
import Derived.Test.YtikejheoakhojaaProg
import Derived.Below
import Derived.Deep.Draws
import Derived.Deep.AppendLies
import Derived.Maps.AppendAt
import Derived.OwnWalk
import Derived.Laws.BytesArg
import Derived.Laws.MakeOwn
import Derived.Laws.OwnMore
import Derived.Deep.OwnRows
import Derived.Tactics
import Derived.Lib.ConvBytes
import Derived.Laws.Slices
import Derived.WalkKit
import Derived.KernelRfl
import Derived.RowKit3
import Derived.Deep.LoopGhost
import Derived.Deep.QuietTactic
import Derived.BigQuiet
import Derived.WideLaws
import Derived.Deep.DeepCutAuto
import Derived.Deep.CutBlock
import Derived.Deep.RegionHeld3
import Derived.Laws.Rows
import Derived.Lib.AppendStr
import Derived.ArgAppend
import Derived.Laws.IdiomCopy
import Derived.OrdersHeld
import Derived.Laws.BitsLemmas
import Derived.RowKit
import Derived.Test.YtikejheoakhojaaWWords
import Derived.Test.YtikejheoakhojaaWLast
import Derived.Test.YtikejheoakhojaaWTab
import Derived.Test.YtikejheoakhojaaWQPut
import Derived.Test.YtikejheoakhojaaWApart
import Derived.Test.YtikejheoakhojaaWArr
import Derived.Test.YtikejheoakhojaaWZeros
import Derived.Test.YtikejheoakhojaaWFoot
import Derived.Test.YtikejheoakhojaaWKept
import Derived.Test.YtikejheoakhojaaWShare
import Derived.Test.YtikejheoakhojaaWRepsOne
import Derived.Test.YtikejheoakhojaaWN
import Derived.Test.YtikejheoakhojaaWFootNe
import Derived.Test.YtikejheoakhojaaWAt
import Derived.Test.YtikejheoakhojaaWEqStruct
import Derived.Test.YtikejheoakhojaaWGuard
import Derived.Test.YtikejheoakhojaaWNEv
import Derived.Test.YtikejheoakhojaaWMore
namespace Go.Proofs.Ytikejheoakhojaa.PA
open Go.RowKit Go.Proofs.YtikejheoakhojaaW.PrintWords Go.Proofs.YtikejheoakhojaaW.PrintLast Go.Proofs.YtikejheoakhojaaW.PrintMore
attribute [local go_sem] max2_int min2_int max_two min_two max_three min_three max_four min_four   -- for this text's walks alone
set_option linter.unusedVariables false
set_option linter.unusedSimpArgs false



def errW : Option Int → Value
 | none => .nilIface
 | some c => .iface 0 (.int .i64 c)
theorem errW_none : errW none = .nilIface := rfl
theorem errW_some (c : Int) : errW (some c) = .iface 0 (.int .i64 c) := rfl

theorem info3 : (Try.prog.info? 3).map (fun i => (i.zero, i.size, i.bytes)) = some (some (.int .i64 0), 1, 8) := by kernel_rfl
-- the values' own types

end Go.Proofs.Ytikejheoakhojaa.PA
