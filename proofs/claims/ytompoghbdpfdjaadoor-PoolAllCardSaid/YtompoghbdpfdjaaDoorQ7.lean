/- The walk of PoolAll. Condition: the table of math/bits as it is laid. -/
import Derived.Test.YtompoghbdpfdjaaDoorQ5
namespace Go.Proofs.YtompoghbdpfdjaaDoor
open Go.RowKit
set_option linter.unusedVariables false
theorem all_walk (a : Int) (wa : (Lit.int .i64 a).wf = true) (W : World) (gc : GC W) : Calls Tryd.prog 8 #[.int .i64 a] W fun e w' => e = .returned (.bool true) ∧ Below W.heap.size W w' :=
  PA.headgatelaw14_PoolAll.walk PA.all_pure a W wa gc
end Go.Proofs.YtompoghbdpfdjaaDoor
