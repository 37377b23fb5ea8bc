/- The walk of PoolKnown. Condition: the table of math/bits as it is laid. -/
import Derived.Test.YtompoghbdpfdjaaDoorM11
namespace Go.Proofs.YtompoghbdpfdjaaDoor
open Go.RowKit
set_option linter.unusedVariables false
theorem known_walk (W : World) (gc : GC W) : Calls Tryd.prog 6 #[] W fun e w' => e = .returned (.bool true) ∧ Below W.heap.size W w' := known_any W gc
end Go.Proofs.YtompoghbdpfdjaaDoor
