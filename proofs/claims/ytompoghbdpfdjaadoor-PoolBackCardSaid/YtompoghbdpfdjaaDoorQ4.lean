/- The walk of PoolBack. Condition: the table of math/bits as it is laid. -/
import Derived.Test.YtompoghbdpfdjaaDoorQ3
namespace Go.Proofs.YtompoghbdpfdjaaDoor
open Go.RowKit
set_option linter.unusedVariables false
theorem back_walk (a : Int) (wa : (Lit.int .i64 a).wf = true) (A : Option Addr) (len cap : Nat) (zs : List Int) (hb : cap * 8 ≤ 140737488351232) (W : World) (hz : IsRow .i64 W A len cap zs) (gc : GC W) :
    Calls Tryd.prog 7 #[.int .i64 a, .slice A len cap] W fun e w' => e = .returned (.bool true) ∧ Below W.heap.size W w' :=
  PA.headgatelaw14_PoolBack.walk PA.back_pure a A len cap zs W wa hz (by rcases hz with ⟨_, rfl, rfl, _⟩ | ⟨x, _, h, _⟩ <;> omega) gc
end Go.Proofs.YtompoghbdpfdjaaDoor
