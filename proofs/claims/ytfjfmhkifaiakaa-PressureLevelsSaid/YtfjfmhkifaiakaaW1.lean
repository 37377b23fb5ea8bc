/- PressureLevels as a walk: the printed contract at the closed form. No condition. -/
import Derived.Test.YtfjfmhkifaiakaaQ
namespace Go.Proofs.Ytfjfmhkifaiakaa
open Go.RowKit
theorem levels_walk (x0 : Int) (w0 : (Lit.int .i64 x0).wf = true) (x1 : Int) (w1 : (Lit.int .i64 x1).wf = true) (x2 : Int) (w2 : (Lit.int .i64 x2).wf = true) (b : Bool) (f : Int) (w3 : (Lit.int .i64 f).wf = true) (w : World) :
    Calls Try.prog 3 #[.agg #[.int .i64 x0, .int .i64 x1, .int .i64 x2], .bool b, .int .i64 f] w fun e w' => e = .returned (.bool true) ∧ Below w.heap.size w w' :=
  PA.headgatelaw32_PressureLevels.calls 100 x0 x1 x2 b f true w (PA.levels_pure x0 x1 x2 b f)
end Go.Proofs.Ytfjfmhkifaiakaa
