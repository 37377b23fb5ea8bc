/- The pure statement of PressureLast. No condition beyond the row's own. -/
import Derived.Test.YtfjfmhkifaiakaaQ5
namespace Go.Proofs.Ytfjfmhkifaiakaa.Pure
open Go.RowKit Go.Proofs.Ytfjfmhkifaiakaa.PA
theorem PressureLast : headgatelaw32_PressureLast.Pure := last_pure
end Go.Proofs.Ytfjfmhkifaiakaa.Pure
