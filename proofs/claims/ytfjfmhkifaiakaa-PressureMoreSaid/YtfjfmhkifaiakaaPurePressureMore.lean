/- The pure statement of PressureMore. No condition beyond the row's own. -/
import Derived.Test.YtfjfmhkifaiakaaQ4
namespace Go.Proofs.Ytfjfmhkifaiakaa.Pure
open Go.RowKit Go.Proofs.Ytfjfmhkifaiakaa.PA
theorem PressureMore : headgatelaw32_PressureMore.Pure := more_pure
end Go.Proofs.Ytfjfmhkifaiakaa.Pure
