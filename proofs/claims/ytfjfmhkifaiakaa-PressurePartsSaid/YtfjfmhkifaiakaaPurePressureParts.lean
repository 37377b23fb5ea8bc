/- The pure statement of PressureParts. No condition beyond the row's own. -/
import Derived.Test.YtfjfmhkifaiakaaQ6
namespace Go.Proofs.Ytfjfmhkifaiakaa.Pure
open Go.RowKit Go.Proofs.Ytfjfmhkifaiakaa.PA
theorem PressureParts : headgatelaw32_PressureParts.Pure := parts_pure
end Go.Proofs.Ytfjfmhkifaiakaa.Pure
