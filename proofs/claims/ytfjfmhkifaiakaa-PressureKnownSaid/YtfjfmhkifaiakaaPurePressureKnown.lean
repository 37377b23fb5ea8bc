/- The pure statement of PressureKnown: no argument: it is reckoned. -/
import Derived.Test.YtfjfmhkifaiakaaPAx15
namespace Go.Proofs.Ytfjfmhkifaiakaa.Pure
open Go.RowKit Go.Proofs.Ytfjfmhkifaiakaa.PA
theorem PressureKnown : headgatelaw32_PressureKnown.Pure := ⟨80, by decide +kernel⟩
end Go.Proofs.Ytfjfmhkifaiakaa.Pure
