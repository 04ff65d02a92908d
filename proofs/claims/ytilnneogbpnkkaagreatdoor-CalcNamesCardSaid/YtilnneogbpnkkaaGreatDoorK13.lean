/- Known calls, looked at. -/
import Derived.KernelRfl
import Derived.Test.YtilnneogbpnkkaaGreatDoorD
set_option maxRecDepth 100000
namespace Go.Proofs.YtilnneogbpnkkaaGreatDoor
noncomputable section
namespace Ev
theorem k_13 : allHold (mach Tryz.prog tab (ovM (mkM l_13 .e)) 56 100000) [c9169] = true := by kernel_rfl
end Ev
end
end Go.Proofs.YtilnneogbpnkkaaGreatDoor
