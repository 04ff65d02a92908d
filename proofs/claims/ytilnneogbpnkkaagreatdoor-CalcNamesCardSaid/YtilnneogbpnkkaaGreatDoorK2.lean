/- Known calls, looked at. -/
import Derived.KernelRfl
import Derived.Test.YtilnneogbpnkkaaGreatDoorD
set_option maxRecDepth 100000
namespace Go.Proofs.YtilnneogbpnkkaaGreatDoor
noncomputable section
namespace Ev
theorem k_2 : allHold (mach Tryz.prog tab (ovM (mkM l_2 .e)) 56 100000) [c32, c81, c342, c141, c367, c820] = true := by kernel_rfl
end Ev
end
end Go.Proofs.YtilnneogbpnkkaaGreatDoor
