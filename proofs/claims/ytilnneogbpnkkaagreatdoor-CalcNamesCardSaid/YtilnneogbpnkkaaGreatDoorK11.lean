/- Known calls, looked at. -/
import Derived.KernelRfl
import Derived.Test.YtilnneogbpnkkaaGreatDoorD
set_option maxRecDepth 100000
namespace Go.Proofs.YtilnneogbpnkkaaGreatDoor
noncomputable section
namespace Ev
theorem k_11 : allHold (mach Tryz.prog tab (ovM (mkM l_11 .e)) 56 100000) [c19237, c19975, c20084, c20627] = true := by kernel_rfl
end Ev
end
end Go.Proofs.YtilnneogbpnkkaaGreatDoor
