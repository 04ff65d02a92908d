/- Known calls, looked at. -/
import Derived.KernelRfl
import Derived.Test.YtilnneogbpnkkaaGreatDoorD
set_option maxRecDepth 100000
namespace Go.Proofs.YtilnneogbpnkkaaGreatDoor
noncomputable section
namespace Ev
theorem k_10 : allHold (mach Tryz.prog tab (ovM (mkM l_10 .e)) 56 100000) [c18964, c19084, c19189, c18251] = true := by kernel_rfl
end Ev
end
end Go.Proofs.YtilnneogbpnkkaaGreatDoor
