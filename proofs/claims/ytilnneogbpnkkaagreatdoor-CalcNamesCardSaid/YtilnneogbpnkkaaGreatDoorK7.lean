/- Known calls, looked at. -/
import Derived.KernelRfl
import Derived.Test.YtilnneogbpnkkaaGreatDoorD
set_option maxRecDepth 100000
namespace Go.Proofs.YtilnneogbpnkkaaGreatDoor
noncomputable section
namespace Ev
theorem k_7 : allHold (mach Tryz.prog tab (ovM (mkM l_7 .e)) 56 100000) [c6658, c6652, c9068, c15829, c15908] = true := by kernel_rfl
end Ev
end
end Go.Proofs.YtilnneogbpnkkaaGreatDoor
