/- Known calls, looked at. -/
import Derived.KernelRfl
import Derived.Test.YtbeebgdnnedabaaGreatDoorD
set_option maxRecDepth 100000
namespace Go.Proofs.YtbeebgdnnedabaaGreatDoor
noncomputable section
namespace Ev
theorem k_8 : allHold (mach Tryz.prog tab (ovM (mkM l_8 .e)) 58 100000) [c16129, c15315, c16903, c21728, c21833] = true := by kernel_rfl
end Ev
end
end Go.Proofs.YtbeebgdnnedabaaGreatDoor
