/- Known calls, looked at. -/
import Derived.KernelRfl
import Derived.Test.YtbeebgdnnedabaaGreatDoorD
set_option maxRecDepth 100000
namespace Go.Proofs.YtbeebgdnnedabaaGreatDoor
noncomputable section
namespace Ev
theorem k_4 : allHold (mach Tryz.prog tab (ovM (mkM l_4 .e)) 58 100000) [c8, c1481, c1496, c6023, c6093, c6139, c6375, c6466, c6411] = true := by kernel_rfl
end Ev
end
end Go.Proofs.YtbeebgdnnedabaaGreatDoor
