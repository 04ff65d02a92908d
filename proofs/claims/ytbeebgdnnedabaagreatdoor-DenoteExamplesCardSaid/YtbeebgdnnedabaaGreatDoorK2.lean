/- Known calls, looked at. -/
import Derived.KernelRfl
import Derived.Test.YtbeebgdnnedabaaGreatDoorD
set_option maxRecDepth 100000
namespace Go.Proofs.YtbeebgdnnedabaaGreatDoor
noncomputable section
namespace Ev
theorem k_2 : allHold (mach Tryz.prog tab (ovM (mkM l_2 .e)) 58 100000) [c405, c1443] = true := by kernel_rfl
end Ev
end
end Go.Proofs.YtbeebgdnnedabaaGreatDoor
