/- Known calls, looked at. -/
import Derived.KernelRfl
import Derived.Test.YtbeebgdnnedabaaGreatDoorD
set_option maxRecDepth 100000
namespace Go.Proofs.YtbeebgdnnedabaaGreatDoor
noncomputable section
namespace Ev
theorem k_7 : allHold (mach Tryz.prog tab (ovM (mkM l_7 .e)) 58 100000) [c7502] = true := by kernel_rfl
end Ev
end
end Go.Proofs.YtbeebgdnnedabaaGreatDoor
