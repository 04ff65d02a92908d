/- Known calls, looked at. -/
import Derived.KernelRfl
import Derived.Test.YtbeebgdnnedabaaGreatDoorD
set_option maxRecDepth 100000
namespace Go.Proofs.YtbeebgdnnedabaaGreatDoor
noncomputable section
namespace Ev
theorem k_6 : allHold (mach Tryz.prog tab (ovM (mkM l_6 .e)) 58 100000) [c6786, c6976, c7186, c14594] = true := by kernel_rfl
end Ev
end
end Go.Proofs.YtbeebgdnnedabaaGreatDoor
