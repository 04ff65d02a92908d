/- Known calls, looked at. -/
import Derived.KernelRfl
import Derived.Test.YtikefhdgnbhoaaaGreatDoorD2
set_option maxRecDepth 100000
namespace Go.Proofs.YtikefhdgnbhoaaaGreatDoor
noncomputable section
namespace Ev
theorem k_32 : allHold (mach Tryz.prog tab (ovM (mkM l_32 .e)) 48 100000) [c383460] = true := by kernel_rfl
theorem k_33 : allHold (mach Tryz.prog tab (ovM (mkM l_33 .e)) 48 100000) [c410841] = true := by kernel_rfl
end Ev
end
end Go.Proofs.YtikefhdgnbhoaaaGreatDoor
