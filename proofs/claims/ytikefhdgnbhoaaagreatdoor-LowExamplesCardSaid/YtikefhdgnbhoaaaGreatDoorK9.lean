/- Known calls, looked at. -/
import Derived.KernelRfl
import Derived.Test.YtikefhdgnbhoaaaGreatDoorD2
set_option maxRecDepth 100000
namespace Go.Proofs.YtikefhdgnbhoaaaGreatDoor
noncomputable section
namespace Ev
theorem k_16 : allHold (mach Tryz.prog tab (ovM (mkM l_16 .e)) 48 100000) [c76545, c78083, c79624, c92811, c97283, c99057] = true := by kernel_rfl
theorem k_17 : allHold (mach Tryz.prog tab (ovM (mkM l_17 .e)) 48 100000) [c91296, c99953] = true := by kernel_rfl
end Ev
end
end Go.Proofs.YtikefhdgnbhoaaaGreatDoor
