/- Known calls, looked at. -/
import Derived.KernelRfl
import Derived.Test.YtikefhdgnbhoaaaGreatDoorD2
set_option maxRecDepth 100000
namespace Go.Proofs.YtikefhdgnbhoaaaGreatDoor
noncomputable section
namespace Ev
theorem k_20 : allHold (mach Tryz.prog tab (ovM (mkM l_20 .e)) 48 100000) [c134895, c152013] = true := by kernel_rfl
theorem k_21 : allHold (mach Tryz.prog tab (ovM (mkM l_21 .e)) 48 100000) [c120285, c160721, c195137, c196648, c195142, c196680] = true := by kernel_rfl
end Ev
end
end Go.Proofs.YtikefhdgnbhoaaaGreatDoor
