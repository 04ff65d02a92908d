/- Known calls, looked at. -/
import Derived.KernelRfl
import Derived.Test.YtikefhdgnbhoaaaGreatDoorD2
set_option maxRecDepth 100000
namespace Go.Proofs.YtikefhdgnbhoaaaGreatDoor
noncomputable section
namespace Ev
theorem k_18 : allHold (mach Tryz.prog tab (ovM (mkM l_18 .e)) 48 100000) [c108613] = true := by kernel_rfl
theorem k_19 : allHold (mach Tryz.prog tab (ovM (mkM l_19 .e)) 48 100000) [c39190] = true := by kernel_rfl
end Ev
end
end Go.Proofs.YtikefhdgnbhoaaaGreatDoor
