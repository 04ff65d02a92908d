/- Known calls, looked at. -/
import Derived.KernelRfl
import Derived.Test.YtikefhdgnbhoaaaGreatDoorD2
set_option maxRecDepth 100000
namespace Go.Proofs.YtikefhdgnbhoaaaGreatDoor
noncomputable section
namespace Ev
theorem k_22 : allHold (mach Tryz.prog tab (ovM (mkM l_22 .e)) 48 100000) [c198225, c209855, c211376, c209861] = true := by kernel_rfl
theorem k_23 : allHold (mach Tryz.prog tab (ovM (mkM l_23 .e)) 48 100000) [c218512, c227177] = true := by kernel_rfl
end Ev
end
end Go.Proofs.YtikefhdgnbhoaaaGreatDoor
