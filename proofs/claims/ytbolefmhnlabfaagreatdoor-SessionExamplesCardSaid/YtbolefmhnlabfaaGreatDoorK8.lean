/- Known calls, looked at. -/
import Derived.KernelRfl
import Derived.Test.YtbolefmhnlabfaaGreatDoorD
set_option maxRecDepth 100000
namespace Go.Proofs.YtbolefmhnlabfaaGreatDoor
noncomputable section
namespace Ev
theorem k_14 : allHold (mach Tryz.prog tab (ovM (mkM l_14 .e)) 161 100000) [c38883] = true := by kernel_rfl
theorem k_15 : allHold (mach Tryz.prog tab (ovM (mkM l_15 .e)) 161 100000) [c65825, c65792, c65981, c65899, c70977, c70976, c72628] = true := by kernel_rfl
end Ev
end
end Go.Proofs.YtbolefmhnlabfaaGreatDoor
