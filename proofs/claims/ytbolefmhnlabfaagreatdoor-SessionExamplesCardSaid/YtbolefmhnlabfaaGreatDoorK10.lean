/- Known calls, looked at. -/
import Derived.KernelRfl
import Derived.Test.YtbolefmhnlabfaaGreatDoorD
set_option maxRecDepth 100000
namespace Go.Proofs.YtbolefmhnlabfaaGreatDoor
noncomputable section
namespace Ev
theorem k_18 : allHold (mach Tryz.prog tab (ovM (mkM l_18 .e)) 161 100000) [c76119] = true := by kernel_rfl
theorem k_19 : allHold (mach Tryz.prog tab (ovM (mkM l_19 .e)) 161 100000) [c64187, c95638, c95605, c100984] = true := by kernel_rfl
end Ev
end
end Go.Proofs.YtbolefmhnlabfaaGreatDoor
