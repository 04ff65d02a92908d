/- Known calls, looked at. -/
import Derived.KernelRfl
import Derived.Test.YtbolefmhnlabfaaGreatDoorD
set_option maxRecDepth 100000
namespace Go.Proofs.YtbolefmhnlabfaaGreatDoor
noncomputable section
namespace Ev
theorem k_22 : allHold (mach Tryz.prog tab (ovM (mkM l_22 .e)) 161 100000) [c115948, c114563] = true := by kernel_rfl
theorem k_23 : allHold (mach Tryz.prog tab (ovM (mkM l_23 .e)) 161 100000) [c118227, c164745] = true := by kernel_rfl
end Ev
end
end Go.Proofs.YtbolefmhnlabfaaGreatDoor
