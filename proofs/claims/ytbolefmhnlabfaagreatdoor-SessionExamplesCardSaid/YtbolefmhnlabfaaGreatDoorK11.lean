/- Known calls, looked at. -/
import Derived.KernelRfl
import Derived.Test.YtbolefmhnlabfaaGreatDoorD
set_option maxRecDepth 100000
namespace Go.Proofs.YtbolefmhnlabfaaGreatDoor
noncomputable section
namespace Ev
theorem k_20 : allHold (mach Tryz.prog tab (ovM (mkM l_20 .e)) 161 100000) [c102322, c105220, c105287] = true := by kernel_rfl
theorem k_21 : allHold (mach Tryz.prog tab (ovM (mkM l_21 .e)) 161 100000) [c93920] = true := by kernel_rfl
end Ev
end
end Go.Proofs.YtbolefmhnlabfaaGreatDoor
