/- Known calls, looked at. -/
import Derived.KernelRfl
import Derived.Test.YtbolefmhnlabfaaGreatDoorD
set_option maxRecDepth 100000
namespace Go.Proofs.YtbolefmhnlabfaaGreatDoor
noncomputable section
namespace Ev
theorem k_4 : allHold (mach Tryz.prog tab (ovM (mkM l_4 .e)) 161 100000) [c822] = true := by kernel_rfl
theorem k_5 : allHold (mach Tryz.prog tab (ovM (mkM l_5 .e)) 161 100000) [c8, c3086, c3401, c3845, c1503, c4567, c4641, c6114, c6129, c10683, c10753] = true := by kernel_rfl
end Ev
end
end Go.Proofs.YtbolefmhnlabfaaGreatDoor
