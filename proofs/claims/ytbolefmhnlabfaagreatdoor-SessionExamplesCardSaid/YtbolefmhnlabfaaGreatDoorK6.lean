/- Known calls, looked at. -/
import Derived.KernelRfl
import Derived.Test.YtbolefmhnlabfaaGreatDoorD
set_option maxRecDepth 100000
namespace Go.Proofs.YtbolefmhnlabfaaGreatDoor
noncomputable section
namespace Ev
theorem k_10 : allHold (mach Tryz.prog tab (ovM (mkM l_10 .e)) 161 100000) [c23931] = true := by kernel_rfl
theorem k_11 : allHold (mach Tryz.prog tab (ovM (mkM l_11 .e)) 161 100000) [c12799, c40612, c40530, c45410, c45409] = true := by kernel_rfl
end Ev
end
end Go.Proofs.YtbolefmhnlabfaaGreatDoor
