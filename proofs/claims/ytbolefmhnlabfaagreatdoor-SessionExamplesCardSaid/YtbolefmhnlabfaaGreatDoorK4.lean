/- Known calls, looked at. -/
import Derived.KernelRfl
import Derived.Test.YtbolefmhnlabfaaGreatDoorD
set_option maxRecDepth 100000
namespace Go.Proofs.YtbolefmhnlabfaaGreatDoor
noncomputable section
namespace Ev
theorem k_6 : allHold (mach Tryz.prog tab (ovM (mkM l_6 .e)) 161 100000) [c5] = true := by kernel_rfl
theorem k_7 : allHold (mach Tryz.prog tab (ovM (mkM l_7 .e)) 161 100000) [c11268, c14346, c14373, c14388, c14340, c14447, c19222, c19240, c19258, c19278, c19298, c19297, c20794] = true := by kernel_rfl
end Ev
end
end Go.Proofs.YtbolefmhnlabfaaGreatDoor
