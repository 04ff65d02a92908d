/- That, looked at. -/
import Derived.KernelRfl
import Derived.Test.YtbolefmhnlabfaaGreatDoorDP
set_option maxRecDepth 100000
namespace Go.Proofs.YtbolefmhnlabfaaGreatDoor
noncomputable section
namespace Ev
theorem p_0 : allOut1 (mach Tryz.prog tab (ovM (mkM l_1 .e)) 161 100000) pm = true := by kernel_rfl
end Ev
end
end Go.Proofs.YtbolefmhnlabfaaGreatDoor
