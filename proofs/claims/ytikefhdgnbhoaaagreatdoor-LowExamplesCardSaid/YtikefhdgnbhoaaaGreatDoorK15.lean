/- Known calls, looked at. -/
import Derived.KernelRfl
import Derived.Test.YtikefhdgnbhoaaaGreatDoorD2
set_option maxRecDepth 100000
namespace Go.Proofs.YtikefhdgnbhoaaaGreatDoor
noncomputable section
namespace Ev
theorem k_28 : allHold (mach Tryz.prog tab (ovM (mkM l_28 .e)) 48 100000) [c367622] = true := by kernel_rfl
theorem k_29 : allHold (mach Tryz.prog tab (ovM (mkM l_29 .e)) 48 100000) [c356093, c390084, c391639] = true := by kernel_rfl
end Ev
end
end Go.Proofs.YtikefhdgnbhoaaaGreatDoor
