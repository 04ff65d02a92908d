/- Known calls, looked at. -/
import Derived.KernelRfl
import Derived.Test.YtikefhdgnbhoaaaGreatDoorD2
set_option maxRecDepth 100000
namespace Go.Proofs.YtikefhdgnbhoaaaGreatDoor
noncomputable section
namespace Ev
theorem k_34 : allHold (mach Tryz.prog tab (ovM (mkM l_34 .e)) 48 100000) [c411097] = true := by kernel_rfl
theorem k_35 : allHold (mach Tryz.prog tab (ovM (mkM l_35 .e)) 48 100000) [c260147] = true := by kernel_rfl
end Ev
end
end Go.Proofs.YtikefhdgnbhoaaaGreatDoor
