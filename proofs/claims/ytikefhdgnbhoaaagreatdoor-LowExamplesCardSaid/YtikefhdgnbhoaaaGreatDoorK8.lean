/- Known calls, looked at. -/
import Derived.KernelRfl
import Derived.Test.YtikefhdgnbhoaaaGreatDoorD2
set_option maxRecDepth 100000
namespace Go.Proofs.YtikefhdgnbhoaaaGreatDoor
noncomputable section
namespace Ev
theorem k_14 : allHold (mach Tryz.prog tab (ovM (mkM l_14 .e)) 48 100000) [c53789, c65228, c66128, c67911] = true := by kernel_rfl
theorem k_15 : allHold (mach Tryz.prog tab (ovM (mkM l_15 .e)) 48 100000) [c65108, c70830] = true := by kernel_rfl
end Ev
end
end Go.Proofs.YtikefhdgnbhoaaaGreatDoor
