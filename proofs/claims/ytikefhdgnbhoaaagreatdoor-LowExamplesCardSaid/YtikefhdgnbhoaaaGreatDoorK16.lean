/- Known calls, looked at. -/
import Derived.KernelRfl
import Derived.Test.YtikefhdgnbhoaaaGreatDoorD2
set_option maxRecDepth 100000
namespace Go.Proofs.YtikefhdgnbhoaaaGreatDoor
noncomputable section
namespace Ev
theorem k_30 : allHold (mach Tryz.prog tab (ovM (mkM l_30 .e)) 48 100000) [c395794] = true := by kernel_rfl
theorem k_31 : allHold (mach Tryz.prog tab (ovM (mkM l_31 .e)) 48 100000) [c394989] = true := by kernel_rfl
end Ev
end
end Go.Proofs.YtikefhdgnbhoaaaGreatDoor
