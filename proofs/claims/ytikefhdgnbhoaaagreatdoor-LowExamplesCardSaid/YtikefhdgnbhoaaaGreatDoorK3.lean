/- Known calls, looked at. -/
import Derived.KernelRfl
import Derived.Test.YtikefhdgnbhoaaaGreatDoorD2
set_option maxRecDepth 100000
namespace Go.Proofs.YtikefhdgnbhoaaaGreatDoor
noncomputable section
namespace Ev
theorem k_4 : allHold (mach Tryz.prog tab (ovM (mkM l_4 .e)) 48 100000) [c826] = true := by kernel_rfl
theorem k_5 : allHold (mach Tryz.prog tab (ovM (mkM l_5 .e)) 48 100000) [c12, c11, c1512, c1574, c1571, c1647, c3180, c4818, c3267, c9416, c9731, c10175, c7833, c12360] = true := by kernel_rfl
end Ev
end
end Go.Proofs.YtikefhdgnbhoaaaGreatDoor
