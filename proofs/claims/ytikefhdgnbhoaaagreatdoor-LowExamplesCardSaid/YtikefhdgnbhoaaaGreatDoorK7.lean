/- Known calls, looked at. -/
import Derived.KernelRfl
import Derived.Test.YtikefhdgnbhoaaaGreatDoorD2
set_option maxRecDepth 100000
namespace Go.Proofs.YtikefhdgnbhoaaaGreatDoor
noncomputable section
namespace Ev
theorem k_12 : allHold (mach Tryz.prog tab (ovM (mkM l_12 .e)) 48 100000) [c29605, c29776, c20574, c47157, c48648, c48655, c53788] = true := by kernel_rfl
theorem k_13 : allHold (mach Tryz.prog tab (ovM (mkM l_13 .e)) 48 100000) [c42402, c55281, c64960] = true := by kernel_rfl
end Ev
end
end Go.Proofs.YtikefhdgnbhoaaaGreatDoor
