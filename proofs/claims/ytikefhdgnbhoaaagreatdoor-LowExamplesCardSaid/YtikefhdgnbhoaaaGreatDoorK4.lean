/- Known calls, looked at. -/
import Derived.KernelRfl
import Derived.Test.YtikefhdgnbhoaaaGreatDoorD2
set_option maxRecDepth 100000
namespace Go.Proofs.YtikefhdgnbhoaaaGreatDoor
noncomputable section
namespace Ev
theorem k_6 : allHold (mach Tryz.prog tab (ovM (mkM l_6 .e)) 48 100000) [c12430, c12359, c12476, c12676, c12803, c12748, c12909, c12843, c12975, c12992, c13009, c13076, c13176, c13351] = true := by kernel_rfl
theorem k_7 : allHold (mach Tryz.prog tab (ovM (mkM l_7 .e)) 48 100000) [c13318, c13429, c14043] = true := by kernel_rfl
end Ev
end
end Go.Proofs.YtikefhdgnbhoaaaGreatDoor
