/- Known calls, looked at. -/
import Derived.KernelRfl
import Derived.Test.YtikefhdgnbhoaaaGreatDoorD2
set_option maxRecDepth 100000
namespace Go.Proofs.YtikefhdgnbhoaaaGreatDoor
noncomputable section
namespace Ev
theorem k_10 : allHold (mach Tryz.prog tab (ovM (mkM l_10 .e)) 48 100000) [c28536, c28481, c28576, c28677, c28708, c28725, c28742, c29051, c29162] = true := by kernel_rfl
theorem k_11 : allHold (mach Tryz.prog tab (ovM (mkM l_11 .e)) 48 100000) [c28676, c29570, c29587] = true := by kernel_rfl
end Ev
end
end Go.Proofs.YtikefhdgnbhoaaaGreatDoor
