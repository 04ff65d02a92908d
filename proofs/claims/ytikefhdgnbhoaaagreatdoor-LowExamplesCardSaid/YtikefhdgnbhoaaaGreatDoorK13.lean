/- Known calls, looked at. -/
import Derived.KernelRfl
import Derived.Test.YtikefhdgnbhoaaaGreatDoorD2
set_option maxRecDepth 100000
namespace Go.Proofs.YtikefhdgnbhoaaaGreatDoor
noncomputable section
namespace Ev
theorem k_24 : allHold (mach Tryz.prog tab (ovM (mkM l_24 .e)) 48 100000) [c157728] = true := by kernel_rfl
theorem k_25 : allHold (mach Tryz.prog tab (ovM (mkM l_25 .e)) 48 100000) [c240310, c341232, c342772, c344326, c355965, c355998] = true := by kernel_rfl
theorem q_258546 : allHold (panO Tryz.prog tab (ovM (mkM l_25 .e)) 48 100000 [0, 0, 1, 106, 187, 0, 0, 0, 1, 251, 187, 0, 0, 0, 1, 251, 187, 0, 0, 0, 1, 251, 187, 0, 0, 0, 1, 250, 0, 1, 294, 1, 340, 0, 0, 0, 0, 0, 0, 0, 0, 0, 0, 0, 0, 0, 0, 0, 0, 1, 106, 187, 0, 0, 0, 1, 251, 187, 0, 0, 0, 1, 251, 187, 0, 0, 0, 1, 251, 187, 0, 0, 0, 1, 250, 0, 1, 294, 1, 340, 0, 0, 0, 0, 0, 0, 0, 0, 0, 0, 0, 0, 0, 0, 0, 0, 0, 108, 0]) [c258546] = true := by kernel_rfl
end Ev
end
end Go.Proofs.YtikefhdgnbhoaaaGreatDoor
