/- Known calls, looked at. -/
import Derived.KernelRfl
import Derived.Test.YtikefhdgnbhoaaaGreatDoorD2
set_option maxRecDepth 100000
namespace Go.Proofs.YtikefhdgnbhoaaaGreatDoor
noncomputable section
namespace Ev
theorem k_2 : allHold (mach Tryz.prog tab (ovM (mkM l_2 .e)) 48 100000) [c14, c63, c324, c123, c349, c781, c802] = true := by kernel_rfl
theorem k_3 : allHold (mach Tryz.prog tab (ovM (mkM l_3 .e)) 48 100000) [c409, c1447] = true := by kernel_rfl
end Ev
end
end Go.Proofs.YtikefhdgnbhoaaaGreatDoor
