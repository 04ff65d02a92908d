/- Known calls, looked at. -/
import Derived.KernelRfl
import Derived.Test.YtikefhdgnbhoaaaGreatDoorD2
set_option maxRecDepth 100000
namespace Go.Proofs.YtikefhdgnbhoaaaGreatDoor
noncomputable section
namespace Ev
theorem k_8 : allHold (mach Tryz.prog tab (ovM (mkM l_8 .e)) 48 100000) [c6337] = true := by kernel_rfl
theorem k_9 : allHold (mach Tryz.prog tab (ovM (mkM l_9 .e)) 48 100000) [c15657, c17119, c17130, c15656, c17143, c17142, c20354, c20577, c20576, c23566, c28409] = true := by kernel_rfl
end Ev
end
end Go.Proofs.YtikefhdgnbhoaaaGreatDoor
