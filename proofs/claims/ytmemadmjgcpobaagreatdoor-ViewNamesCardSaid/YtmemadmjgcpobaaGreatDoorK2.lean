/- Known calls, looked at. -/
import Derived.KernelRfl
import Derived.Test.YtmemadmjgcpobaaGreatDoorD
set_option maxRecDepth 100000
namespace Go.Proofs.YtmemadmjgcpobaaGreatDoor
noncomputable section
namespace Ev
theorem k_3 : allHold (mach Tryz.prog tab (withO (joinO 42) (ovM (mkM l_3 .e))) 82 100000) [c827] = true := by kernel_rfl
theorem k_4 : allHold (mach Tryz.prog tab (withO (joinO 42) (ovM (mkM l_4 .e))) 82 100000) [c13, c12] = true := by kernel_rfl
end Ev
end
end Go.Proofs.YtmemadmjgcpobaaGreatDoor
