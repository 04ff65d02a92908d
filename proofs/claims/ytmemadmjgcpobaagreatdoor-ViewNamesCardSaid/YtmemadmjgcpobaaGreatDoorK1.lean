/- Known calls, looked at. -/
import Derived.KernelRfl
import Derived.Test.YtmemadmjgcpobaaGreatDoorD
set_option maxRecDepth 100000
namespace Go.Proofs.YtmemadmjgcpobaaGreatDoor
noncomputable section
namespace Ev
theorem k_1 : allHold (mach Tryz.prog tab (withO (joinO 42) (ovM (mkM l_1 .e))) 82 100000) [c15, c64, c325, c124, c350, c803] = true := by kernel_rfl
theorem k_2 : allHold (mach Tryz.prog tab (withO (joinO 42) (ovM (mkM l_2 .e))) 82 100000) [c410, c1448] = true := by kernel_rfl
end Ev
end
end Go.Proofs.YtmemadmjgcpobaaGreatDoor
