/- Known calls, looked at. -/
import Derived.KernelRfl
import Derived.Test.YtmemadmjgcpobaaGreatDoorD
set_option maxRecDepth 100000
namespace Go.Proofs.YtmemadmjgcpobaaGreatDoor
noncomputable section
namespace Ev
theorem k_6 : allHold (mach Tryz.prog tab (withO (joinO 42) (ovM (mkM l_6 .e))) 82 100000) [c10514, c10584, c11098] = true := by kernel_rfl
theorem k_7 : allHold (mach Tryz.prog tab (withO (joinO 42) (ovM (mkM l_7 .e))) 82 100000) [c11096] = true := by kernel_rfl
end Ev
end
end Go.Proofs.YtmemadmjgcpobaaGreatDoor
