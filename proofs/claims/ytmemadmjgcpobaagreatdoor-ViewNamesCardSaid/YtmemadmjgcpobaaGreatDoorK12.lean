/- Known calls, looked at. -/
import Derived.KernelRfl
import Derived.Test.YtmemadmjgcpobaaGreatDoorD
set_option maxRecDepth 100000
namespace Go.Proofs.YtmemadmjgcpobaaGreatDoor
noncomputable section
namespace Ev
theorem k_10 : allHold (mach Tryz.prog tab (withO (joinO 42) (ovM (mkM l_10 .e))) 82 100000) [c52857] = true := by kernel_rfl
end Ev
end
end Go.Proofs.YtmemadmjgcpobaaGreatDoor
