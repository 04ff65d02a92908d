/- The law, out of known calls. -/
import Derived.KernelRfl
import Derived.Test.YtmemadmjgcpobaaGreatDoorD
set_option maxRecDepth 100000
namespace Go.Proofs.YtmemadmjgcpobaaGreatDoor
noncomputable section
namespace Ev
theorem law : yes (mach Tryz.prog tab (withO (joinO 42) (ovM (mkM l_11 .e))) 82 100000 3 [] (H0 0)) = true := by kernel_rfl
end Ev
end
end Go.Proofs.YtmemadmjgcpobaaGreatDoor
