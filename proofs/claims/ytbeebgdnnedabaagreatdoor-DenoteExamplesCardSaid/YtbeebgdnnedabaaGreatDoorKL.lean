/- The law, out of known calls. -/
import Derived.KernelRfl
import Derived.Test.YtbeebgdnnedabaaGreatDoorD
set_option maxRecDepth 100000
namespace Go.Proofs.YtbeebgdnnedabaaGreatDoor
noncomputable section
namespace Ev
theorem law : yes (mach Tryz.prog tab (ovM (mkM l_11 .e)) 58 100000 3 [] (H0 0)) = true := by kernel_rfl
end Ev
end
end Go.Proofs.YtbeebgdnnedabaaGreatDoor
