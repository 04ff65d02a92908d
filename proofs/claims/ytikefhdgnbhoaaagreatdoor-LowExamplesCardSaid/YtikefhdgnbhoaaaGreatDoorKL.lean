/- The law, out of known calls. -/
import Derived.KernelRfl
import Derived.Test.YtikefhdgnbhoaaaGreatDoorD2
set_option maxRecDepth 100000
namespace Go.Proofs.YtikefhdgnbhoaaaGreatDoor
noncomputable section
namespace Ev
theorem law : yes (mach Tryz.prog tab (ovM (mkM l_36 .e)) 48 100000 3 [] (H0 0)) = true := by kernel_rfl
end Ev
end
end Go.Proofs.YtikefhdgnbhoaaaGreatDoor
