/- Known calls, looked at. -/
import Derived.KernelRfl
import Derived.Test.YtfhilhjdlkhilaaGreatDoorD
set_option maxRecDepth 100000
namespace Go.Proofs.YtfhilhjdlkhilaaGreatDoor
noncomputable section
namespace Ev
theorem k_17 : allHold (mach Tryz.prog tab (ovM (mkM l_17 .e)) 111 100000) [c127540, c138737, c145288] = true := by kernel_rfl
theorem k_18 : allHold (mach Tryz.prog tab (ovM (mkM l_18 .e)) 111 100000) [c138742, c150055, c150062] = true := by kernel_rfl
end Ev
end
end Go.Proofs.YtfhilhjdlkhilaaGreatDoor
