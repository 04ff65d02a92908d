/- Known calls, looked at. -/
import Derived.KernelRfl
import Derived.Test.YtfhilhjdlkhilaaGreatDoorD
set_option maxRecDepth 100000
namespace Go.Proofs.YtfhilhjdlkhilaaGreatDoor
noncomputable section
namespace Ev
theorem k_1 : allHold (mach Tryz.prog tab (ovM (mkM l_1 .e)) 111 100000) [c10, c59, c320, c119, c345, c798] = true := by kernel_rfl
theorem k_2 : allHold (mach Tryz.prog tab (ovM (mkM l_2 .e)) 111 100000) [c405, c1443] = true := by kernel_rfl
end Ev
end
end Go.Proofs.YtfhilhjdlkhilaaGreatDoor
