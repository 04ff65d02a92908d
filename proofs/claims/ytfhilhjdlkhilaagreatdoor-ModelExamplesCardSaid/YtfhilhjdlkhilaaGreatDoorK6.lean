/- Known calls, looked at. -/
import Derived.KernelRfl
import Derived.Test.YtfhilhjdlkhilaaGreatDoorD
set_option maxRecDepth 100000
namespace Go.Proofs.YtfhilhjdlkhilaaGreatDoor
noncomputable section
namespace Ev
theorem k_11 : allHold (mach Tryz.prog tab (ovM (mkM l_11 .e)) 111 100000) [c63473, c76370] = true := by kernel_rfl
theorem k_12 : allHold (mach Tryz.prog tab (ovM (mkM l_12 .e)) 111 100000) [c57167] = true := by kernel_rfl
end Ev
end
end Go.Proofs.YtfhilhjdlkhilaaGreatDoor
