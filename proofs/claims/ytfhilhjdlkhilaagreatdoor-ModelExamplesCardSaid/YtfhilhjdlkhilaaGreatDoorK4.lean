/- Known calls, looked at. -/
import Derived.KernelRfl
import Derived.Test.YtfhilhjdlkhilaaGreatDoorD
set_option maxRecDepth 100000
namespace Go.Proofs.YtfhilhjdlkhilaaGreatDoor
noncomputable section
namespace Ev
theorem k_7 : allHold (mach Tryz.prog tab (ovM (mkM l_7 .e)) 111 100000) [c34527, c34717, c34927] = true := by kernel_rfl
theorem k_8 : allHold (mach Tryz.prog tab (ovM (mkM l_8 .e)) 111 100000) [c34346] = true := by kernel_rfl
end Ev
end
end Go.Proofs.YtfhilhjdlkhilaaGreatDoor
