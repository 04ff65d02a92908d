/- Known calls, looked at. -/
import Derived.KernelRfl
import Derived.Test.YtfhilhjdlkhilaaGreatDoorD
set_option maxRecDepth 100000
namespace Go.Proofs.YtfhilhjdlkhilaaGreatDoor
noncomputable section
namespace Ev
theorem k_19 : allHold (mach Tryz.prog tab (ovM (mkM l_19 .e)) 111 100000) [c150060, c161164, c161169, c161177, c161198, c165836, c165844] = true := by kernel_rfl
theorem k_20 : allHold (mach Tryz.prog tab (ovM (mkM l_20 .e)) 111 100000) [c165851] = true := by kernel_rfl
end Ev
end
end Go.Proofs.YtfhilhjdlkhilaaGreatDoor
