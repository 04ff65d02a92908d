/- Known calls, looked at. -/
import Derived.KernelRfl
import Derived.Test.YtfhilhjdlkhilaaGreatDoorD
set_option maxRecDepth 100000
namespace Go.Proofs.YtfhilhjdlkhilaaGreatDoor
noncomputable section
namespace Ev
theorem k_15 : allHold (mach Tryz.prog tab (ovM (mkM l_15 .e)) 111 100000) [c88647] = true := by kernel_rfl
theorem k_16 : allHold (mach Tryz.prog tab (ovM (mkM l_16 .e)) 111 100000) [c114822, c121252, c114827, c127535, c133970] = true := by kernel_rfl
end Ev
end
end Go.Proofs.YtfhilhjdlkhilaaGreatDoor
