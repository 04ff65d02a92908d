/- Known calls, looked at. -/
import Derived.KernelRfl
import Derived.Test.YtfhilhjdlkhilaaGreatDoorD
set_option maxRecDepth 100000
namespace Go.Proofs.YtfhilhjdlkhilaaGreatDoor
noncomputable section
namespace Ev
theorem k_3 : allHold (mach Tryz.prog tab (ovM (mkM l_3 .e)) 111 100000) [c822] = true := by kernel_rfl
theorem k_4 : allHold (mach Tryz.prog tab (ovM (mkM l_4 .e)) 111 100000) [c8, c3086, c3401, c3845, c1503, c4567, c5, c4649, c4654, c4661, c4668, c6141, c7674, c10738, c10735, c10753, c10771, c10791] = true := by kernel_rfl
end Ev
end
end Go.Proofs.YtfhilhjdlkhilaaGreatDoor
