/- Known calls, looked at. -/
import Derived.KernelRfl
import Derived.Test.YtfhilhjdlkhilaaGreatDoorD
set_option maxRecDepth 100000
namespace Go.Proofs.YtfhilhjdlkhilaaGreatDoor
noncomputable section
namespace Ev
theorem k_5 : allHold (mach Tryz.prog tab (ovM (mkM l_5 .e)) 111 100000) [c6183, c10809, c4659, c15440, c21617, c21616, c33764, c33834, c33763] = true := by kernel_rfl
theorem k_6 : allHold (mach Tryz.prog tab (ovM (mkM l_6 .e)) 111 100000) [c33880, c34080, c34207, c34152, c34247, c34475, c34427, c34575] = true := by kernel_rfl
end Ev
end
end Go.Proofs.YtfhilhjdlkhilaaGreatDoor
