/- Known calls, looked at. -/
import Derived.KernelRfl
import Derived.Test.YtfhilhjdlkhilaaGreatDoorD
set_option maxRecDepth 100000
namespace Go.Proofs.YtfhilhjdlkhilaaGreatDoor
noncomputable section
namespace Ev
theorem k_9 : allHold (mach Tryz.prog tab (ovM (mkM l_9 .e)) 111 100000) [c15459] = true := by kernel_rfl
theorem k_10 : allHold (mach Tryz.prog tab (ovM (mkM l_10 .e)) 111 100000) [c41378, c35226, c53894, c57008, c46014, c58671] = true := by kernel_rfl
end Ev
end
end Go.Proofs.YtfhilhjdlkhilaaGreatDoor
