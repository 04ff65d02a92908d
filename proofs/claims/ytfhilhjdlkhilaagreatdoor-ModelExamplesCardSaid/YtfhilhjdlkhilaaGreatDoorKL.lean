/- The law, out of known calls. -/
import Derived.KernelRfl
import Derived.Test.YtfhilhjdlkhilaaGreatDoorD
set_option maxRecDepth 100000
namespace Go.Proofs.YtfhilhjdlkhilaaGreatDoor
noncomputable section
namespace Ev
theorem law : yes (mach Tryz.prog tab (ovM (mkM l_21 .e)) 111 100000 3 [] (H0 0)) = true := by kernel_rfl
end Ev
end
end Go.Proofs.YtfhilhjdlkhilaaGreatDoor
