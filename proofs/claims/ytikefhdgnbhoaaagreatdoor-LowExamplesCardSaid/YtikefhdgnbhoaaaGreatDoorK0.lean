/- Known calls, looked at. -/
import Derived.KernelRfl
import Derived.Test.YtikefhdgnbhoaaaGreatDoorD2
set_option maxRecDepth 100000
namespace Go.Proofs.YtikefhdgnbhoaaaGreatDoor
noncomputable section
namespace Ev
theorem i_900000 : (allDiff (c900000.up.map (·.1)) && c900000.out1 ((mach Tryz.prog tab (ovM (mkM l_0 .e)) 48 100000) c900000.g c900000.args c900000.s)) = true := by kernel_rfl
theorem i_900001 : (allDiff (c900001.up.map (·.1)) && c900001.out1 ((mach Tryz.prog tab (ovM (mkM l_0 .e)) 48 100000) c900001.g c900001.args c900001.s)) = true := by kernel_rfl
theorem i_900002 : (allDiff (c900002.up.map (·.1)) && c900002.out1 ((mach Tryz.prog tab (ovM (mkM l_0 .e)) 48 100000) c900002.g c900002.args c900002.s)) = true := by kernel_rfl
theorem i_900003 : c900003.two (mach Tryz.prog tab (ovM (mkM l_0 .e)) 48 100000) 3 0 6 3 [.int .i64 5, sl 4 0 1 1] = true := by kernel_rfl
theorem i_900004 : c900004.two (mach Tryz.prog tab (ovM (mkM l_0 .e)) 48 100000) 3 0 6 3 [.int .i64 5, sl 4 0 1 1] = true := by kernel_rfl
end Ev
end
end Go.Proofs.YtikefhdgnbhoaaaGreatDoor
