/- Known calls, looked at. -/
import Derived.KernelRfl
import Derived.Test.YtbolefmhnlabfaaGreatDoorD
set_option maxRecDepth 100000
namespace Go.Proofs.YtbolefmhnlabfaaGreatDoor
noncomputable section
namespace Ev
theorem k_12 : allHold (mach Tryz.prog tab (ovM (mkM l_12 .e)) 161 100000) [c46959, c45408, c50576, c50590, c50774, c50883] = true := by kernel_rfl
theorem k_13 : allHold (mach Tryz.prog tab (ovM (mkM l_13 .e)) 161 100000) [c61525] = true := by kernel_rfl
theorem w_64160 : c64160.outs (lmCall Tryz.prog tab (ways Tryz.prog tab (ovA Tryz.prog tab (ovM (mkM l_13 .e)) 161 100000) 100000 (.n (.n (.n (.n (.n (.n .e (some false) .e) (some false) .e) (some false) (.n (.n .e (some false) .e) (some false) .e)) (some true) (.n (.n (.n .e (some true) .e) (some true) .e) (some false) (.n (.n .e (some false) .e) (some false) .e))) (some false) (.n (.n (.n (.n .e (some false) .e) (some false) .e) (some false) (.n (.n .e (some false) .e) (some false) .e)) (some false) (.n (.n (.n .e (some false) .e) (some true) .e) (some false) (.n .e (some false) .e)))) (some false) (.n (.n (.n (.n (.n .e (some false) .e) (some false) .e) (some true) (.n (.n .e (some false) .e) (some false) .e)) (some false) (.n (.n (.n .e (some false) .e) (some true) .e) (some false) (.n (.n .e (some false) .e) (some false) .e))) (some true) (.n (.n (.n (.n .e (some false) .e) (some false) .e) (some false) (.n (.n .e (some false) .e) (some false) .e)) (some false) (.n (.n (.n .e (some false) .e) (some false) .e) (some false) (.n .e (some false) .e)))))) c64160.g c64160.args c64160.s) = true := by kernel_rfl
end Ev
end
end Go.Proofs.YtbolefmhnlabfaaGreatDoor
