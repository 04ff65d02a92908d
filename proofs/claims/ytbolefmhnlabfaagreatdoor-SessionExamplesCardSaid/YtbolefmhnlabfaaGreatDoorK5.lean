/- Known calls, looked at. -/
import Derived.KernelRfl
import Derived.Test.YtbolefmhnlabfaaGreatDoorD
set_option maxRecDepth 100000
namespace Go.Proofs.YtbolefmhnlabfaaGreatDoor
noncomputable section
namespace Ev
theorem k_8 : allHold (mach Tryz.prog tab (ovM (mkM l_8 .e)) 161 100000) [c19296, c24130, c24646, c34361, c34376, c34328, c34428] = true := by kernel_rfl
theorem k_9 : allHold (mach Tryz.prog tab (ovM (mkM l_9 .e)) 161 100000) [c34618, c34828, c34248] = true := by kernel_rfl
theorem w_38833 : c38833.outs (lmCall Tryz.prog tab (ways Tryz.prog tab (ovA Tryz.prog tab (ovM (mkM l_9 .e)) 161 100000) 100000 (.n (.n (.n (.n (.n (.n .e (some false) .e) (some false) .e) (some false) (.n (.n .e (some false) .e) (some false) .e)) (some true) (.n (.n (.n .e (some true) .e) (some true) .e) (some false) (.n (.n .e (some false) .e) (some false) .e))) (some false) (.n (.n (.n (.n .e (some false) .e) (some false) .e) (some false) (.n (.n .e (some false) .e) (some false) .e)) (some false) (.n (.n (.n .e (some false) .e) (some true) .e) (some false) (.n .e (some false) .e)))) (some false) (.n (.n (.n (.n (.n .e (some false) .e) (some false) .e) (some true) (.n (.n .e (some false) .e) (some false) .e)) (some false) (.n (.n (.n .e (some false) .e) (some true) .e) (some false) (.n (.n .e (some false) .e) (some false) .e))) (some true) (.n (.n (.n (.n .e (some false) .e) (some false) .e) (some false) (.n (.n .e (some false) .e) (some false) .e)) (some false) (.n (.n (.n .e (some false) .e) (some false) .e) (some false) (.n .e (some false) .e)))))) c38833.g c38833.args c38833.s) = true := by kernel_rfl
theorem w_38852 : c38852.outs (lmCall Tryz.prog tab (ways Tryz.prog tab (ovA Tryz.prog tab (ovM (mkM l_9 .e)) 161 100000) 100000 (.n (.n (.n (.n (.n (.n .e (some false) .e) (some false) .e) (some false) (.n (.n .e (some false) .e) (some false) .e)) (some true) (.n (.n (.n .e (some true) .e) (some true) .e) (some false) (.n (.n .e (some false) .e) (some false) .e))) (some false) (.n (.n (.n (.n .e (some false) .e) (some false) .e) (some false) (.n (.n .e (some false) .e) (some false) .e)) (some false) (.n (.n (.n .e (some false) .e) (some true) .e) (some false) (.n .e (some false) .e)))) (some false) (.n (.n (.n (.n (.n .e (some false) .e) (some false) .e) (some true) (.n (.n .e (some false) .e) (some false) .e)) (some false) (.n (.n (.n .e (some false) .e) (some true) .e) (some false) (.n (.n .e (some false) .e) (some false) .e))) (some true) (.n (.n (.n (.n .e (some false) .e) (some false) .e) (some false) (.n (.n .e (some false) .e) (some false) .e)) (some false) (.n (.n (.n .e (some false) .e) (some false) .e) (some false) (.n .e (some false) .e)))))) c38852.g c38852.args c38852.s) = true := by kernel_rfl
end Ev
end
end Go.Proofs.YtbolefmhnlabfaaGreatDoor
