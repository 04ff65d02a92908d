/- Known calls, looked at. -/
import Derived.KernelRfl
import Derived.Test.YtbolefmhnlabfaaGreatDoorD
set_option maxRecDepth 100000
namespace Go.Proofs.YtbolefmhnlabfaaGreatDoor
noncomputable section
namespace Ev
theorem k_16 : allHold (mach Tryz.prog tab (ovM (mkM l_16 .e)) 161 100000) [c70975, c76475, c76545, c76952, c77109, c89361] = true := by kernel_rfl
theorem k_17 : allHold (mach Tryz.prog tab (ovM (mkM l_17 .e)) 161 100000) [c88546] = true := by kernel_rfl
theorem w_93868 : c93868.outs (lmCall Tryz.prog tab (ways Tryz.prog tab (ovA Tryz.prog tab (ovM (mkM l_17 .e)) 161 100000) 100000 (.n (.n (.n (.n (.n (.n .e (some false) .e) (some false) .e) (some false) (.n (.n .e (some false) .e) (some false) .e)) (some true) (.n (.n (.n .e (some true) .e) (some true) .e) (some false) (.n (.n .e (some false) .e) (some false) .e))) (some false) (.n (.n (.n (.n .e (some false) .e) (some false) .e) (some false) (.n (.n .e (some false) .e) (some false) .e)) (some false) (.n (.n (.n .e (some false) .e) (some true) .e) (some false) (.n .e (some false) .e)))) (some false) (.n (.n (.n (.n (.n .e (some false) .e) (some false) .e) (some true) (.n (.n .e (some false) .e) (some false) .e)) (some false) (.n (.n (.n .e (some false) .e) (some true) .e) (some false) (.n (.n .e (some false) .e) (some false) .e))) (some true) (.n (.n (.n (.n .e (some false) .e) (some false) .e) (some false) (.n (.n .e (some false) .e) (some false) .e)) (some false) (.n (.n (.n .e (some false) .e) (some false) .e) (some false) (.n .e (some false) .e)))))) c93868.g c93868.args c93868.s) = true := by kernel_rfl
theorem w_93890 : c93890.outs (lmCall Tryz.prog tab (ways Tryz.prog tab (ovA Tryz.prog tab (ovM (mkM l_17 .e)) 161 100000) 100000 (.n (.n (.n (.n (.n (.n .e (some false) .e) (some false) .e) (some false) (.n (.n .e (some false) .e) (some false) .e)) (some true) (.n (.n (.n .e (some true) .e) (some true) .e) (some false) (.n (.n .e (some false) .e) (some false) .e))) (some false) (.n (.n (.n (.n .e (some false) .e) (some false) .e) (some false) (.n (.n .e (some false) .e) (some false) .e)) (some false) (.n (.n (.n .e (some false) .e) (some true) .e) (some false) (.n .e (some false) .e)))) (some false) (.n (.n (.n (.n (.n .e (some false) .e) (some false) .e) (some true) (.n (.n .e (some false) .e) (some false) .e)) (some false) (.n (.n (.n .e (some false) .e) (some true) .e) (some false) (.n (.n .e (some false) .e) (some false) .e))) (some true) (.n (.n (.n (.n .e (some false) .e) (some false) .e) (some false) (.n (.n .e (some false) .e) (some false) .e)) (some false) (.n (.n (.n .e (some false) .e) (some false) .e) (some false) (.n .e (some false) .e)))))) c93890.g c93890.args c93890.s) = true := by kernel_rfl
end Ev
end
end Go.Proofs.YtbolefmhnlabfaaGreatDoor
