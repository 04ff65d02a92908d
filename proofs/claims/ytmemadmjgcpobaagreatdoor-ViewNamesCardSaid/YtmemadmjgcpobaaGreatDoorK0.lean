/- Known calls, looked at. -/
import Derived.KernelRfl
import Derived.Test.YtmemadmjgcpobaaGreatDoorD
set_option maxRecDepth 100000
namespace Go.Proofs.YtmemadmjgcpobaaGreatDoor
noncomputable section
namespace Ev
theorem w_10515 : c10515.outs (lmCall Tryz.prog tab (waysM Tryz.prog tab (ovA Tryz.prog tab (withO (joinO 42) (ovM (mkM l_0 .e))) 82 100000) 100000 (.n (.n (.n (.n (.n .e (some false) .e) (some false) .e) (some true) (.n (.n .e (some false) .e) (some true) .e)) (some false) (.n (.n (.n .e (some false) .e) (some false) .e) (some false) (.n (.n .e (some false) .e) (some false) .e))) (some false) (.n (.n (.n (.n .e (some false) .e) (some false) .e) (some false) (.n (.n .e (some false) .e) (some false) .e)) (some false) (.n (.n (.n .e (some false) .e) (some false) .e) (some false) (.n (.n .e (some false) .e) (some false) .e)))) []) c10515.g c10515.args c10515.s) = true := by kernel_rfl
theorem w_10941 : c10941.outs (lmCall Tryz.prog tab (waysM Tryz.prog tab (ovA Tryz.prog tab (withO (joinO 42) (ovM (mkM l_0 .e))) 82 100000) 100000 (.n (.n (.n (.n (.n .e (some false) .e) (some false) (.n .e (some false) .e)) (some false) (.n (.n .e (some false) .e) (some false) (.n .e (some false) .e))) (some true) (.n (.n (.n .e (some false) .e) (some false) (.n .e (some false) .e)) (some true) (.n (.n .e (some false) .e) (some false) (.n .e (some false) .e)))) (some false) (.n (.n (.n (.n .e (some false) .e) (some false) (.n .e (some false) .e)) (some false) (.n (.n .e (some false) .e) (some true) (.n .e (some false) .e))) (some false) (.n (.n (.n .e (some false) .e) (some false) (.n .e (some false) .e)) (some false) (.n (.n .e (some false) .e) (some false) .e)))) [0, 3]) c10941.g c10941.args c10941.s) = true := by kernel_rfl
end Ev
end
end Go.Proofs.YtmemadmjgcpobaaGreatDoor
