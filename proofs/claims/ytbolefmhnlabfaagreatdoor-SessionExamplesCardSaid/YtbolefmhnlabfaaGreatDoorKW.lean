/- Walks over maps of five entries. -/
import Derived.KernelRfl
import Derived.Test.YtbolefmhnlabfaaGreatDoorDP
set_option maxRecDepth 100000
namespace Go.Proofs.YtbolefmhnlabfaaGreatDoor
noncomputable section
namespace Ev
theorem w_75989 : c75989.outs (lmCall Tryz.prog tab (waysI Tryz.prog tab (ovA Tryz.prog tab (ovM (mkM (l_1 ++ pm) .e)) 161 100000) 100000) c75989.g c75989.args c75989.s) = true := by kernel_rfl
theorem w_76452 : c76452.outs (lmCall Tryz.prog tab (waysI Tryz.prog tab (ovA Tryz.prog tab (ovM (mkM (l_1 ++ pm) .e)) 161 100000) 100000) c76452.g c76452.args c76452.s) = true := by kernel_rfl
end Ev
end
end Go.Proofs.YtbolefmhnlabfaaGreatDoor
