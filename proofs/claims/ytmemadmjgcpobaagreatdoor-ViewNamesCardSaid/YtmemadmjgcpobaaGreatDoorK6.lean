/- A long loop, piece by piece. -/
import Derived.KernelRfl
import Derived.Test.YtmemadmjgcpobaaGreatDoorD
set_option maxRecDepth 100000
namespace Go.Proofs.YtmemadmjgcpobaaGreatDoor
noncomputable section
namespace Ev
theorem jc_2995_0 : chunk (fastO Tryz.prog tab (ovA Tryz.prog tab (withO (joinO 42) (ovM (mkM l_9 .e))) 82 100000) 100000) 78 jl_2995 64 (j_2995_0).st j_2995_1 jt_2995 = true := by kernel_rfl
theorem jc_2995_1 : chunk (fastO Tryz.prog tab (ovA Tryz.prog tab (withO (joinO 42) (ovM (mkM l_9 .e))) 82 100000) 100000) 78 jl_2995 64 (j_2995_1).st j_2995_2 jt_2995 = true := by kernel_rfl
theorem jc_2995_2 : chunk (fastO Tryz.prog tab (ovA Tryz.prog tab (withO (joinO 42) (ovM (mkM l_9 .e))) 82 100000) 100000) 78 jl_2995 64 (j_2995_2).st j_2995_3 jt_2995 = true := by kernel_rfl
end Ev
end
end Go.Proofs.YtmemadmjgcpobaaGreatDoor
