/- A long loop, piece by piece. -/
import Derived.KernelRfl
import Derived.Test.YtmemadmjgcpobaaGreatDoorD
set_option maxRecDepth 100000
namespace Go.Proofs.YtmemadmjgcpobaaGreatDoor
noncomputable section
namespace Ev
theorem jc_2995_12 : chunk (fastO Tryz.prog tab (ovA Tryz.prog tab (withO (joinO 42) (ovM (mkM l_9 .e))) 82 100000) 100000) 78 jl_2995 64 (j_2995_12).st j_2995_13 jt_2995 = true := by kernel_rfl
theorem jc_2995_13 : chunk (fastO Tryz.prog tab (ovA Tryz.prog tab (withO (joinO 42) (ovM (mkM l_9 .e))) 82 100000) 100000) 78 jl_2995 64 (j_2995_13).st j_2995_14 jt_2995 = true := by kernel_rfl
theorem jc_2995_14 : chunk (fastO Tryz.prog tab (ovA Tryz.prog tab (withO (joinO 42) (ovM (mkM l_9 .e))) 82 100000) 100000) 78 jl_2995 64 (j_2995_14).st j_2995_15 jt_2995 = true := by kernel_rfl
end Ev
end
end Go.Proofs.YtmemadmjgcpobaaGreatDoor
