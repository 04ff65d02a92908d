/- A long loop, piece by piece. -/
import Derived.KernelRfl
import Derived.Test.YtmemadmjgcpobaaGreatDoorD
set_option maxRecDepth 100000
namespace Go.Proofs.YtmemadmjgcpobaaGreatDoor
noncomputable section
namespace Ev
theorem jc_4490_0 : chunk (fastO Tryz.prog tab (ovA Tryz.prog tab (withO (joinO 42) (ovM (mkM l_5 .e))) 82 100000) 100000) 44 jl_4490 342 (j_4490_0).st j_4490_1 jt_4490 = true := by kernel_rfl
theorem jc_4490_1 : chunk (fastO Tryz.prog tab (ovA Tryz.prog tab (withO (joinO 42) (ovM (mkM l_5 .e))) 82 100000) 100000) 44 jl_4490 342 (j_4490_1).st j_4490_2 jt_4490 = true := by kernel_rfl
theorem je_4490 : ends (fastO Tryz.prog tab (ovA Tryz.prog tab (withO (joinO 42) (ovM (mkM l_5 .e))) 82 100000) 100000) 44 jl_4490 (j_4490_2).st (.exit 0) j_4490_3 jt_4490 = true := by kernel_rfl
theorem jn_4490 : nOf Tryz.prog c4490.g c4490.args.length = 44 := by kernel_rfl
theorem w_4490 : c4490.outs (lmCall Tryz.prog tab (fun _ n cc s => spn (fastO Tryz.prog tab (ovA Tryz.prog tab (withO (joinO 42) (ovM (mkM l_5 .e))) 82 100000) 100000) (klO jt_4490 c4490.s.k j_4490_0 (.exit 0) j_4490_3) n [0, 0, 0, 0, 0, 1, 0, 0] cc s) c4490.g c4490.args c4490.s) = true := by kernel_rfl
end Ev
end
end Go.Proofs.YtmemadmjgcpobaaGreatDoor
