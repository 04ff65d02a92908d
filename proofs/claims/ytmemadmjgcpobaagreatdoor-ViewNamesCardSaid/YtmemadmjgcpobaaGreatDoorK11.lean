/- A long loop, piece by piece. -/
import Derived.KernelRfl
import Derived.Test.YtmemadmjgcpobaaGreatDoorD
set_option maxRecDepth 100000
namespace Go.Proofs.YtmemadmjgcpobaaGreatDoor
noncomputable section
namespace Ev
theorem jc_2995_15 : chunk (fastO Tryz.prog tab (ovA Tryz.prog tab (withO (joinO 42) (ovM (mkM l_9 .e))) 82 100000) 100000) 78 jl_2995 64 (j_2995_15).st j_2995_16 jt_2995 = true := by kernel_rfl
theorem je_2995 : ends (fastO Tryz.prog tab (ovA Tryz.prog tab (withO (joinO 42) (ovM (mkM l_9 .e))) 82 100000) 100000) 78 jl_2995 (j_2995_16).st (.exit 2) j_2995_17 jt_2995 = true := by kernel_rfl
theorem jn_2995 : nOf Tryz.prog c2995.g c2995.args.length = 78 := by kernel_rfl
theorem w_2995 : c2995.outs (lmCall Tryz.prog tab (fun _ n cc s => spn (fastO Tryz.prog tab (ovA Tryz.prog tab (withO (joinO 42) (ovM (mkM l_9 .e))) 82 100000) 100000) (klO jt_2995 c2995.s.k j_2995_0 (.exit 2) j_2995_17) n [0, 0, 0, 0, 0, 0, 0, 0, 0, 0, 1, 0, 0] cc s) c2995.g c2995.args c2995.s) = true := by kernel_rfl
end Ev
end
end Go.Proofs.YtmemadmjgcpobaaGreatDoor
