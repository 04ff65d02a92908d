/- walk -/
import Derived.Test.YtamcgggmfghljaaGreatDoorE28
import Derived.Test.YtamcgggmfghljaaGreatDoorE42
set_option maxRecDepth 100000
set_option maxHeartbeats 8000000
open Go.Proofs.Tryz
namespace Go.Proofs.YtamcgggmfghljaaGreatDoor
open Go.RowKit
variable {z0 z6:Int} {r r0:Rd} {S:Scp} {α:Type}
def decR (s:zaa):Scp × Int:=
 if 65536<s.length then (noS,5) else if (scpR (s,false)).2.2=true\/scpE (scpR (s,false)).1≠0\/scpB (scpR (s,false)).1≠s then (noS,4) else ((scpR (s,false)).1,0)
theorem z1z {q0 q6:Nat × Rd} {q1:List Ent × Rd} {q2:List Rul × Rd} {q3:List Grt × Rd} {q4:List Evt × Rd} {q5:List Rls × Rd} {q7:List Opr × Rd}
 (h0:intR r0=(z0,q0.2)) (h1:zbk entR q0.2=q1) (h2:zbk rulR q1.2=q2) (h3:zbk grtR q2.2=q3) (h4:zbk evtR q3.2=q4) (h5:zbk rlsR q4.2=q5) (h6:intR q5.2=(z6,q6.2)) (h7:zbk oprR q6.2=q7):
 scpR r0=(⟨⟨z0,q1.1,q2.1,q3.1,q4.1,q5.1,z6⟩,q7.1⟩,q7.2):=by
 unfold scpR;rw[h0];dsimp only;rw[h1,h2,h3,h4,h5,h6];dsimp only;rw[h7]
theorem zop {s:zaa} (h:65536<s.length):decR s=(noS,5):=by unfold decR;rw[jb h]
theorem zi0 {s:zaa} (h:¬65536<s.length) (hS:scpR (s,false)=(S,r)) (hb:r.2=true\/scpE S≠0\/scpB S≠s):decR s=(noS,4):=by
 unfold decR;rw[ja h,hS,jb hb]
theorem zoq {s:zaa} (h:¬65536<s.length) (hS:scpR (s,false)=(S,r)) (hb:r.2=false) (hE:scpE S=0) (hB:scpB S=s):decR s=(S,0):=by
 unfold decR;rw[ja h,hS,ja (by rintro (k | k | k);exact absurd (hb.symm.trans k) (by decide);exact k hE;exact k hB)]
theorem z1b {s:zaa} (hs:s.length<=65536) (hS:scpR (s,false)=(S,r)):FitS S:=by
 have k:=zqi s hs;rw[hS] at k;exact k
theorem zyj (s:Scp):0<(scpB s).length:=by
 have:=zg2 s.book.users;simp only[scpB,jH];omega
end Go.Proofs.YtamcgggmfghljaaGreatDoor
