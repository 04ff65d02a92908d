/- Layer 41 (program): the reader takes lists (printed by tools/gen_rdl.py). -/
import Derived.Test.YtamcgggmfghljaaGreatDoorD14
import Derived.Test.YtamcgggmfghljaaGreatDoorD17
set_option maxRecDepth 100000
set_option maxHeartbeats 8000000
open Go.Proofs.Tryz
namespace Go.Proofs.YtamcgggmfghljaaGreatDoor
open Go.RowKit
theorem RdTo.out {p:Nat} {W W1 w':World} {r:Rd} {v v':Value} (h:RdTo p W W1 r) (ht:OutTo W1 v w' v') (hv:∀q,v.ownBlock=some q→W.heap.size≤q) (hp:p<W.heap.size):RdTo p W w' r:=
 ⟨Blk.outTo h.blk ht (fun e=>by have:=hv p e;omega),⟨ht.chg.os.trans h.chg.os,ht.chg.tape.trans h.chg.tape,ht.chg.output.trans h.chg.output,Nat.le_trans h.chg.size ht.chg.size,fun i hi hs=>
  (ht.chg.block i (Nat.lt_of_lt_of_le hi h.chg.size) (fun e=>by have:=hv i e;omega)).trans (h.chg.block i hi hs)⟩⟩
end Go.Proofs.YtamcgggmfghljaaGreatDoor
