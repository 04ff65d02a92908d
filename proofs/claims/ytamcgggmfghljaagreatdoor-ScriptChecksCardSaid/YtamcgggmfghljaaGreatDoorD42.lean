/- Layer 8 (reference): literals, the fields of a node, how many trees are below it, which fi -/
import Derived.Test.YtamcgggmfghljaaGreatDoorD33
import Derived.Test.YtamcgggmfghljaaGreatDoorD39
set_option maxRecDepth 100000
set_option maxHeartbeats 8000000
open Go.Proofs.Tryz
namespace Go.Proofs.YtamcgggmfghljaaGreatDoor
open Go.RowKit
theorem zxp {x:zaa} (h:txtE x=0):txtR x=0:=by
 obtain ⟨h1,h2⟩:=zfl h
 unfold txtR
 rw [if_neg (by omega),if_pos h2]
theorem zou (v:Int) (w:World) (h:0≤v):
 Calls prog 350 #[.agg #[.int .u8 1,.int .i64 v,str []]] w fun u w'=>u=.returned (.bool true)∧Below w.heap.size w w':=by
 have g1:(0:Int)≤v:=h
 have K:=Hd (Blk.new w 189 #[.int .u8 1,.int .i64 v,str []])
 have HC:=Hd (fun w=>(by exact zum v w h:Calls prog 346 #[.agg #[.int .u8 1,.int .i64 v,str []]] w fun u w'=>u=.returned (.int .i64 0)∧Below w.heap.size w w'))
 go_enter func350,ntmps350
 go_wp2_with fail
 refine (HC.out _).mono ?_
 rintro u w1 ⟨rfl,hb1⟩
 have HB:=Hd (show Below w.heap.size w w1 from nxt hb1)
 have K1:=Hd (K.out.below_ hb1)
 have x0:=K1.out.cell 0
 have x1:=K1.out.cell 1
 clear hb1
 go_wp2
 go_ret
 exact ⟨rfl,HB.out⟩
theorem zl7 (x:zaa) (w:World) (h:txtE x=0):
 Calls prog 350 #[.agg #[.int .u8 3,.int .i64 0,str x]] w fun u w'=>u=.returned (.bool true)∧Below w.heap.size w w':=by
 have K:=Hd (Blk.new w 189 #[.int .u8 3,.int .i64 0,str x])
 have HC:=Hd (fun w=>(by exact zrb x w (zxp h) (by have:=(zfl h).1;omega):Calls prog 346 #[.agg #[.int .u8 3,.int .i64 0,str x]] w fun u w'=>u=.returned (.int .i64 0)∧Below w.heap.size w w'))
 go_enter func350,ntmps350
 go_wp2_with fail
 refine (HC.out _).mono ?_
 rintro u w1 ⟨rfl,hb1⟩
 have HB:=Hd (show Below w.heap.size w w1 from nxt hb1)
 have K1:=Hd (K.out.below_ hb1)
 have x0:=K1.out.cell 0
 have x1:=K1.out.cell 1
 clear hb1
 go_wp2
 go_ret
 exact ⟨rfl,HB.out⟩
theorem zkv (w:World):
 Calls prog 350 #[.agg #[.int .u8 2,.int .i64 0,str []]] w fun u w'=>u=.returned (.bool true)∧Below w.heap.size w w':=by
 have K:=Hd (Blk.new w 189 #[.int .u8 2,.int .i64 0,str []])
 have HC:=Hd (fun w=>(by exact zpb w:Calls prog 346 #[.agg #[.int .u8 2,.int .i64 0,str []]] w fun u w'=>u=.returned (.int .i64 0)∧Below w.heap.size w w'))
 go_enter func350,ntmps350
 go_wp2_with fail
 refine (HC.out _).mono ?_
 rintro u w1 ⟨rfl,hb1⟩
 have HB:=Hd (show Below w.heap.size w w1 from nxt hb1)
 have K1:=Hd (K.out.below_ hb1)
 have x0:=K1.out.cell 0
 have x1:=K1.out.cell 1
 clear hb1
 go_wp2
 go_ret
 exact ⟨rfl,HB.out⟩
theorem zku (w:World):
 Calls prog 350 #[.agg #[.int .u8 2,.int .i64 1,str []]] w fun u w'=>u=.returned (.bool true)∧Below w.heap.size w w':=by
 have K:=Hd (Blk.new w 189 #[.int .u8 2,.int .i64 1,str []])
 have HC:=Hd (fun w=>(by exact zpa w:Calls prog 346 #[.agg #[.int .u8 2,.int .i64 1,str []]] w fun u w'=>u=.returned (.int .i64 0)∧Below w.heap.size w w'))
 go_enter func350,ntmps350
 go_wp2_with fail
 refine (HC.out _).mono ?_
 rintro u w1 ⟨rfl,hb1⟩
 have HB:=Hd (show Below w.heap.size w w1 from nxt hb1)
 have K1:=Hd (K.out.below_ hb1)
 have x0:=K1.out.cell 0
 have x1:=K1.out.cell 1
 clear hb1
 go_wp2
 go_ret
 exact ⟨rfl,HB.out⟩
theorem zov (v:Int) (w:World) (h1:1≤v) (h2:v≤5):
 Calls prog 350 #[.agg #[.int .u8 4,.int .i64 v,str []]] w fun u w'=>u=.returned (.bool true)∧Below w.heap.size w w':=by
 have g1:(v != 6)=true:=by simp only [bne_iff_ne,ne_eq];omega
 have K:=Hd (Blk.new w 189 #[.int .u8 4,.int .i64 v,str []])
 have HC:=Hd (fun w=>(by exact znk v w h1 (by omega):Calls prog 346 #[.agg #[.int .u8 4,.int .i64 v,str []]] w fun u w'=>u=.returned (.int .i64 0)∧Below w.heap.size w w'))
 go_enter func350,ntmps350
 go_wp2_with fail
 refine (HC.out _).mono ?_
 rintro u w1 ⟨rfl,hb1⟩
 have HB:=Hd (show Below w.heap.size w w1 from nxt hb1)
 have K1:=Hd (K.out.below_ hb1)
 have x0:=K1.out.cell 0
 have x1:=K1.out.cell 1
 clear hb1
 go_wp2
 go_ret
 exact ⟨rfl,HB.out⟩
theorem zjk (v:Int) (w:World) (h:0≤v):
 Calls prog 335 #[.agg #[.int .u8 1,.int .u8 1,.int .i64 v,str [],.int .i64 0,.int .i64 0,.int .i64 0,.int .i64 0,.int .i64 0,.int .u8 0,.int .i64 0]] w fun u w'=>u=.returned (.bool true)∧Below w.heap.size w w':=by
 have he:∀W,(binOp .eql 297 (.agg #[.int .u8 1,.int .u8 1,.int .i64 v,str [],.int .i64 0,.int .i64 0,.int .i64 0,.int .i64 0,.int .i64 0,.int .u8 0,.int .i64 0]) (.agg #[.int .u8 1,.int .u8 1,.int .i64 v,str [],.int .i64 0,.int .i64 0,.int .i64 0,.int .i64 0,.int .i64 0,.int .u8 0,.int .i64 0])).run prog W=.ok (.bool true) W:=by intro W;simp [go_sem]
 have HC:=Hd (fun w=>zou v w h)
 go_enter func335,ntmps335
 go_wp2_with fail
 refine (HC.out _).mono ?_
 rintro u w1 ⟨rfl,hb1⟩
 have HB:=Hd (show Below w.heap.size w w1 from nxt hb1)
 clear hb1
 go_wp2
 go_ret
 exact ⟨rfl,HB.out⟩
theorem zh9 (x:zaa) (w:World) (h:txtE x=0):
 Calls prog 335 #[.agg #[.int .u8 1,.int .u8 3,.int .i64 0,str x,.int .i64 0,.int .i64 0,.int .i64 0,.int .i64 0,.int .i64 0,.int .u8 0,.int .i64 0]] w fun u w'=>u=.returned (.bool true)∧Below w.heap.size w w':=by
 have he:∀W,(binOp .eql 297 (.agg #[.int .u8 1,.int .u8 3,.int .i64 0,str x,.int .i64 0,.int .i64 0,.int .i64 0,.int .i64 0,.int .i64 0,.int .u8 0,.int .i64 0]) (.agg #[.int .u8 1,.int .u8 3,.int .i64 0,str x,.int .i64 0,.int .i64 0,.int .i64 0,.int .i64 0,.int .i64 0,.int .u8 0,.int .i64 0])).run prog W=.ok (.bool true) W:=by intro W;simp [go_sem]
 have HC:=Hd (fun w=>zl7 x w h)
 go_enter func335,ntmps335
 go_wp2_with fail
 refine (HC.out _).mono ?_
 rintro u w1 ⟨rfl,hb1⟩
 have HB:=Hd (show Below w.heap.size w w1 from nxt hb1)
 clear hb1
 go_wp2
 go_ret
 exact ⟨rfl,HB.out⟩
theorem zhe (w:World):
 Calls prog 335 #[.agg #[.int .u8 1,.int .u8 2,.int .i64 0,str [],.int .i64 0,.int .i64 0,.int .i64 0,.int .i64 0,.int .i64 0,.int .u8 0,.int .i64 0]] w fun u w'=>u=.returned (.bool true)∧Below w.heap.size w w':=by
 have he:∀W,(binOp .eql 297 (.agg #[.int .u8 1,.int .u8 2,.int .i64 0,str [],.int .i64 0,.int .i64 0,.int .i64 0,.int .i64 0,.int .i64 0,.int .u8 0,.int .i64 0]) (.agg #[.int .u8 1,.int .u8 2,.int .i64 0,str [],.int .i64 0,.int .i64 0,.int .i64 0,.int .i64 0,.int .i64 0,.int .u8 0,.int .i64 0])).run prog W=.ok (.bool true) W:=by intro W;simp [go_sem]
 have HC:=Hd (fun w=>zkv w)
 go_enter func335,ntmps335
 go_wp2_with fail
 refine (HC.out _).mono ?_
 rintro u w1 ⟨rfl,hb1⟩
 have HB:=Hd (show Below w.heap.size w w1 from nxt hb1)
 clear hb1
 go_wp2
 go_ret
 exact ⟨rfl,HB.out⟩
theorem zhd (w:World):
 Calls prog 335 #[.agg #[.int .u8 1,.int .u8 2,.int .i64 1,str [],.int .i64 0,.int .i64 0,.int .i64 0,.int .i64 0,.int .i64 0,.int .u8 0,.int .i64 0]] w fun u w'=>u=.returned (.bool true)∧Below w.heap.size w w':=by
 have he:∀W,(binOp .eql 297 (.agg #[.int .u8 1,.int .u8 2,.int .i64 1,str [],.int .i64 0,.int .i64 0,.int .i64 0,.int .i64 0,.int .i64 0,.int .u8 0,.int .i64 0]) (.agg #[.int .u8 1,.int .u8 2,.int .i64 1,str [],.int .i64 0,.int .i64 0,.int .i64 0,.int .i64 0,.int .i64 0,.int .u8 0,.int .i64 0])).run prog W=.ok (.bool true) W:=by intro W;simp [go_sem]
 have HC:=Hd (fun w=>zku w)
 go_enter func335,ntmps335
 go_wp2_with fail
 refine (HC.out _).mono ?_
 rintro u w1 ⟨rfl,hb1⟩
 have HB:=Hd (show Below w.heap.size w w1 from nxt hb1)
 clear hb1
 go_wp2
 go_ret
 exact ⟨rfl,HB.out⟩
theorem zjm (v:Int) (w:World) (h1:1≤v) (h2:v≤5):
 Calls prog 335 #[.agg #[.int .u8 1,.int .u8 4,.int .i64 v,str [],.int .i64 0,.int .i64 0,.int .i64 0,.int .i64 0,.int .i64 0,.int .u8 0,.int .i64 0]] w fun u w'=>u=.returned (.bool true)∧Below w.heap.size w w':=by
 have he:∀W,(binOp .eql 297 (.agg #[.int .u8 1,.int .u8 4,.int .i64 v,str [],.int .i64 0,.int .i64 0,.int .i64 0,.int .i64 0,.int .i64 0,.int .u8 0,.int .i64 0]) (.agg #[.int .u8 1,.int .u8 4,.int .i64 v,str [],.int .i64 0,.int .i64 0,.int .i64 0,.int .i64 0,.int .i64 0,.int .u8 0,.int .i64 0])).run prog W=.ok (.bool true) W:=by intro W;simp [go_sem]
 have HC:=Hd (fun w=>zov v w h1 h2)
 go_enter func335,ntmps335
 go_wp2_with fail
 refine (HC.out _).mono ?_
 rintro u w1 ⟨rfl,hb1⟩
 have HB:=Hd (show Below w.heap.size w w1 from nxt hb1)
 clear hb1
 go_wp2
 go_ret
 exact ⟨rfl,HB.out⟩
theorem zjl (w:World):
 Calls prog 335 #[.agg #[.int .u8 4,.int .u8 0,.int .i64 0,str [],.int .i64 0,.int .i64 0,.int .i64 0,.int .i64 0,.int .i64 0,.int .u8 0,.int .i64 0]] w fun u w'=>u=.returned (.bool true)∧Below w.heap.size w w':=by
 have he:∀W,(binOp .eql 297 (.agg #[.int .u8 4,.int .u8 0,.int .i64 0,str [],.int .i64 0,.int .i64 0,.int .i64 0,.int .i64 0,.int .i64 0,.int .u8 0,.int .i64 0]) (.agg #[.int .u8 4,.int .u8 0,.int .i64 0,str [],.int .i64 0,.int .i64 0,.int .i64 0,.int .i64 0,.int .i64 0,.int .u8 0,.int .i64 0])).run prog W=.ok (.bool true) W:=by intro W;simp [go_sem]
 go_enter func335,ntmps335
 go_wp2
 go_ret
 exact ⟨rfl,by go_grown⟩
theorem zjj (w:World):
 Calls prog 335 #[.agg #[.int .u8 5,.int .u8 0,.int .i64 0,str [],.int .i64 0,.int .i64 0,.int .i64 0,.int .i64 0,.int .i64 0,.int .u8 0,.int .i64 0]] w fun u w'=>u=.returned (.bool true)∧Below w.heap.size w w':=by
 have he:∀W,(binOp .eql 297 (.agg #[.int .u8 5,.int .u8 0,.int .i64 0,str [],.int .i64 0,.int .i64 0,.int .i64 0,.int .i64 0,.int .i64 0,.int .u8 0,.int .i64 0]) (.agg #[.int .u8 5,.int .u8 0,.int .i64 0,str [],.int .i64 0,.int .i64 0,.int .i64 0,.int .i64 0,.int .i64 0,.int .u8 0,.int .i64 0])).run prog W=.ok (.bool true) W:=by intro W;simp [go_sem]
 go_enter func335,ntmps335
 go_wp2
 go_ret
 exact ⟨rfl,by go_grown⟩
theorem zgm (v:Int) (w:World) (h1:1≤v) (h2:v≤12):
 Calls prog 335 #[.agg #[.int .u8 6,.int .u8 0,.int .i64 0,str [],.int .i64 0,.int .i64 0,.int .i64 0,.int .i64 0,.int .i64 v,.int .u8 0,.int .i64 0]] w fun u w'=>u=.returned (.bool true)∧Below w.heap.size w w':=by
 have he:∀W,(binOp .eql 297 (.agg #[.int .u8 6,.int .u8 0,.int .i64 0,str [],.int .i64 0,.int .i64 0,.int .i64 0,.int .i64 0,.int .i64 v,.int .u8 0,.int .i64 0]) (.agg #[.int .u8 6,.int .u8 0,.int .i64 0,str [],.int .i64 0,.int .i64 0,.int .i64 0,.int .i64 0,.int .i64 v,.int .u8 0,.int .i64 0])).run prog W=.ok (.bool true) W:=by intro W;simp [go_sem]
 go_enter func335,ntmps335
 go_wp2
 go_ret
 exact ⟨rfl,by go_grown⟩
theorem zia (fn n:Nat) (w:World):
 Calls prog 335 #[.agg #[.int .u8 7,.int .u8 0,.int .i64 0,str [],.int .i64 0,.int .i64 0,.int .i64 0,.int .i64 0,.int .i64 0,.int .u8 fn,.int .i64 n]] w fun u w'=>u=.returned (.bool true)∧Below w.heap.size w w':=by
 have he:∀W,(binOp .eql 297 (.agg #[.int .u8 7,.int .u8 0,.int .i64 0,str [],.int .i64 0,.int .i64 0,.int .i64 0,.int .i64 0,.int .i64 0,.int .u8 fn,.int .i64 n]) (.agg #[.int .u8 7,.int .u8 0,.int .i64 0,str [],.int .i64 0,.int .i64 0,.int .i64 0,.int .i64 0,.int .i64 0,.int .u8 fn,.int .i64 n])).run prog W=.ok (.bool true) W:=by intro W;simp [go_sem]
 have n0:(0:Int)≤(n:Int):=by omega
 go_enter func335,ntmps335
 go_wp2
 go_region
 go_wp2
 go_ret
 exact ⟨rfl,by go_grown⟩
theorem zwz (r:Rct) (w:World):Calls prog 351 #[.agg #[.int .i64 r.c1,.int .i64 r.r1,.int .i64 r.c2,.int .i64 r.r2]] w fun u w'=>u=.returned (.bool (zfb r))∧Below w.heap.size w w':=by
 have HO:=Hd (show zfb r=(decide (r.c1=r.c2)&&decide (r.r1=r.r2)) from rfl)
 obtain ⟨q,hq⟩:∃q,zfb r=q:=⟨_,rfl⟩
 rw [hq] at HO ⊢
 clear hq
 by_cases h1:r.c1=r.c2
 ·by_cases h2:r.r1=r.r2
  ·have b1:(r.c1==r.c2)=true:=by simpa using h1
   have b2:(r.r1==r.r2)=true:=by simpa using h2
   have HQ:=Hd (show true=q by rw [HO.out,decide_eq_true h1,decide_eq_true h2];rfl)
   clear h1 h2 HO
   go_enter func351,ntmps351
   go_wp2
   go_ret
   exact ⟨congrArg (fun z=>Ending.returned (.bool z)) HQ.out,by go_grown⟩
  have b1:(r.c1==r.c2)=true:=by simpa using h1
  have b2:(r.r1==r.r2)=false:=by simpa using h2
  have HQ:=Hd (show false=q by rw [HO.out,decide_eq_false h2];simp)
  clear h1 h2 HO
  go_enter func351,ntmps351
  go_wp2
  go_ret
  exact ⟨congrArg (fun z=>Ending.returned (.bool z)) HQ.out,by go_grown⟩
 have b1:(r.c1==r.c2)=false:=by simpa using h1
 have HQ:=Hd (show false=q by rw [HO.out,decide_eq_false h1];simp)
 clear h1 HO
 go_enter func351,ntmps351
 go_wp2
 go_ret
 exact ⟨congrArg (fun z=>Ending.returned (.bool z)) HQ.out,by go_grown⟩
theorem zji (r:Rct) (w:World) (h1:rctB r=true) (h2:zfb r=true):
 Calls prog 335 #[.agg #[.int .u8 2,.int .u8 0,.int .i64 0,str [],.int .i64 r.c1,.int .i64 r.r1,.int .i64 r.c2,.int .i64 r.r2,.int .i64 0,.int .u8 0,.int .i64 0]] w fun u w'=>u=.returned (.bool true)∧Below w.heap.size w w':=by
 have HC:=Hd (fun w=>zk6 r.c1 r.r1 r.c2 r.r2 w)
 rw [show rctE ⟨r.c1,r.r1,r.c2,r.r2⟩=0 by unfold rctE;rw [show (⟨r.c1,r.r1,r.c2,r.r2⟩:Rct)=r from rfl,h1];rfl] at HC
 have HO:=Hd (fun w=>zwz r w)
 rw [h2] at HO
 clear h1 h2
 have HS:Hid (Blk ((w.alloc (.cells #[.int .u8 2,.int .u8 0,.int .i64 0,str [],.int .i64 r.c1,.int .i64 r.r1,.int .i64 r.c2,.int .i64 r.r2,.int .i64 0,.int .u8 0,.int .i64 0] 297)).alloc (.cells #[.int .u8 2,.int .u8 0,.int .i64 0,str [],.int .i64 r.c1,.int .i64 r.r1,.int .i64 r.c2,.int .i64 r.r2,.int .i64 0,.int .u8 0,.int .i64 0] 297)) w.heap.size 297 #[.int .u8 2,.int .u8 0,.int .i64 0,str [],.int .i64 r.c1,.int .i64 r.r1,.int .i64 r.c2,.int .i64 r.r2,.int .i64 0,.int .u8 0,.int .i64 0]∧Blk ((w.alloc (.cells #[.int .u8 2,.int .u8 0,.int .i64 0,str [],.int .i64 r.c1,.int .i64 r.r1,.int .i64 r.c2,.int .i64 r.r2,.int .i64 0,.int .u8 0,.int .i64 0] 297)).alloc (.cells #[.int .u8 2,.int .u8 0,.int .i64 0,str [],.int .i64 r.c1,.int .i64 r.r1,.int .i64 r.c2,.int .i64 r.r2,.int .i64 0,.int .u8 0,.int .i64 0] 297)) (w.heap.size+1) 297 #[.int .u8 2,.int .u8 0,.int .i64 0,str [],.int .i64 r.c1,.int .i64 r.r1,.int .i64 r.c2,.int .i64 r.r2,.int .i64 0,.int .u8 0,.int .i64 0]∧Below w.heap.size w ((w.alloc (.cells #[.int .u8 2,.int .u8 0,.int .i64 0,str [],.int .i64 r.c1,.int .i64 r.r1,.int .i64 r.c2,.int .i64 r.r2,.int .i64 0,.int .u8 0,.int .i64 0] 297)).alloc (.cells #[.int .u8 2,.int .u8 0,.int .i64 0,str [],.int .i64 r.c1,.int .i64 r.r1,.int .i64 r.c2,.int .i64 r.r2,.int .i64 0,.int .u8 0,.int .i64 0] 297))):=Hd ⟨(Blk.new w _ _).alloc _,by have:=Blk.new (w.alloc (.cells #[.int .u8 2,.int .u8 0,.int .i64 0,str [],.int .i64 r.c1,.int .i64 r.r1,.int .i64 r.c2,.int .i64 r.r2,.int .i64 0,.int .u8 0,.int .i64 0] 297)) 297 #[.int .u8 2,.int .u8 0,.int .i64 0,str [],.int .i64 r.c1,.int .i64 r.r1,.int .i64 r.c2,.int .i64 r.r2,.int .i64 0,.int .u8 0,.int .i64 0];simpa using this,by go_grown⟩
 go_enter func335,ntmps335
 go_upto_region 9 with (fail)
 refine wp_region_noPanic ?_
 refine wp_region_held_drew (S:=fun W'=>Blk W' w.heap.size 297 #[.int .u8 2,.int .u8 0,.int .i64 0,str [],.int .i64 r.c1,.int .i64 r.r1,.int .i64 r.c2,.int .i64 r.r2,.int .i64 0,.int .u8 0,.int .i64 0]∧Blk W' (w.heap.size+1) 297 #[.int .u8 2,.int .u8 0,.int .i64 0,str [],.int .i64 r.c1,.int .i64 r.r1,.int .i64 r.c2,.int .i64 r.r2,.int .i64 0,.int .u8 0,.int .i64 0]∧Below w.heap.size w W') (by kernel_rfl) ⟨HS.out.1,HS.out.2.1,HS.out.2.2.drew⟩ (fun hHeld=>?_)
 refine tH 0 ⟨some 28,.load 297 (.tmp 3),297,_,_,none⟩ (.agg _) rfl hHeld ?_ (hy:=yieldsIf_load_mid rfl _ _ rfl (w.heap.size+1) (0) rfl _ _ (fun W' h=>h.2.1.range (l:=[.int .u8 2,.int .u8 0,.int .i64 0,str [],.int .i64 r.c1,.int .i64 r.r1,.int .i64 r.c2,.int .i64 r.r2,.int .i64 0,.int .u8 0,.int .i64 0]) (o:=0) (by intro j v hj;rw [Nat.zero_add];exact List.getElem?_toArray.trans hj)) rfl rfl (by kernel_rfl))
 try go_frame
 refine tH 1 ⟨some 29,.load 297 (.tmp 1),297,_,_,none⟩ (.agg _) rfl hHeld ?_ (hy:=yieldsIf_load_mid rfl _ _ rfl (w.heap.size) (0) rfl _ _ (fun W' h=>h.1.range (l:=[.int .u8 2,.int .u8 0,.int .i64 0,str [],.int .i64 r.c1,.int .i64 r.r1,.int .i64 r.c2,.int .i64 r.r2,.int .i64 0,.int .u8 0,.int .i64 0]) (o:=0) (by intro j v hj;rw [Nat.zero_add];exact List.getElem?_toArray.trans hj)) rfl rfl (by kernel_rfl))
 try go_frame
 refine tH 2 ⟨some 30,.binOp .eql 297 (.tmp 28) (.tmp 29) 297,_,_,_,none⟩ (.bool true) rfl hHeld ?_
 try go_frame
 refine tH 3 ⟨some 31,.move (.tmp 30),_,_,_,none⟩ (.bool true) rfl hHeld ?_
 try go_frame
 refine tH 4 ⟨some 32,.fieldAddr 297 (.tmp 1) 2,_,_,_,some (3,true)⟩ (.pointer (some ⟨w.heap.size,4,none⟩)) rfl hHeld ?_
 try go_frame
 refine tH 5 ⟨some 33,.load 43 (.tmp 32),43,_,_,some (3,true)⟩ (.agg _) rfl hHeld ?_ (hy:=yieldsIf_load_mid rfl _ _ rfl (w.heap.size) (4) rfl _ _ (fun W' h=>h.1.range (l:=[.int .i64 r.c1,.int .i64 r.r1,.int .i64 r.c2,.int .i64 r.r2]) (o:=4) (by intro j v hj;rcases j with _ | _ | _ | _ | j <;> first | exact hj | (simp at hj))) rfl rfl (by kernel_rfl))
 try go_frame
 refine tC 6 ⟨some 34,.call { callee:=.value (.func 188),args:=#[.tmp 33],argTypes:=#[43] },_,_,_,some (3,true)⟩ rfl fun K hK=>?_
 go_simp
 go_at_call 188
 refine (HC.out _).mono ?_
 rintro u w3 ⟨rfl,hb3⟩
 refine hK.out _ _ (⟨hHeld.1.below_ hb3,hHeld.2.1.below_ hb3,Below.next hHeld.2.2 hb3 hHeld.2.2.size⟩) (fun hHeld=>?_)
 clear hK K
 try go_frame
 refine tH 7 ⟨some 35,.binOp .eql 35 (.tmp 34) (.const (.int .i64 0)) 35,_,_,_,some (3,true)⟩ (.bool true) rfl hHeld ?_
 try go_frame
 refine tH 8 ⟨some 36,.pick (.tmp 31) (.tmp 35) (.const (.bool false)),_,_,_,none⟩ (.bool true) rfl hHeld ?_
 try go_frame
 refine tH 9 ⟨some 37,.move (.tmp 36),_,_,_,none⟩ (.bool true) rfl hHeld ?_
 try go_frame
 refine tH 10 ⟨some 38,.fieldAddr 297 (.tmp 1) 2,_,_,_,some (9,true)⟩ (.pointer (some ⟨w.heap.size,4,none⟩)) rfl hHeld ?_
 try go_frame
 refine tH 11 ⟨some 39,.load 43 (.tmp 38),43,_,_,some (9,true)⟩ (.agg _) rfl hHeld ?_ (hy:=yieldsIf_load_mid rfl _ _ rfl (w.heap.size) (4) rfl _ _ (fun W' h=>h.1.range (l:=[.int .i64 r.c1,.int .i64 r.r1,.int .i64 r.c2,.int .i64 r.r2]) (o:=4) (by intro j v hj;rcases j with _ | _ | _ | _ | j <;> first | exact hj | (simp at hj))) rfl rfl (by kernel_rfl))
 try go_frame
 refine tH 13 ⟨some 41,.fieldAddr 297 (.tmp 1) 0,_,_,_,some (9,true)⟩ (.pointer (some ⟨w.heap.size,0,none⟩)) rfl hHeld ?_
 try go_frame
 refine tH 14 ⟨some 42,.load 5 (.tmp 41),5,_,_,some (9,true)⟩ (.int .u8 2) rfl hHeld ?_ (hy:=Or.inl ⟨by rfl,by intro W hW;have hc:W.cell? ⟨w.heap.size,0,none⟩=some (.int .u8 2):=hW.1.cell 0;go_simp⟩)
 try go_frame
 refine tH 15 ⟨some 43,.binOp .eql 5 (.tmp 42) (.const (.int .u8 2)) 5,_,_,_,some (9,true)⟩ (.bool true) rfl hHeld ?_
 try go_frame
 refine tC 12 ⟨some 40,.call { callee:=.value (.func 351),args:=#[.tmp 39],argTypes:=#[43] },_,_,_,some (9,true)⟩ rfl fun K hK=>?_
 go_simp
 go_at_call 351
 refine (HO.out _).mono ?_
 rintro u w4 ⟨rfl,hb3⟩
 refine hK.out _ _ (⟨hHeld.1.below_ hb3,hHeld.2.1.below_ hb3,Below.next hHeld.2.2 hb3 hHeld.2.2.size⟩) (fun hHeld=>?_)
 clear hK K
 try go_frame
 refine tH 16 ⟨some 44,.binOp .eql 4 (.tmp 40) (.tmp 43) 4,_,_,_,some (9,true)⟩ (.bool true) rfl hHeld ?_
 try go_frame
 refine tH 17 ⟨some 45,.pick (.tmp 37) (.tmp 44) (.const (.bool false)),_,_,_,none⟩ (.bool true) rfl hHeld ?_
 try go_frame
 refine tH 18 ⟨some 2,.assign (.tmp 45),_,_,_,none⟩ (.bool true) rfl hHeld ?_
 try go_frame
 refine wpAnyH_done (by kernel_rfl) ?_ _
 refine NoPanic.normal ?_
 go_wp2
 go_ret
 exact ⟨rfl,hHeld.2.2⟩
theorem zjh (r:Rct) (w:World) (h1:rctB r=true) (h2:zfb r=false):
 Calls prog 335 #[.agg #[.int .u8 3,.int .u8 0,.int .i64 0,str [],.int .i64 r.c1,.int .i64 r.r1,.int .i64 r.c2,.int .i64 r.r2,.int .i64 0,.int .u8 0,.int .i64 0]] w fun u w'=>u=.returned (.bool true)∧Below w.heap.size w w':=by
 have HC:=Hd (fun w=>zk6 r.c1 r.r1 r.c2 r.r2 w)
 rw [show rctE ⟨r.c1,r.r1,r.c2,r.r2⟩=0 by unfold rctE;rw [show (⟨r.c1,r.r1,r.c2,r.r2⟩:Rct)=r from rfl,h1];rfl] at HC
 have HO:=Hd (fun w=>zwz r w)
 rw [h2] at HO
 clear h1 h2
 have HS:Hid (Blk ((w.alloc (.cells #[.int .u8 3,.int .u8 0,.int .i64 0,str [],.int .i64 r.c1,.int .i64 r.r1,.int .i64 r.c2,.int .i64 r.r2,.int .i64 0,.int .u8 0,.int .i64 0] 297)).alloc (.cells #[.int .u8 3,.int .u8 0,.int .i64 0,str [],.int .i64 r.c1,.int .i64 r.r1,.int .i64 r.c2,.int .i64 r.r2,.int .i64 0,.int .u8 0,.int .i64 0] 297)) w.heap.size 297 #[.int .u8 3,.int .u8 0,.int .i64 0,str [],.int .i64 r.c1,.int .i64 r.r1,.int .i64 r.c2,.int .i64 r.r2,.int .i64 0,.int .u8 0,.int .i64 0]∧Blk ((w.alloc (.cells #[.int .u8 3,.int .u8 0,.int .i64 0,str [],.int .i64 r.c1,.int .i64 r.r1,.int .i64 r.c2,.int .i64 r.r2,.int .i64 0,.int .u8 0,.int .i64 0] 297)).alloc (.cells #[.int .u8 3,.int .u8 0,.int .i64 0,str [],.int .i64 r.c1,.int .i64 r.r1,.int .i64 r.c2,.int .i64 r.r2,.int .i64 0,.int .u8 0,.int .i64 0] 297)) (w.heap.size+1) 297 #[.int .u8 3,.int .u8 0,.int .i64 0,str [],.int .i64 r.c1,.int .i64 r.r1,.int .i64 r.c2,.int .i64 r.r2,.int .i64 0,.int .u8 0,.int .i64 0]∧Below w.heap.size w ((w.alloc (.cells #[.int .u8 3,.int .u8 0,.int .i64 0,str [],.int .i64 r.c1,.int .i64 r.r1,.int .i64 r.c2,.int .i64 r.r2,.int .i64 0,.int .u8 0,.int .i64 0] 297)).alloc (.cells #[.int .u8 3,.int .u8 0,.int .i64 0,str [],.int .i64 r.c1,.int .i64 r.r1,.int .i64 r.c2,.int .i64 r.r2,.int .i64 0,.int .u8 0,.int .i64 0] 297))):=Hd ⟨(Blk.new w _ _).alloc _,by have:=Blk.new (w.alloc (.cells #[.int .u8 3,.int .u8 0,.int .i64 0,str [],.int .i64 r.c1,.int .i64 r.r1,.int .i64 r.c2,.int .i64 r.r2,.int .i64 0,.int .u8 0,.int .i64 0] 297)) 297 #[.int .u8 3,.int .u8 0,.int .i64 0,str [],.int .i64 r.c1,.int .i64 r.r1,.int .i64 r.c2,.int .i64 r.r2,.int .i64 0,.int .u8 0,.int .i64 0];simpa using this,by go_grown⟩
 go_enter func335,ntmps335
 go_upto_region 9 with (fail)
 refine wp_region_noPanic ?_
 refine wp_region_held_drew (S:=fun W'=>Blk W' w.heap.size 297 #[.int .u8 3,.int .u8 0,.int .i64 0,str [],.int .i64 r.c1,.int .i64 r.r1,.int .i64 r.c2,.int .i64 r.r2,.int .i64 0,.int .u8 0,.int .i64 0]∧Blk W' (w.heap.size+1) 297 #[.int .u8 3,.int .u8 0,.int .i64 0,str [],.int .i64 r.c1,.int .i64 r.r1,.int .i64 r.c2,.int .i64 r.r2,.int .i64 0,.int .u8 0,.int .i64 0]∧Below w.heap.size w W') (by kernel_rfl) ⟨HS.out.1,HS.out.2.1,HS.out.2.2.drew⟩ (fun hHeld=>?_)
 refine tH 0 ⟨some 28,.load 297 (.tmp 3),297,_,_,none⟩ (.agg _) rfl hHeld ?_ (hy:=yieldsIf_load_mid rfl _ _ rfl (w.heap.size+1) (0) rfl _ _ (fun W' h=>h.2.1.range (l:=[.int .u8 3,.int .u8 0,.int .i64 0,str [],.int .i64 r.c1,.int .i64 r.r1,.int .i64 r.c2,.int .i64 r.r2,.int .i64 0,.int .u8 0,.int .i64 0]) (o:=0) (by intro j v hj;rw [Nat.zero_add];exact List.getElem?_toArray.trans hj)) rfl rfl (by kernel_rfl))
 try go_frame
 refine tH 1 ⟨some 29,.load 297 (.tmp 1),297,_,_,none⟩ (.agg _) rfl hHeld ?_ (hy:=yieldsIf_load_mid rfl _ _ rfl (w.heap.size) (0) rfl _ _ (fun W' h=>h.1.range (l:=[.int .u8 3,.int .u8 0,.int .i64 0,str [],.int .i64 r.c1,.int .i64 r.r1,.int .i64 r.c2,.int .i64 r.r2,.int .i64 0,.int .u8 0,.int .i64 0]) (o:=0) (by intro j v hj;rw [Nat.zero_add];exact List.getElem?_toArray.trans hj)) rfl rfl (by kernel_rfl))
 try go_frame
 refine tH 2 ⟨some 30,.binOp .eql 297 (.tmp 28) (.tmp 29) 297,_,_,_,none⟩ (.bool true) rfl hHeld ?_
 try go_frame
 refine tH 3 ⟨some 31,.move (.tmp 30),_,_,_,none⟩ (.bool true) rfl hHeld ?_
 try go_frame
 refine tH 4 ⟨some 32,.fieldAddr 297 (.tmp 1) 2,_,_,_,some (3,true)⟩ (.pointer (some ⟨w.heap.size,4,none⟩)) rfl hHeld ?_
 try go_frame
 refine tH 5 ⟨some 33,.load 43 (.tmp 32),43,_,_,some (3,true)⟩ (.agg _) rfl hHeld ?_ (hy:=yieldsIf_load_mid rfl _ _ rfl (w.heap.size) (4) rfl _ _ (fun W' h=>h.1.range (l:=[.int .i64 r.c1,.int .i64 r.r1,.int .i64 r.c2,.int .i64 r.r2]) (o:=4) (by intro j v hj;rcases j with _ | _ | _ | _ | j <;> first | exact hj | (simp at hj))) rfl rfl (by kernel_rfl))
 try go_frame
 refine tC 6 ⟨some 34,.call { callee:=.value (.func 188),args:=#[.tmp 33],argTypes:=#[43] },_,_,_,some (3,true)⟩ rfl fun K hK=>?_
 go_simp
 go_at_call 188
 refine (HC.out _).mono ?_
 rintro u w3 ⟨rfl,hb3⟩
 refine hK.out _ _ (⟨hHeld.1.below_ hb3,hHeld.2.1.below_ hb3,Below.next hHeld.2.2 hb3 hHeld.2.2.size⟩) (fun hHeld=>?_)
 clear hK K
 try go_frame
 refine tH 7 ⟨some 35,.binOp .eql 35 (.tmp 34) (.const (.int .i64 0)) 35,_,_,_,some (3,true)⟩ (.bool true) rfl hHeld ?_
 try go_frame
 refine tH 8 ⟨some 36,.pick (.tmp 31) (.tmp 35) (.const (.bool false)),_,_,_,none⟩ (.bool true) rfl hHeld ?_
 try go_frame
 refine tH 9 ⟨some 37,.move (.tmp 36),_,_,_,none⟩ (.bool true) rfl hHeld ?_
 try go_frame
 refine tH 10 ⟨some 38,.fieldAddr 297 (.tmp 1) 2,_,_,_,some (9,true)⟩ (.pointer (some ⟨w.heap.size,4,none⟩)) rfl hHeld ?_
 try go_frame
 refine tH 11 ⟨some 39,.load 43 (.tmp 38),43,_,_,some (9,true)⟩ (.agg _) rfl hHeld ?_ (hy:=yieldsIf_load_mid rfl _ _ rfl (w.heap.size) (4) rfl _ _ (fun W' h=>h.1.range (l:=[.int .i64 r.c1,.int .i64 r.r1,.int .i64 r.c2,.int .i64 r.r2]) (o:=4) (by intro j v hj;rcases j with _ | _ | _ | _ | j <;> first | exact hj | (simp at hj))) rfl rfl (by kernel_rfl))
 try go_frame
 refine tH 13 ⟨some 41,.fieldAddr 297 (.tmp 1) 0,_,_,_,some (9,true)⟩ (.pointer (some ⟨w.heap.size,0,none⟩)) rfl hHeld ?_
 try go_frame
 refine tH 14 ⟨some 42,.load 5 (.tmp 41),5,_,_,some (9,true)⟩ (.int .u8 3) rfl hHeld ?_ (hy:=Or.inl ⟨by rfl,by intro W hW;have hc:W.cell? ⟨w.heap.size,0,none⟩=some (.int .u8 3):=hW.1.cell 0;go_simp⟩)
 try go_frame
 refine tH 15 ⟨some 43,.binOp .eql 5 (.tmp 42) (.const (.int .u8 2)) 5,_,_,_,some (9,true)⟩ (.bool false) rfl hHeld ?_
 try go_frame
 refine tC 12 ⟨some 40,.call { callee:=.value (.func 351),args:=#[.tmp 39],argTypes:=#[43] },_,_,_,some (9,true)⟩ rfl fun K hK=>?_
 go_simp
 go_at_call 351
 refine (HO.out _).mono ?_
 rintro u w4 ⟨rfl,hb3⟩
 refine hK.out _ _ (⟨hHeld.1.below_ hb3,hHeld.2.1.below_ hb3,Below.next hHeld.2.2 hb3 hHeld.2.2.size⟩) (fun hHeld=>?_)
 clear hK K
 try go_frame
 refine tH 16 ⟨some 44,.binOp .eql 4 (.tmp 40) (.tmp 43) 4,_,_,_,some (9,true)⟩ (.bool true) rfl hHeld ?_
 try go_frame
 refine tH 17 ⟨some 45,.pick (.tmp 37) (.tmp 44) (.const (.bool false)),_,_,_,none⟩ (.bool true) rfl hHeld ?_
 try go_frame
 refine tH 18 ⟨some 2,.assign (.tmp 45),_,_,_,none⟩ (.bool true) rfl hHeld ?_
 try go_frame
 refine wpAnyH_done (by kernel_rfl) ?_ _
 refine NoPanic.normal ?_
 go_wp2
 go_ret
 exact ⟨rfl,hHeld.2.2⟩
theorem zq0 (n:Nod) (h:NodOk n) (w:World):Calls prog 335 #[.agg (cNod n).toArray] w fun u w'=>u=.returned (.bool true)∧Below w.heap.size w w':=by
 cases h with
 | num v h=>exact zjk v w h
 | text x h=>exact zh9 x w h
 | bool v h=>rcases h with rfl | rfl;exact zhe w;exact zhd w
 | err v h1 h2=>exact zjm v w h1 h2
 | ref r h1 h2=>exact zji r w h1 h2
 | range r h1 h2=>exact zjh r w h1 h2
 | neg=>exact zjl w
 | pct=>exact zjj w
 | binary v h1 h2=>exact zgm v w h1 h2
 | call fn n h1 h2 h3 h4=>exact zia fn n w
theorem zub (n:Nod) (h:NodOk n) (w:World):Calls prog 338 #[.agg (cNod n).toArray] w fun u w'=>u=.returned (.int .i64 (zb8 n))∧Below w.heap.size w w':=by
 rw [show (cNod n).toArray=#[.int .u8 n.kind,.int .u8 n.vk,.int .i64 n.vn,str n.vt,.int .i64 n.rect.c1,.int .i64 n.rect.r1,.int .i64 n.rect.c2,.int .i64 n.rect.r2,.int .i64 n.op,.int .u8 n.fn,.int .i64 n.n] from rfl]
 have HB:=Hd (show zb8 n=if n.kind=4∨n.kind=5 then 1 else if n.kind=6 then 2 else if n.kind=7 then n.n.toNat else 0 from rfl)
 have HN:=Hd (show n.kind=7→0≤n.n from fun hk=>by cases h <;> simp_all [nod0])
 obtain ⟨q,hq⟩:∃q,zb8 n=q:=⟨_,rfl⟩
 rw [hq] at HB ⊢
 clear hq h
 by_cases h4:n.kind=4
 ·have b4:(n.kind==4)=true:=by simpa using h4
  have HQ:=Hd (HB.out.trans (if_pos (.inl h4)))
  clear h4 HB
  go_enter func338,ntmps338
  go_wp2
  go_ret
  exact ⟨by rw [HQ.out];rfl,by go_grown⟩
 have b4:(n.kind==4)=false:=by simpa using h4
 by_cases h5:n.kind=5
 ·have b5:(n.kind==5)=true:=by simpa using h5
  have HQ:=Hd (HB.out.trans (if_pos (.inr h5)))
  clear h4 h5 HB
  go_enter func338,ntmps338
  go_wp2
  go_ret
  exact ⟨by rw [HQ.out];rfl,by go_grown⟩
 have b5:(n.kind==5)=false:=by simpa using h5
 by_cases h6:n.kind=6
 ·have b6:(n.kind==6)=true:=by simpa using h6
  have HQ:=Hd (HB.out.trans ((if_neg (by rw [not_or];exact ⟨h4,h5⟩)).trans (if_pos h6)))
  clear h4 h5 h6 HB
  go_enter func338,ntmps338
  go_wp2
  go_ret
  exact ⟨by rw [HQ.out];rfl,by go_grown⟩
 have b6:(n.kind==6)=false:=by simpa using h6
 by_cases h7:n.kind=7
 ·have b7:(n.kind==7)=true:=by simpa using h7
  have HQ:=Hd (show ((q:Nat):Int)=n.n by
   rw [HB.out,if_neg (by rw [not_or];exact ⟨h4,h5⟩),if_neg h6,if_pos h7]
   have:=HN.out h7
   omega)
  clear h4 h5 h6 h7 HB
  go_enter func338,ntmps338
  go_wp2
  go_ret
  exact ⟨by rw [HQ.out];rfl,by go_grown⟩
 have b7:(n.kind==7)=false:=by simpa using h7
 have HQ:=Hd (HB.out.trans ((if_neg (by rw [not_or];exact ⟨h4,h5⟩)).trans ((if_neg h6).trans (if_neg h7))))
 clear h4 h5 h6 h7 HB
 go_enter func338,ntmps338
 go_wp2
 go_ret
 exact ⟨by rw [HQ.out];rfl,by go_grown⟩
def fitR (n c:Nod) (i:Nat):Bool:=
 if decide (c.kind=3)&&!(decide (n.kind=7)&&(zb9 n.fn i).1) then false
 else if decide (n.kind=7)&&relB n.fn&&decide (c.kind≠2)&&decide (c.kind≠3) then false else true
theorem zp4 (t:List Nod) (n:Nod) (i:Nat) (p:Part) (l:List Part) (hp:p.wide=decide ((t.getD p.root (nod0 0)).kind=3)):
 zdt t n i (p::l)=if fitR n (t.getD p.root (nod0 0)) i=true then zdt t n (i+1) l else false:=by
 show (if p.wide&&!(decide (n.kind=7)&&(zb9 n.fn i).1) then false
  else if decide (n.kind=7)&&relB n.fn&&decide (((t.getD p.root (nod0 0)).kind)≠2)&&decide (((t.getD p.root (nod0 0)).kind)≠3) then false
  else zdt t n (i+1) l)=_
 unfold fitR
 rw [hp]
 split
 ·simp
 split
 ·simp
 simp
theorem zug (fn:Nat) (h1:46≤fn) (h2:fn≤50):zb9 fn 0=(true,0):=by
 rcases (by omega:fn=46∨fn=47∨fn=48∨fn=49∨fn=50) with rfl | rfl | rfl | rfl | rfl <;> rfl
theorem zq7 (fn:Nat) (h1:46≤fn) (h2:fn≤50):(zam fn).2.1=1:=by
 rcases (by omega:fn=46∨fn=47∨fn=48∨fn=49∨fn=50) with rfl | rfl | rfl | rfl | rfl <;> rfl
theorem zx1 (n c:Nod) (h:NodOk n) (i:Nat) (hi:i<zb8 n) (hi2:i≤2000) (w:World):
 Calls prog 339 #[.agg (cNod n).toArray,.int .i64 i,.agg (cNod c).toArray] w fun u w'=>u=.returned (.bool (fitR n c i))∧Below w.heap.size w w':=by
 rw [show (cNod n).toArray=#[.int .u8 n.kind,.int .u8 n.vk,.int .i64 n.vn,str n.vt,.int .i64 n.rect.c1,.int .i64 n.rect.r1,.int .i64 n.rect.c2,.int .i64 n.rect.r2,.int .i64 n.op,.int .u8 n.fn,.int .i64 n.n] from rfl]
 rw [show (cNod c).toArray=#[.int .u8 c.kind,.int .u8 c.vk,.int .i64 c.vn,str c.vt,.int .i64 c.rect.c1,.int .i64 c.rect.r1,.int .i64 c.rect.c2,.int .i64 c.rect.r2,.int .i64 c.op,.int .u8 c.fn,.int .i64 c.n] from rfl]
 have HF:=Hd (show fitR n c i=if decide (c.kind=3)&&!(decide (n.kind=7)&&(zb9 n.fn i).1) then false
  else if decide (n.kind=7)&&relB n.fn&&decide (c.kind≠2)&&decide (c.kind≠3) then false else true from rfl)
 obtain ⟨q,hq⟩:∃q,fitR n c i=q:=⟨_,rfl⟩
 rw [hq] at HF ⊢
 clear hq
 by_cases h7:n.kind=7
 rotate_left
 ·have b7:(n.kind != 7)=true:=by simpa using h7
  have HQ:=Hd (show (c.kind != 3)=q by
   rw [HF.out,decide_eq_false h7]
   by_cases h3:c.kind=3
   ·simp [h3]
   simp [h3])
  clear h7 HF h
  go_enter func339,ntmps339
  go_wp2
  go_ret
  exact ⟨congrArg (fun z=>Ending.returned (.bool z)) HQ.out,by go_grown⟩
 have b7:(n.kind != 7)=false:=by simpa using h7
 obtain ⟨fn,m,hfn,hfm,h1,h2,ha⟩:∃fn m:Nat,n.fn=fn∧n.n=m∧1≤fn∧fn≤50∧(m:Int)≤(zam fn).2.1:=by
  cases h with
  | call fn m h1 h2 h3 h4=>exact ⟨fn,m,rfl,rfl,h1,h2,h4⟩
  | _=>exact absurd h7 (by simp [nod0])
 have him:i<m:=by
  have hb:zb8 n=n.n.toNat:=by unfold zb8;rw [if_neg (by omega),if_neg (by omega),if_pos h7]
  rw [hb,hfm] at hi
  omega
 rw [hfn] at HF ⊢
 rw [decide_eq_true h7] at HF
 by_cases h46:46≤fn
 ·have g46:(46:Int)≤(fn:Int):=by omega
  have hi0:i=0:=by rw [zq7 fn h46 h2] at ha;omega
  subst hi0
  have HQ:=Hd (show (decide (c.kind=3)||decide (c.kind=2))=q by
   rw [HF.out,show ((0:Nat):Int)=0 from rfl,zug fn h46 h2,show relB (fn:Int)=true by unfold relB;simp;omega]
   by_cases h3:c.kind=3
   ·simp [h3]
   by_cases h2:c.kind=2
   ·simp [h2]
   simp [h3,h2])
  clear HF h h7 hfn hfm ha
  by_cases h3:c.kind=3
  ·have b3:(c.kind==3)=true:=by simpa using h3
   have HQ2:=Hd (show true=q by rw [← HQ.out,decide_eq_true h3];rfl)
   clear h3
   go_enter func339,ntmps339
   go_wp2
   go_ret
   exact ⟨congrArg (fun z=>Ending.returned (.bool z)) HQ2.out,by go_grown⟩
  have b3:(c.kind==3)=false:=by simpa using h3
  have HQ2:=Hd (show (c.kind==2)=q by rw [← HQ.out,decide_eq_false h3,Bool.false_or,Bool.eq_iff_iff];simp)
  clear h3
  go_enter func339,ntmps339
  go_wp2
  go_ret
  exact ⟨congrArg (fun z=>Ending.returned (.bool z)) HQ2.out,by go_grown⟩
 have g46:¬(46:Int)≤(fn:Int):=by omega
 have HWI:=Hd (zqz fn i h1 h2 hi2)
 have HQ:=Hd (show (!decide (c.kind=3)||(zb9 fn i).1)=q by
  rw [HF.out,show relB (fn:Int)=false by unfold relB;simp;omega]
  by_cases h3:c.kind=3
  ·simp [h3]
  simp [h3])
 generalize (zb9 fn i).1=wb at *
 clear HF h h7 hfn hfm ha
 by_cases h3:c.kind=3
 ·have b3:(c.kind != 3)=false:=by simpa using h3
  have HQ2:=Hd (show wb=q by rw [← HQ.out,decide_eq_true h3];rfl)
  clear h3
  go_enter func339,ntmps339
  go_wp2_with fail
  refine (HWI.out _).mono ?_
  rintro u w2 ⟨rfl,rfl⟩
  go_wp2
  go_ret
  exact ⟨congrArg (fun z=>Ending.returned (.bool z)) HQ2.out,by go_grown⟩
 have b3:(c.kind != 3)=true:=by simpa using h3
 have HQ2:=Hd (show true=q by rw [← HQ.out,decide_eq_false h3];rfl)
 clear h3
 go_enter func339,ntmps339
 go_wp2
 go_ret
 exact ⟨congrArg (fun z=>Ending.returned (.bool z)) HQ2.out,by go_grown⟩
end Go.Proofs.YtamcgggmfghljaaGreatDoor
