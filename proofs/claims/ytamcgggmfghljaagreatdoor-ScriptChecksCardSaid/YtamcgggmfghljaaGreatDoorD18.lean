/- Layer 29 (reference): an operation with one field alone; the mask (printed by tools/gen_rw -/
import Derived.Test.YtamcgggmfghljaaGreatDoorD17
set_option maxRecDepth 100000
set_option maxHeartbeats 8000000
open Go.Proofs.Tryz
namespace Go.Proofs.YtamcgggmfghljaaGreatDoor
open Go.RowKit
theorem zut (k us c1 r1 c2 r2:Int) (s:zaa) (rd wr ow fns to_ ix:Int) (w:World):
 Calls prog 167 #[.agg #[.int .u8 k,.int .i64 us,.int .i64 c1,.int .i64 r1,.int .i64 c2,.int .i64 r2,str s,.int .u64 rd,.int .u64 wr,.int .u64 ow,.int .u8 fns,.int .u64 to_,.int .i64 ix],.int .i64 1] w fun u w'=>u=.returned (.agg #[.int .u8 k,.int .i64 us,.int .i64 0,.int .i64 0,.int .i64 0,.int .i64 0,str [],.int .u64 0,.int .u64 0,.int .u64 0,.int .u8 0,.int .u64 0,.int .i64 0])∧Below w.heap.size w w':=by
 go_enter func167,ntmps167
 go_wp2
 refine bodyPost_ret (v:=.agg #[.int .u8 k,.int .i64 us,.int .i64 0,.int .i64 0,.int .i64 0,.int .i64 0,str [],.int .u64 0,.int .u64 0,.int .u64 0,.int .u8 0,.int .u64 0,.int .i64 0]) (by simp (maxDischargeDepth:=9) [results,results167,go_sem]) rfl ?_
 exact ⟨rfl,by go_grown⟩
theorem zus (k us c1 r1 c2 r2:Int) (s:zaa) (rd wr ow fns to_ ix:Int) (w:World):
 Calls prog 167 #[.agg #[.int .u8 k,.int .i64 us,.int .i64 c1,.int .i64 r1,.int .i64 c2,.int .i64 r2,str s,.int .u64 rd,.int .u64 wr,.int .u64 ow,.int .u8 fns,.int .u64 to_,.int .i64 ix],.int .i64 2] w fun u w'=>u=.returned (.agg #[.int .u8 k,.int .i64 0,.int .i64 c1,.int .i64 r1,.int .i64 c2,.int .i64 r2,str [],.int .u64 0,.int .u64 0,.int .u64 0,.int .u8 0,.int .u64 0,.int .i64 0])∧Below w.heap.size w w':=by
 go_enter func167,ntmps167
 go_wp2
 refine bodyPost_ret (v:=.agg #[.int .u8 k,.int .i64 0,.int .i64 c1,.int .i64 r1,.int .i64 c2,.int .i64 r2,str [],.int .u64 0,.int .u64 0,.int .u64 0,.int .u8 0,.int .u64 0,.int .i64 0]) (by simp (maxDischargeDepth:=9) [results,results167,go_sem]) rfl ?_
 exact ⟨rfl,by go_grown⟩
theorem zur (k us c1 r1 c2 r2:Int) (s:zaa) (rd wr ow fns to_ ix:Int) (w:World):
 Calls prog 167 #[.agg #[.int .u8 k,.int .i64 us,.int .i64 c1,.int .i64 r1,.int .i64 c2,.int .i64 r2,str s,.int .u64 rd,.int .u64 wr,.int .u64 ow,.int .u8 fns,.int .u64 to_,.int .i64 ix],.int .i64 4] w fun u w'=>u=.returned (.agg #[.int .u8 k,.int .i64 0,.int .i64 0,.int .i64 0,.int .i64 0,.int .i64 0,str s,.int .u64 0,.int .u64 0,.int .u64 0,.int .u8 0,.int .u64 0,.int .i64 0])∧Below w.heap.size w w':=by
 go_enter func167,ntmps167
 go_wp2
 refine bodyPost_ret (v:=.agg #[.int .u8 k,.int .i64 0,.int .i64 0,.int .i64 0,.int .i64 0,.int .i64 0,str s,.int .u64 0,.int .u64 0,.int .u64 0,.int .u8 0,.int .u64 0,.int .i64 0]) (by simp (maxDischargeDepth:=9) [results,results167,go_sem]) rfl ?_
 exact ⟨rfl,by go_grown⟩
theorem zuq (k us c1 r1 c2 r2:Int) (s:zaa) (rd wr ow fns to_ ix:Int) (w:World):
 Calls prog 167 #[.agg #[.int .u8 k,.int .i64 us,.int .i64 c1,.int .i64 r1,.int .i64 c2,.int .i64 r2,str s,.int .u64 rd,.int .u64 wr,.int .u64 ow,.int .u8 fns,.int .u64 to_,.int .i64 ix],.int .i64 8] w fun u w'=>u=.returned (.agg #[.int .u8 k,.int .i64 0,.int .i64 0,.int .i64 0,.int .i64 0,.int .i64 0,str [],.int .u64 rd,.int .u64 wr,.int .u64 ow,.int .u8 0,.int .u64 0,.int .i64 0])∧Below w.heap.size w w':=by
 go_enter func167,ntmps167
 go_wp2
 refine bodyPost_ret (v:=.agg #[.int .u8 k,.int .i64 0,.int .i64 0,.int .i64 0,.int .i64 0,.int .i64 0,str [],.int .u64 rd,.int .u64 wr,.int .u64 ow,.int .u8 0,.int .u64 0,.int .i64 0]) (by simp (maxDischargeDepth:=9) [results,results167,go_sem]) rfl ?_
 exact ⟨rfl,by go_grown⟩
theorem zup (k us c1 r1 c2 r2:Int) (s:zaa) (rd wr ow fns to_ ix:Int) (w:World):
 Calls prog 167 #[.agg #[.int .u8 k,.int .i64 us,.int .i64 c1,.int .i64 r1,.int .i64 c2,.int .i64 r2,str s,.int .u64 rd,.int .u64 wr,.int .u64 ow,.int .u8 fns,.int .u64 to_,.int .i64 ix],.int .i64 16] w fun u w'=>u=.returned (.agg #[.int .u8 k,.int .i64 0,.int .i64 0,.int .i64 0,.int .i64 0,.int .i64 0,str [],.int .u64 0,.int .u64 0,.int .u64 0,.int .u8 fns,.int .u64 0,.int .i64 0])∧Below w.heap.size w w':=by
 go_enter func167,ntmps167
 go_wp2
 refine bodyPost_ret (v:=.agg #[.int .u8 k,.int .i64 0,.int .i64 0,.int .i64 0,.int .i64 0,.int .i64 0,str [],.int .u64 0,.int .u64 0,.int .u64 0,.int .u8 fns,.int .u64 0,.int .i64 0]) (by simp (maxDischargeDepth:=9) [results,results167,go_sem]) rfl ?_
 exact ⟨rfl,by go_grown⟩
theorem zuo (k us c1 r1 c2 r2:Int) (s:zaa) (rd wr ow fns to_ ix:Int) (w:World):
 Calls prog 167 #[.agg #[.int .u8 k,.int .i64 us,.int .i64 c1,.int .i64 r1,.int .i64 c2,.int .i64 r2,str s,.int .u64 rd,.int .u64 wr,.int .u64 ow,.int .u8 fns,.int .u64 to_,.int .i64 ix],.int .i64 32] w fun u w'=>u=.returned (.agg #[.int .u8 k,.int .i64 0,.int .i64 0,.int .i64 0,.int .i64 0,.int .i64 0,str [],.int .u64 0,.int .u64 0,.int .u64 0,.int .u8 0,.int .u64 to_,.int .i64 0])∧Below w.heap.size w w':=by
 go_enter func167,ntmps167
 go_wp2
 refine bodyPost_ret (v:=.agg #[.int .u8 k,.int .i64 0,.int .i64 0,.int .i64 0,.int .i64 0,.int .i64 0,str [],.int .u64 0,.int .u64 0,.int .u64 0,.int .u8 0,.int .u64 to_,.int .i64 0]) (by simp (maxDischargeDepth:=9) [results,results167,go_sem]) rfl ?_
 exact ⟨rfl,by go_grown⟩
theorem zun (k us c1 r1 c2 r2:Int) (s:zaa) (rd wr ow fns to_ ix:Int) (w:World):
 Calls prog 167 #[.agg #[.int .u8 k,.int .i64 us,.int .i64 c1,.int .i64 r1,.int .i64 c2,.int .i64 r2,str s,.int .u64 rd,.int .u64 wr,.int .u64 ow,.int .u8 fns,.int .u64 to_,.int .i64 ix],.int .i64 64] w fun u w'=>u=.returned (.agg #[.int .u8 k,.int .i64 0,.int .i64 0,.int .i64 0,.int .i64 0,.int .i64 0,str [],.int .u64 0,.int .u64 0,.int .u64 0,.int .u8 0,.int .u64 0,.int .i64 ix])∧Below w.heap.size w w':=by
 go_enter func167,ntmps167
 go_wp2
 refine bodyPost_ret (v:=.agg #[.int .u8 k,.int .i64 0,.int .i64 0,.int .i64 0,.int .i64 0,.int .i64 0,str [],.int .u64 0,.int .u64 0,.int .u64 0,.int .u8 0,.int .u64 0,.int .i64 ix]) (by simp (maxDischargeDepth:=9) [results,results167,go_sem]) rfl ?_
 exact ⟨rfl,by go_grown⟩
end Go.Proofs.YtamcgggmfghljaaGreatDoor
