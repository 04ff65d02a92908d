/- Layer 41 (program): the bytes of a release, of an operation's fields (printed by tools/gen -/
import Derived.Test.YtamcgggmfghljaaGreatDoorD34
set_option maxRecDepth 100000
set_option maxHeartbeats 8000000
open Go.Proofs.Tryz
namespace Go.Proofs.YtamcgggmfghljaaGreatDoor
open Go.RowKit
theorem wr_rls (v:Value) (l:zaa) (x:Rls) (w:World) (a0:0≤x.to_) (a1:x.to_<18446744073709551616) (h:Out w v l) (hl:l.length≤100000000):
 Calls prog 101 #[v,.agg #[.int .i64 x.step,.int .i64 x.at_.col,.int .i64 x.at_.row,.int .i64 x.node,.int .u8 x.fn,.int .i64 x.rect.c1,.int .i64 x.rect.r1,.int .i64 x.rect.c2,.int .i64 x.rect.r2,.int .i64 x.grant,.int .u64 x.to_]] w fun e w'=>∃v',e=.returned v'∧Out w' v' (l++rlsB x)∧OutTo w v w' v':=by
 have hv:v.ownBlock≠some w.heap.size:=fun e=>by have:=h.lt _ e;omega
 have kk:Blk (w.alloc (.cells #[.int .i64 x.step,.int .i64 x.at_.col,.int .i64 x.at_.row,.int .i64 x.node,.int .u8 x.fn,.int .i64 x.rect.c1,.int .i64 x.rect.r1,.int .i64 x.rect.c2,.int .i64 x.rect.r2,.int .i64 x.grant,.int .u64 x.to_] 116)).drew w.heap.size 116 #[.int .i64 x.step,.int .i64 x.at_.col,.int .i64 x.at_.row,.int .i64 x.node,.int .u8 x.fn,.int .i64 x.rect.c1,.int .i64 x.rect.r1,.int .i64 x.rect.c2,.int .i64 x.rect.r2,.int .i64 x.grant,.int .u64 x.to_]:=(Blk.new _ _ _).drew
 have TT:=((OutTo.refl w v).alloc (.cells #[.int .i64 x.step,.int .i64 x.at_.col,.int .i64 x.at_.row,.int .i64 x.node,.int .u8 x.fn,.int .i64 x.rect.c1,.int .i64 x.rect.r1,.int .i64 x.rect.c2,.int .i64 x.rect.r2,.int .i64 x.grant,.int .u64 x.to_] 116)).drew
 have oo:=(h.alloc (.cells #[.int .i64 x.step,.int .i64 x.at_.col,.int .i64 x.at_.row,.int .i64 x.node,.int .u8 x.fn,.int .i64 x.rect.c1,.int .i64 x.rect.r1,.int .i64 x.rect.c2,.int .i64 x.rect.r2,.int .i64 x.grant,.int .u64 x.to_] 116)).drew
 clear h
 have m0:=zab x.rect.c1
 have m1:=zab x.rect.r1
 have m2:=zab x.rect.c2
 have m3:=zab x.rect.r2
 have m4:=zab x.step
 have m5:=zab x.at_.col
 have m6:=zab x.at_.row
 have m7:=zab x.node
 have m8:=zab x.fn
 have m9:=zab x.grant
 go_enter func101,ntmps101
 go_wp2_with fail
 go_region_held3 (fun W:World=>W.cell? ⟨w.heap.size,0,none⟩=some (.int .i64 x.step)∧W.cell? ⟨w.heap.size,1,none⟩=some (.int .i64 x.at_.col)∧W.cell? ⟨w.heap.size,2,none⟩=some (.int .i64 x.at_.row)∧W.cell? ⟨w.heap.size,3,none⟩=some (.int .i64 x.node)∧W.cell? ⟨w.heap.size,4,none⟩=some (.int .u8 x.fn)∧W.cell? ⟨w.heap.size,5,none⟩=some (.int .i64 x.rect.c1)∧W.cell? ⟨w.heap.size,6,none⟩=some (.int .i64 x.rect.r1)∧W.cell? ⟨w.heap.size,7,none⟩=some (.int .i64 x.rect.c2)∧W.cell? ⟨w.heap.size,8,none⟩=some (.int .i64 x.rect.r2)∧W.cell? ⟨w.heap.size,9,none⟩=some (.int .i64 x.grant)∧W.cell? ⟨w.heap.size,10,none⟩=some (.int .u64 x.to_))
  (first
   | exact ⟨kk.cell 0,kk.cell 1,kk.cell 2,kk.cell 3,kk.cell 4,kk.cell 5,kk.cell 6,kk.cell 7,kk.cell 8,kk.cell 9,kk.cell 10⟩)
  (first
   | (go_at_call 97;refine (zle _ _ _ _ oo (by first | omega | (simp [zbz];omega))).mono ?_;rintro e w1 ⟨v1,rfl,oo,tt⟩;have hv':=tt.ne kk.lt hv;have kk:=kk.outTo tt hv;have hv:=hv';have TT:=TT.trans tt;clear tt hv')
   | (go_at_call 88;refine (zk8 _ _ _ _ _ oo (by first | omega | (simp;omega))).mono ?_;rintro e w1 ⟨v1,rfl,oo,tt⟩;have hv':=tt.ne kk.lt hv;have kk:=kk.outTo tt hv;have hv:=hv';have TT:=TT.trans tt;clear tt hv')
   | (go_at_call 84;refine (zbv _ _ _ _ oo (by first | omega | (simp [zbz];omega))).mono ?_;rintro e w1 ⟨v1,rfl,oo,tt⟩;have hv':=tt.ne kk.lt hv;have kk:=kk.outTo tt hv;have hv:=hv';have TT:=TT.trans tt;clear tt hv'))
 have kk:=kk.drew
 have TT:=TT.drew
 have oo:=oo.drew
 go_wp2_with fail
 go_region_held3 (fun W:World=>W.cell? ⟨w.heap.size,0,none⟩=some (.int .i64 x.step)∧W.cell? ⟨w.heap.size,1,none⟩=some (.int .i64 x.at_.col)∧W.cell? ⟨w.heap.size,2,none⟩=some (.int .i64 x.at_.row)∧W.cell? ⟨w.heap.size,3,none⟩=some (.int .i64 x.node)∧W.cell? ⟨w.heap.size,4,none⟩=some (.int .u8 x.fn)∧W.cell? ⟨w.heap.size,5,none⟩=some (.int .i64 x.rect.c1)∧W.cell? ⟨w.heap.size,6,none⟩=some (.int .i64 x.rect.r1)∧W.cell? ⟨w.heap.size,7,none⟩=some (.int .i64 x.rect.c2)∧W.cell? ⟨w.heap.size,8,none⟩=some (.int .i64 x.rect.r2)∧W.cell? ⟨w.heap.size,9,none⟩=some (.int .i64 x.grant)∧W.cell? ⟨w.heap.size,10,none⟩=some (.int .u64 x.to_))
  (first
   | exact ⟨kk.cell 0,kk.cell 1,kk.cell 2,kk.cell 3,kk.cell 4,kk.cell 5,kk.cell 6,kk.cell 7,kk.cell 8,kk.cell 9,kk.cell 10⟩)
  (first
   | (go_at_call 96;refine (zhk _ _ _ _ a0 a1 oo (by first | omega | (simp [zbz,za7];omega))).mono ?_;rintro e w1 ⟨v1,rfl,oo,tt⟩;have hv':=tt.ne kk.lt hv;have kk:=kk.outTo tt hv;have hv:=hv';have TT:=TT.trans tt;clear tt hv')
   | (go_at_call 92;refine (zdu _ _ _ _ _ _ _ oo (by first | omega | (simp [zbz];omega))).mono ?_;rintro e w1 ⟨v1,rfl,oo,tt⟩;have hv':=tt.ne kk.lt hv;have kk:=kk.outTo tt hv;have hv:=hv';have TT:=TT.trans tt;clear tt hv')
   | (go_at_call 84;refine (zbv _ _ _ _ oo (by first | omega | (simp [zbz,za7];omega))).mono ?_;rintro e w1 ⟨v1,rfl,oo,tt⟩;have hv':=tt.ne kk.lt hv;have kk:=kk.outTo tt hv;have hv:=hv';have TT:=TT.trans tt;clear tt hv'))
 have OO:=Hd oo
 have TT:=Hd TT
 go_wp2
 go_ret
 exact ⟨_,rfl,by simpa [za7,zbz,zcy,zcb,rlsB] using OO.out,TT.out⟩
theorem oc_1 (g:Nat) (x:Opr) (v:Value) (l:zaa) (w:World) (K:Blk w g 48 #[.int .u8 x.kind,.int .i64 x.user,.int .i64 x.rect.c1,.int .i64 x.rect.r1,.int .i64 x.rect.c2,.int .i64 x.rect.r2,str x.input,.int .u64 x.rights.rd,.int .u64 x.rights.wr,.int .u64 x.rights.ow,.int .u8 x.fns,.int .u64 x.to_,.int .i64 x.index]) (h:Out w v l) (hl:l.length≤100000000):
 Calls prog 160 #[v,.pointer (some ⟨g,0,none⟩)] w fun e w'=>∃v',e=.returned v'∧Out w' v' (l++numI x.user)∧OutTo w v w' v':=by
 have c1:w.cell? ⟨g,1,none⟩=some (.int .i64 x.user):=K.cell 1
 clear K
 go_enter func160,ntmps160
 go_wp2_with fail
 refine (zbv v l _ _ h (by omega)).mono ?_
 rintro e w1 ⟨v1,rfl,o1,t1⟩
 have O1:=Hd o1
 have T1:=Hd t1
 clear o1 t1
 go_wp2
 go_ret
 exact ⟨_,rfl,O1.out,T1.out⟩
theorem oc_2 (g:Nat) (x:Opr) (v:Value) (l:zaa) (w:World) (K:Blk w g 48 #[.int .u8 x.kind,.int .i64 x.user,.int .i64 x.rect.c1,.int .i64 x.rect.r1,.int .i64 x.rect.c2,.int .i64 x.rect.r2,str x.input,.int .u64 x.rights.rd,.int .u64 x.rights.wr,.int .u64 x.rights.ow,.int .u8 x.fns,.int .u64 x.to_,.int .i64 x.index]) (h:Out w v l) (hl:l.length≤100000000):
 Calls prog 161 #[v,.pointer (some ⟨g,0,none⟩)] w fun e w'=>∃v',e=.returned v'∧Out w' v' (l++za7 x.rect)∧OutTo w v w' v':=by
 have c2:w.cell? ⟨g,2,none⟩=some (.int .i64 x.rect.c1):=K.cell 2
 have c3:w.cell? ⟨g,3,none⟩=some (.int .i64 x.rect.r1):=K.cell 3
 have c4:w.cell? ⟨g,4,none⟩=some (.int .i64 x.rect.c2):=K.cell 4
 have c5:w.cell? ⟨g,5,none⟩=some (.int .i64 x.rect.r2):=K.cell 5
 clear K
 go_enter func161,ntmps161
 go_wp2_with fail
 refine (zdu v l _ _ _ _ _ h (by omega)).mono ?_
 rintro e w1 ⟨v1,rfl,o1,t1⟩
 have O1:=Hd o1
 have T1:=Hd t1
 clear o1 t1
 go_wp2
 go_ret
 exact ⟨_,rfl,O1.out,T1.out⟩
theorem oc_3 (g:Nat) (x:Opr) (v:Value) (l:zaa) (w:World) (hi:x.input.length≤1000000000) (K:Blk w g 48 #[.int .u8 x.kind,.int .i64 x.user,.int .i64 x.rect.c1,.int .i64 x.rect.r1,.int .i64 x.rect.c2,.int .i64 x.rect.r2,str x.input,.int .u64 x.rights.rd,.int .u64 x.rights.wr,.int .u64 x.rights.ow,.int .u8 x.fns,.int .u64 x.to_,.int .i64 x.index]) (h:Out w v l) (hl:l.length≤100000000):
 Calls prog 162 #[v,.pointer (some ⟨g,0,none⟩)] w fun e w'=>∃v',e=.returned v'∧Out w' v' (l++zcy x.input)∧OutTo w v w' v':=by
 have c6:w.cell? ⟨g,6,none⟩=some (str x.input):=K.cell 6
 clear K
 go_enter func162,ntmps162
 go_wp2_with fail
 refine (zm6 v l _ _ h hi (by omega)).mono ?_
 rintro e w1 ⟨v1,rfl,o1,t1⟩
 have O1:=Hd o1
 have T1:=Hd t1
 clear o1 t1
 go_wp2
 go_ret
 exact ⟨_,rfl,O1.out,T1.out⟩
theorem oc_4 (g:Nat) (x:Opr) (v:Value) (l:zaa) (w:World) (a0:0≤x.rights.rd) (a1:x.rights.rd<18446744073709551616) (b0:0≤x.rights.wr) (b1:x.rights.wr<18446744073709551616) (c0:0≤x.rights.ow) (c1:x.rights.ow<18446744073709551616) (K:Blk w g 48 #[.int .u8 x.kind,.int .i64 x.user,.int .i64 x.rect.c1,.int .i64 x.rect.r1,.int .i64 x.rect.c2,.int .i64 x.rect.r2,str x.input,.int .u64 x.rights.rd,.int .u64 x.rights.wr,.int .u64 x.rights.ow,.int .u8 x.fns,.int .u64 x.to_,.int .i64 x.index]) (h:Out w v l) (hl:l.length≤100000000):
 Calls prog 163 #[v,.pointer (some ⟨g,0,none⟩)] w fun e w'=>∃v',e=.returned v'∧Out w' v' (l++zcb x.rights)∧OutTo w v w' v':=by
 have c7:w.cell? ⟨g,7,none⟩=some (.int .u64 x.rights.rd):=K.cell 7
 have c8:w.cell? ⟨g,8,none⟩=some (.int .u64 x.rights.wr):=K.cell 8
 have c9:w.cell? ⟨g,9,none⟩=some (.int .u64 x.rights.ow):=K.cell 9
 clear K
 go_enter func163,ntmps163
 go_wp2_with fail
 refine (zna v l _ _ _ _ a0 a1 b0 b1 c0 c1 h (by omega)).mono ?_
 rintro e w1 ⟨v1,rfl,o1,t1⟩
 have O1:=Hd o1
 have T1:=Hd t1
 clear o1 t1
 go_wp2
 go_ret
 exact ⟨_,rfl,O1.out,T1.out⟩
theorem oc_5 (g:Nat) (x:Opr) (v:Value) (l:zaa) (w:World) (K:Blk w g 48 #[.int .u8 x.kind,.int .i64 x.user,.int .i64 x.rect.c1,.int .i64 x.rect.r1,.int .i64 x.rect.c2,.int .i64 x.rect.r2,str x.input,.int .u64 x.rights.rd,.int .u64 x.rights.wr,.int .u64 x.rights.ow,.int .u8 x.fns,.int .u64 x.to_,.int .i64 x.index]) (h:Out w v l) (hl:l.length≤100000000):
 Calls prog 164 #[v,.pointer (some ⟨g,0,none⟩)] w fun e w'=>∃v',e=.returned v'∧Out w' v' (l++numI x.fns)∧OutTo w v w' v':=by
 have c10:w.cell? ⟨g,10,none⟩=some (.int .u8 x.fns):=K.cell 10
 clear K
 go_enter func164,ntmps164
 go_wp2_with fail
 refine (zle v l _ _ h (by omega)).mono ?_
 rintro e w1 ⟨v1,rfl,o1,t1⟩
 have O1:=Hd o1
 have T1:=Hd t1
 clear o1 t1
 go_wp2
 go_ret
 exact ⟨_,rfl,O1.out,T1.out⟩
theorem oc_6 (g:Nat) (x:Opr) (v:Value) (l:zaa) (w:World) (a0:0≤x.to_) (a1:x.to_<18446744073709551616) (K:Blk w g 48 #[.int .u8 x.kind,.int .i64 x.user,.int .i64 x.rect.c1,.int .i64 x.rect.r1,.int .i64 x.rect.c2,.int .i64 x.rect.r2,str x.input,.int .u64 x.rights.rd,.int .u64 x.rights.wr,.int .u64 x.rights.ow,.int .u8 x.fns,.int .u64 x.to_,.int .i64 x.index]) (h:Out w v l) (hl:l.length≤100000000):
 Calls prog 165 #[v,.pointer (some ⟨g,0,none⟩)] w fun e w'=>∃v',e=.returned v'∧Out w' v' (l++numI x.to_)∧OutTo w v w' v':=by
 have c11:w.cell? ⟨g,11,none⟩=some (.int .u64 x.to_):=K.cell 11
 clear K
 go_enter func165,ntmps165
 go_wp2_with fail
 refine (zhk v l _ _ a0 a1 h (by omega)).mono ?_
 rintro e w1 ⟨v1,rfl,o1,t1⟩
 have O1:=Hd o1
 have T1:=Hd t1
 clear o1 t1
 go_wp2
 go_ret
 exact ⟨_,rfl,O1.out,T1.out⟩
theorem oc_7 (g:Nat) (x:Opr) (v:Value) (l:zaa) (w:World) (K:Blk w g 48 #[.int .u8 x.kind,.int .i64 x.user,.int .i64 x.rect.c1,.int .i64 x.rect.r1,.int .i64 x.rect.c2,.int .i64 x.rect.r2,str x.input,.int .u64 x.rights.rd,.int .u64 x.rights.wr,.int .u64 x.rights.ow,.int .u8 x.fns,.int .u64 x.to_,.int .i64 x.index]) (h:Out w v l) (hl:l.length≤100000000):
 Calls prog 166 #[v,.pointer (some ⟨g,0,none⟩)] w fun e w'=>∃v',e=.returned v'∧Out w' v' (l++numI x.index)∧OutTo w v w' v':=by
 have c12:w.cell? ⟨g,12,none⟩=some (.int .i64 x.index):=K.cell 12
 clear K
 go_enter func166,ntmps166
 go_wp2_with fail
 refine (zbv v l _ _ h (by omega)).mono ?_
 rintro e w1 ⟨v1,rfl,o1,t1⟩
 have O1:=Hd o1
 have T1:=Hd t1
 clear o1 t1
 go_wp2
 go_ret
 exact ⟨_,rfl,O1.out,T1.out⟩
theorem zvc (x:Rts) (w:World):(binOp .neq 46 (.agg #[.int .u64 x.rd,.int .u64 x.wr,.int .u64 x.ow]) (.agg #[.int .u64 0,.int .u64 0,.int .u64 0])).run prog w=.ok (.bool (decide (x≠⟨0,0,0⟩))) w:=by
 obtain ⟨a,b,c⟩:=x
 simp [go_sem]
 by_cases q0:a=0
 ·by_cases q1:b=0
  ·by_cases q2:c=0
   ·simp [q0,q1,q2]
   simp [q0,q1,q2]
  simp [q0,q1]
 simp [q0]
theorem zvd (x:Rct) (w:World):(binOp .neq 43 (.agg #[.int .i64 x.c1,.int .i64 x.r1,.int .i64 x.c2,.int .i64 x.r2]) (.agg #[.int .i64 0,.int .i64 0,.int .i64 0,.int .i64 0])).run prog w=.ok (.bool (decide (x≠⟨0,0,0,0⟩))) w:=by
 obtain ⟨a,b,c,d⟩:=x
 simp [go_sem]
 by_cases q0:a=0
 ·by_cases q1:b=0
  ·by_cases q2:c=0
   ·by_cases q3:d=0
    ·simp [q0,q1,q2,q3]
    simp [q0,q1,q2,q3]
   simp [q0,q1,q2]
  simp [q0,q1]
 simp [q0]
theorem zyj (x:Opr) (v:Value) (l:zaa) (w:World) (hi:x.input.length≤1000000) (a0:0≤x.rights.rd) (a1:x.rights.rd<18446744073709551616) (b0:0≤x.rights.wr) (b1:x.rights.wr<18446744073709551616) (c0:0≤x.rights.ow) (c1:x.rights.ow<18446744073709551616) (t0:0≤x.to_) (t1:x.to_<18446744073709551616)
 (h:Out w v l) (hl:l.length≤100000000):
 Calls prog 103 #[v,.agg (cOpr x).toArray] w fun e w'=>∃v',e=.returned v'∧Out w' v' (l++oprB x)∧OutTo w v w' v':=by
 have hmf:∀(fn:Fn) (first cap:Array Value) (w:World),(Instr.makeFunc fn first cap).run prog w=.ok (.func fn first cap) w:=fun _ _ _ _=>rfl
 rw [show (cOpr x).toArray=#[.int .u8 x.kind,.int .i64 x.user,.int .i64 x.rect.c1,.int .i64 x.rect.r1,.int .i64 x.rect.c2,.int .i64 x.rect.r2,str x.input,.int .u64 x.rights.rd,.int .u64 x.rights.wr,.int .u64 x.rights.ow,.int .u8 x.fns,.int .u64 x.to_,.int .i64 x.index] from rfl]
 have KG:=Hd (Blk.new w 48 #[.int .u8 x.kind,.int .i64 x.user,.int .i64 x.rect.c1,.int .i64 x.rect.r1,.int .i64 x.rect.c2,.int .i64 x.rect.r2,str x.input,.int .u64 x.rights.rd,.int .u64 x.rights.wr,.int .u64 x.rights.ow,.int .u8 x.fns,.int .u64 x.to_,.int .i64 x.index])
 have HB0:=Hd (show Below w.heap.size w (w.alloc (.cells #[.int .u8 x.kind,.int .i64 x.user,.int .i64 x.rect.c1,.int .i64 x.rect.r1,.int .i64 x.rect.c2,.int .i64 x.rect.r2,str x.input,.int .u64 x.rights.rd,.int .u64 x.rights.wr,.int .u64 x.rights.ow,.int .u8 x.fns,.int .u64 x.to_,.int .i64 x.index] 48)) from by go_grown)
 have hn2:=zvd x.rect
 have hn4:=zvc x.rights
 obtain ⟨q1,hq1⟩:∃q,(x.user != 0)=q:=⟨_,rfl⟩
 obtain ⟨q2,hq2⟩:∃q,decide (x.rect≠⟨0,0,0,0⟩)=q:=⟨_,rfl⟩
 obtain ⟨q3,hq3⟩:∃q,(!(x.input==([]:List UInt8)))=q:=⟨_,rfl⟩
 obtain ⟨q4,hq4⟩:∃q,decide (x.rights≠⟨0,0,0⟩)=q:=⟨_,rfl⟩
 obtain ⟨q5,hq5⟩:∃q,(x.fns != 0)=q:=⟨_,rfl⟩
 obtain ⟨q6,hq6⟩:∃q,(x.to_ != 0)=q:=⟨_,rfl⟩
 obtain ⟨q7,hq7⟩:∃q,(x.index != 0)=q:=⟨_,rfl⟩
 have HF0:Hid ((oprF x)[0]?=some (q1,numI x.user)):=Hd (by rw [← (show decide (x.user≠0)=q1 from (by rw [← hq1];by_cases e:x.user=0 <;> simp [e]))];rfl)
 have HF1:Hid ((oprF x)[1]?=some (q2,za7 x.rect)):=Hd (by rw [← (show decide (x.rect≠⟨0,0,0,0⟩)=q2 from hq2)];rfl)
 have HF2:Hid ((oprF x)[2]?=some (q3,zcy x.input)):=Hd (by rw [← (show decide (x.input≠ [])=q3 from (by rw [← hq3];by_cases e:x.input=[] <;> simp [e]))];rfl)
 have HF3:Hid ((oprF x)[3]?=some (q4,zcb x.rights)):=Hd (by rw [← (show decide (x.rights≠⟨0,0,0⟩)=q4 from hq4)];rfl)
 have HF4:Hid ((oprF x)[4]?=some (q5,numI x.fns)):=Hd (by rw [← (show decide (x.fns≠0)=q5 from (by rw [← hq5];by_cases e:x.fns=0 <;> simp [e]))];rfl)
 have HF5:Hid ((oprF x)[5]?=some (q6,numI x.to_)):=Hd (by rw [← (show decide (x.to_≠0)=q6 from (by rw [← hq6];by_cases e:x.to_=0 <;> simp [e]))];rfl)
 have HF6:Hid ((oprF x)[6]?=some (q7,numI x.index)):=Hd (by rw [← (show decide (x.index≠0)=q7 from (by rw [← hq7];by_cases e:x.index=0 <;> simp [e]))];rfl)
 rw [hq2] at hn2
 rw [hq4] at hn4
 go_enter func103,ntmps103
 go_upto_region 1 with (fail)
 obtain ⟨W1,hW1⟩:∃W1,w.alloc (.cells #[.int .u8 x.kind,.int .i64 x.user,.int .i64 x.rect.c1,.int .i64 x.rect.r1,.int .i64 x.rect.c2,.int .i64 x.rect.r2,str x.input,.int .u64 x.rights.rd,.int .u64 x.rights.wr,.int .u64 x.rights.ow,.int .u8 x.fns,.int .u64 x.to_,.int .i64 x.index] 48)=W1:=⟨_,rfl⟩
 rw [hW1] at KG HB0 ⊢
 clear hW1
 go_upto_region 3 with (fail)
 refine wp_region_noPanic ?_
 refine wp_region_held_drew (S:=fun W=>Blk W w.heap.size 48 #[.int .u8 x.kind,.int .i64 x.user,.int .i64 x.rect.c1,.int .i64 x.rect.r1,.int .i64 x.rect.c2,.int .i64 x.rect.r2,str x.input,.int .u64 x.rights.rd,.int .u64 x.rights.wr,.int .u64 x.rights.ow,.int .u8 x.fns,.int .u64 x.to_,.int .i64 x.index]) (by kernel_rfl) KG.out.drew (fun hHeld=>?_)
 refine tH 0 ⟨some 9,.fieldAddr 48 (.tmp 3) 1,_,_,_,none⟩ (.pointer (some ⟨w.heap.size,1,none⟩)) rfl hHeld ?_
 try go_frame
 refine tH 1 ⟨some 10,.load 3 (.tmp 9),3,_,_,none⟩ (.int .i64 x.user) rfl hHeld ?_ (hy:=Or.inl ⟨by rfl,by intro W hW;have hc:W.cell? ⟨w.heap.size,1,none⟩=some (.int .i64 x.user):=hW.cell 1;go_simp⟩)
 try go_frame
 refine tH 2 ⟨some 11,.binOp .neq 3 (.tmp 10) (.const (.int .i64 0)) 3,_,_,_,none⟩ (.bool q1) rfl hHeld ?_
 try go_frame
 refine tH 3 ⟨some 12,.makeFunc (.func 160) #[] #[.tmp 3],_,_,_,none⟩ (.func (.func 160) #[] #[.pointer (some ⟨w.heap.size,0,none⟩)]) rfl hHeld ?_
 try go_frame
 refine tH 4 ⟨some 13,.build 184 #[(0,.tmp 11),(1,.tmp 12)],_,_,_,none⟩ (.agg #[.bool q1,.func (.func 160) #[] #[.pointer (some ⟨w.heap.size,0,none⟩)]]) rfl hHeld ?_
 try go_frame
 refine tH 5 ⟨some 14,.fieldAddr 48 (.tmp 3) 2,_,_,_,none⟩ (.pointer (some ⟨w.heap.size,2,none⟩)) rfl hHeld ?_
 try go_frame
 refine wpAnyH_take (i:=6) (oi:=⟨some 15,.load 43 (.tmp 14),43,_,_,none⟩) (v:=.agg _) rfl (by kernel_rfl) (by kernel_rfl) (by kernel_rfl) (fun c d e h=>NoPanic.put h) (yieldsIf_load_mid rfl _ _ rfl (w.heap.size) (2) rfl _ _ (fun W' h=>h.range (l:=[.int .i64 x.rect.c1,.int .i64 x.rect.r1,.int .i64 x.rect.c2,.int .i64 x.rect.r2]) (o:=2) (by
  intro j v hj
  rcases j with _ | _ | _ | _ | j
  ·exact hj
  ·exact hj
  ·exact hj
  ·exact hj
  simp at hj)) rfl rfl (by kernel_rfl)) hHeld ?_
 try go_frame
 refine tH 7 ⟨some 16,.build 43 #[],_,_,_,none⟩ (.agg #[.int .i64 0,.int .i64 0,.int .i64 0,.int .i64 0]) rfl hHeld ?_
 try go_frame
 refine tH 8 ⟨some 17,.binOp .neq 43 (.tmp 15) (.tmp 16) 43,_,_,_,none⟩ (.bool q2) rfl hHeld ?_
 try go_frame
 refine tH 9 ⟨some 18,.makeFunc (.func 161) #[] #[.tmp 3],_,_,_,none⟩ (.func (.func 161) #[] #[.pointer (some ⟨w.heap.size,0,none⟩)]) rfl hHeld ?_
 try go_frame
 refine tH 10 ⟨some 19,.build 184 #[(0,.tmp 17),(1,.tmp 18)],_,_,_,none⟩ (.agg #[.bool q2,.func (.func 161) #[] #[.pointer (some ⟨w.heap.size,0,none⟩)]]) rfl hHeld ?_
 try go_frame
 refine tH 11 ⟨some 20,.fieldAddr 48 (.tmp 3) 3,_,_,_,none⟩ (.pointer (some ⟨w.heap.size,6,none⟩)) rfl hHeld ?_
 try go_frame
 refine tH 12 ⟨some 21,.load 9 (.tmp 20),9,_,_,none⟩ (str x.input) rfl hHeld ?_ (hy:=Or.inl ⟨by rfl,by intro W hW;have hc:W.cell? ⟨w.heap.size,6,none⟩=some (str x.input):=hW.cell 6;go_simp⟩)
 try go_frame
 refine tH 13 ⟨some 22,.binOp .neq 9 (.tmp 21) (.const (.string ⟨#[]⟩)) 9,_,_,_,none⟩ (.bool q3) rfl hHeld ?_ (hy:=Or.inl ⟨by rfl,by intro W hW;go_simp;rw [← hq3];cases x.input <;> rfl⟩)
 try go_frame
 refine tH 14 ⟨some 23,.makeFunc (.func 162) #[] #[.tmp 3],_,_,_,none⟩ (.func (.func 162) #[] #[.pointer (some ⟨w.heap.size,0,none⟩)]) rfl hHeld ?_
 try go_frame
 refine tH 15 ⟨some 24,.build 184 #[(0,.tmp 22),(1,.tmp 23)],_,_,_,none⟩ (.agg #[.bool q3,.func (.func 162) #[] #[.pointer (some ⟨w.heap.size,0,none⟩)]]) rfl hHeld ?_
 try go_frame
 refine tH 16 ⟨some 25,.fieldAddr 48 (.tmp 3) 4,_,_,_,none⟩ (.pointer (some ⟨w.heap.size,7,none⟩)) rfl hHeld ?_
 try go_frame
 refine wpAnyH_take (i:=17) (oi:=⟨some 26,.load 46 (.tmp 25),46,_,_,none⟩) (v:=.agg _) rfl (by kernel_rfl) (by kernel_rfl) (by kernel_rfl) (fun c d e h=>NoPanic.put h) (yieldsIf_load_mid rfl _ _ rfl (w.heap.size) (7) rfl _ _ (fun W' h=>h.range (l:=[.int .u64 x.rights.rd,.int .u64 x.rights.wr,.int .u64 x.rights.ow]) (o:=7) (by
  intro j v hj
  rcases j with _ | _ | _ | j
  ·exact hj
  ·exact hj
  ·exact hj
  simp at hj)) rfl rfl (by kernel_rfl)) hHeld ?_
 try go_frame
 refine tH 18 ⟨some 27,.build 46 #[],_,_,_,none⟩ (.agg #[.int .u64 0,.int .u64 0,.int .u64 0]) rfl hHeld ?_
 try go_frame
 refine tH 19 ⟨some 28,.binOp .neq 46 (.tmp 26) (.tmp 27) 46,_,_,_,none⟩ (.bool q4) rfl hHeld ?_
 try go_frame
 refine tH 20 ⟨some 29,.makeFunc (.func 163) #[] #[.tmp 3],_,_,_,none⟩ (.func (.func 163) #[] #[.pointer (some ⟨w.heap.size,0,none⟩)]) rfl hHeld ?_
 try go_frame
 refine tH 21 ⟨some 30,.build 184 #[(0,.tmp 28),(1,.tmp 29)],_,_,_,none⟩ (.agg #[.bool q4,.func (.func 163) #[] #[.pointer (some ⟨w.heap.size,0,none⟩)]]) rfl hHeld ?_
 try go_frame
 refine tH 22 ⟨some 31,.fieldAddr 48 (.tmp 3) 5,_,_,_,none⟩ (.pointer (some ⟨w.heap.size,10,none⟩)) rfl hHeld ?_
 try go_frame
 refine tH 23 ⟨some 32,.load 5 (.tmp 31),5,_,_,none⟩ (.int .u8 x.fns) rfl hHeld ?_ (hy:=Or.inl ⟨by rfl,by intro W hW;have hc:W.cell? ⟨w.heap.size,10,none⟩=some (.int .u8 x.fns):=hW.cell 10;go_simp⟩)
 try go_frame
 refine tH 24 ⟨some 33,.binOp .neq 5 (.tmp 32) (.const (.int .u8 0)) 5,_,_,_,none⟩ (.bool q5) rfl hHeld ?_
 try go_frame
 refine tH 25 ⟨some 34,.makeFunc (.func 164) #[] #[.tmp 3],_,_,_,none⟩ (.func (.func 164) #[] #[.pointer (some ⟨w.heap.size,0,none⟩)]) rfl hHeld ?_
 try go_frame
 refine tH 26 ⟨some 35,.build 184 #[(0,.tmp 33),(1,.tmp 34)],_,_,_,none⟩ (.agg #[.bool q5,.func (.func 164) #[] #[.pointer (some ⟨w.heap.size,0,none⟩)]]) rfl hHeld ?_
 try go_frame
 refine tH 27 ⟨some 36,.fieldAddr 48 (.tmp 3) 6,_,_,_,none⟩ (.pointer (some ⟨w.heap.size,11,none⟩)) rfl hHeld ?_
 try go_frame
 refine tH 28 ⟨some 37,.load 44 (.tmp 36),44,_,_,none⟩ (.int .u64 x.to_) rfl hHeld ?_ (hy:=Or.inl ⟨by rfl,by intro W hW;have hc:W.cell? ⟨w.heap.size,11,none⟩=some (.int .u64 x.to_):=hW.cell 11;go_simp⟩)
 try go_frame
 refine tH 29 ⟨some 38,.binOp .neq 44 (.tmp 37) (.const (.int .u64 0)) 44,_,_,_,none⟩ (.bool q6) rfl hHeld ?_
 try go_frame
 refine tH 30 ⟨some 39,.makeFunc (.func 165) #[] #[.tmp 3],_,_,_,none⟩ (.func (.func 165) #[] #[.pointer (some ⟨w.heap.size,0,none⟩)]) rfl hHeld ?_
 try go_frame
 refine tH 31 ⟨some 40,.build 184 #[(0,.tmp 38),(1,.tmp 39)],_,_,_,none⟩ (.agg #[.bool q6,.func (.func 165) #[] #[.pointer (some ⟨w.heap.size,0,none⟩)]]) rfl hHeld ?_
 try go_frame
 refine tH 32 ⟨some 41,.fieldAddr 48 (.tmp 3) 7,_,_,_,none⟩ (.pointer (some ⟨w.heap.size,12,none⟩)) rfl hHeld ?_
 try go_frame
 refine tH 33 ⟨some 42,.load 3 (.tmp 41),3,_,_,none⟩ (.int .i64 x.index) rfl hHeld ?_ (hy:=Or.inl ⟨by rfl,by intro W hW;have hc:W.cell? ⟨w.heap.size,12,none⟩=some (.int .i64 x.index):=hW.cell 12;go_simp⟩)
 try go_frame
 refine tH 34 ⟨some 43,.binOp .neq 3 (.tmp 42) (.const (.int .i64 0)) 3,_,_,_,none⟩ (.bool q7) rfl hHeld ?_
 try go_frame
 refine tH 35 ⟨some 44,.makeFunc (.func 166) #[] #[.tmp 3],_,_,_,none⟩ (.func (.func 166) #[] #[.pointer (some ⟨w.heap.size,0,none⟩)]) rfl hHeld ?_
 try go_frame
 refine tH 36 ⟨some 45,.build 184 #[(0,.tmp 43),(1,.tmp 44)],_,_,_,none⟩ (.agg #[.bool q7,.func (.func 166) #[] #[.pointer (some ⟨w.heap.size,0,none⟩)]]) rfl hHeld ?_
 try go_frame
 refine tH 39 ⟨some 48,.move (.const (.int .i64 0)),_,_,_,none⟩ (.int .i64 0) rfl hHeld ?_
 try go_frame
 refine tC 37 ⟨some 46,.buildSlice 185 7 #[(0,.tmp 13),(1,.tmp 19),(2,.tmp 24),(3,.tmp 30),(4,.tmp 35),(5,.tmp 40),(6,.tmp 45)],185,_,_,none⟩ rfl fun K hK=>?_
 go_simp
 refine hK.out _ _ ((KG.out.drew.alloc _).drew) (fun hHeld=>?_)
 clear hK K
 try go_frame
 refine tH 38 ⟨some 47,.call { callee:=.builtin .len,args:=#[.tmp 46],argTypes:=#[185] },_,_,_,none⟩ (.int .i64 7) rfl hHeld ?_
 try go_frame
 refine wpAnyH_done (by kernel_rfl) ?_ _
 refine NoPanic.normal ?_
 have KF:=Hd ((Blk.new W1 184 #[.bool q1,.func (.func 160) #[] #[.pointer (some ⟨w.heap.size,0,none⟩)],.bool q2,.func (.func 161) #[] #[.pointer (some ⟨w.heap.size,0,none⟩)],.bool q3,.func (.func 162) #[] #[.pointer (some ⟨w.heap.size,0,none⟩)],.bool q4,.func (.func 163) #[] #[.pointer (some ⟨w.heap.size,0,none⟩)],.bool q5,.func (.func 164) #[] #[.pointer (some ⟨w.heap.size,0,none⟩)],.bool q6,.func (.func 165) #[] #[.pointer (some ⟨w.heap.size,0,none⟩)],.bool q7,.func (.func 166) #[] #[.pointer (some ⟨w.heap.size,0,none⟩)]]).drew)
 have KG2:=Hd ((KG.out.alloc (.cells #[.bool q1,.func (.func 160) #[] #[.pointer (some ⟨w.heap.size,0,none⟩)],.bool q2,.func (.func 161) #[] #[.pointer (some ⟨w.heap.size,0,none⟩)],.bool q3,.func (.func 162) #[] #[.pointer (some ⟨w.heap.size,0,none⟩)],.bool q4,.func (.func 163) #[] #[.pointer (some ⟨w.heap.size,0,none⟩)],.bool q5,.func (.func 164) #[] #[.pointer (some ⟨w.heap.size,0,none⟩)],.bool q6,.func (.func 165) #[] #[.pointer (some ⟨w.heap.size,0,none⟩)],.bool q7,.func (.func 166) #[] #[.pointer (some ⟨w.heap.size,0,none⟩)]] 184)).drew)
 have HB2:=Hd (show Below w.heap.size w (W1.alloc (.cells #[.bool q1,.func (.func 160) #[] #[.pointer (some ⟨w.heap.size,0,none⟩)],.bool q2,.func (.func 161) #[] #[.pointer (some ⟨w.heap.size,0,none⟩)],.bool q3,.func (.func 162) #[] #[.pointer (some ⟨w.heap.size,0,none⟩)],.bool q4,.func (.func 163) #[] #[.pointer (some ⟨w.heap.size,0,none⟩)],.bool q5,.func (.func 164) #[] #[.pointer (some ⟨w.heap.size,0,none⟩)],.bool q6,.func (.func 165) #[] #[.pointer (some ⟨w.heap.size,0,none⟩)],.bool q7,.func (.func 166) #[] #[.pointer (some ⟨w.heap.size,0,none⟩)]] 184)).drew from (HB0.out.alloc HB0.out.size _).drew)
 have hlt2:W1.heap.size<(W1.alloc (.cells #[.bool q1,.func (.func 160) #[] #[.pointer (some ⟨w.heap.size,0,none⟩)],.bool q2,.func (.func 161) #[] #[.pointer (some ⟨w.heap.size,0,none⟩)],.bool q3,.func (.func 162) #[] #[.pointer (some ⟨w.heap.size,0,none⟩)],.bool q4,.func (.func 163) #[] #[.pointer (some ⟨w.heap.size,0,none⟩)],.bool q5,.func (.func 164) #[] #[.pointer (some ⟨w.heap.size,0,none⟩)],.bool q6,.func (.func 165) #[] #[.pointer (some ⟨w.heap.size,0,none⟩)],.bool q7,.func (.func 166) #[] #[.pointer (some ⟨w.heap.size,0,none⟩)]] 184)).drew.heap.size:=by show _<(W1.heap.push _).size;simp
 have hlt1:w.heap.size<W1.heap.size:=KG.out.lt
 obtain ⟨W2,hW2⟩:∃W2,(W1.alloc (.cells #[.bool q1,.func (.func 160) #[] #[.pointer (some ⟨w.heap.size,0,none⟩)],.bool q2,.func (.func 161) #[] #[.pointer (some ⟨w.heap.size,0,none⟩)],.bool q3,.func (.func 162) #[] #[.pointer (some ⟨w.heap.size,0,none⟩)],.bool q4,.func (.func 163) #[] #[.pointer (some ⟨w.heap.size,0,none⟩)],.bool q5,.func (.func 164) #[] #[.pointer (some ⟨w.heap.size,0,none⟩)],.bool q6,.func (.func 165) #[] #[.pointer (some ⟨w.heap.size,0,none⟩)],.bool q7,.func (.func 166) #[] #[.pointer (some ⟨w.heap.size,0,none⟩)]] 184)).drew=W2:=⟨_,rfl⟩
 rw [hW2] at KF KG2 HB2 hlt2 ⊢
 obtain ⟨p,hp⟩:∃p,W1.heap.size=p:=⟨_,rfl⟩
 rw [hp] at KF hlt2 hlt1 ⊢
 clear hW2 hp KG HB0 hn2 hn4 hmf hHeld
 have HO:=Hd (h.below HB2.out)
 go_wp2_with fail
 go_loopw [5,6,48] (fun m fv i wr=>∃k:Nat,k≤7∧i=.int .i64 k∧m=.int .i64 (mkN x k)∧Out wr fv (mkS x k)∧(∀q,fv.ownBlock=some q→W2.heap.size≤q)∧Below W2.heap.size W2 wr) (fun _ _ i _=>7-(intOf i).toNat)
 case atStart=>exact ⟨0,by omega,rfl,rfl,Out.nil _,fun q hq=>by simp [Value.ownBlock] at hq,Below.refl _ _⟩
 rename World=>w0
 obtain ⟨k,hk,rfl,rfl,ho,hob,hbw⟩:=hrel
 have HBW:=Hd hbw
 have HOW:=Hd ho
 have HOB:=Hd hob
 have KFW:=Hd (KF.out.below hbw hlt2)
 have KGW:=Hd (KG2.out.below hbw KG2.out.lt)
 clear ho hob hbw
 have h8:k=7∨k=0∨k=1∨k=2∨k=3∨k=4∨k=5∨k=6:=by omega
 rcases h8 with rfl | rfl | rfl | rfl | rfl | rfl | rfl | rfl
 ·rw [show (((7:Nat):Int))=7 from rfl]
  have e0:w0.cell? ⟨w.heap.size,0,none⟩=some (.int .u8 x.kind):=KGW.out.cell 0
  go_wp2_with fail
  refine (zle v l x.kind w0 (HO.out.below HBW.out) (by omega)).mono ?_
  rintro e w3 ⟨v3,rfl,o3,t3⟩
  have O3:=Hd o3
  have T3:=Hd t3
  clear o3 t3 e0
  go_wp2_with fail
  refine (zbv v3 _ (mkN x 7) w3 O3.out (by rw [List.length_append];have:=zab x.kind;omega)).mono ?_
  rintro e w4 ⟨v4,rfl,o4,t4⟩
  have hne:∀q,u6.ownBlock=some q→v.ownBlock≠some q:=fun q hq e=>by
   have k1:=HOB.out q hq
   have k2:=HO.out.lt q e
   omega
  have T34:=Hd (T3.out.trans t4)
  have OU:=Hd (HOW.out.outTo T34.out hne)
  obtain ⟨i0,hi0,hz0,hz1,hz2⟩:=info_parts (show (prog.info? 5).map (fun i=>(i.zero,i.size,i.bytes))=some (some (.int .u8 0),1,1) by kernel_rfl)
  obtain ⟨v5,w5,hr,o5,t5⟩:=zt6 w4 59 59 i0 underlying59 hi0 hz0 hz1 hz2 v4 _ o4 u6 _ OU.out (by
   have m0:=zfs x hi 7
   have m1:=zab x.kind
   have m2:=zab (mkN x 7)
   simp only [List.length_append]
   omega)
  have R1:=Hd hr
  have O5:=Hd o5
  have T5:=Hd (T34.out.trans t5)
  clear hr o5 t5 o4 t4 hne hi0 hz0 hz1 hz2
  go_wp2_with (first | (at_builtin;refine zgl rfl (.tmp 69) (.tmp 70) 59 59 rfl v4 u6 v5 w5 rfl rfl R1.out ?_))
  go_ret
  refine ⟨v5,rfl,?_,?_⟩
  ·have e:l++oprB x=l++numI x.kind++numI (mkN x 7)++mkS x 7:=by
    rw [List.append_assoc,List.append_assoc]
    unfold oprB
    rw [List.append_assoc]
    rfl
   rw [e]
   exact O5.out
  exact (((OutTo.refl w v).below HB2.out).below HBW.out).trans T5.out
 ·rw [show (((0:Nat):Int))=0 from rfl]
  have e1:w0.cell? ⟨p,0,none⟩=some (.bool q1):=KFW.out.cell 0
  have e2:w0.cell? ⟨p,1,none⟩=some (.func (.func 160) #[] #[.pointer (some ⟨w.heap.size,0,none⟩)]):=KFW.out.cell 1
  cases q1
  ·go_wp2_with fail
   obtain ⟨f1,f2⟩:=zb0 x 0 _ HF0.out
   exact ⟨⟨1,by omega,rfl,by rw [← f1],by rw [show mkS x 1=_ from f2];exact HOW.out.alloc _,HOB.out,HBW.out.alloc HBW.out.size _⟩,by simp [intOf]⟩
  go_wp2_with fail
  obtain ⟨f1,f2⟩:=zcq x 0 _ (by omega) HF0.out
  rw [show ((2:Int) ^ 0)=1 from by decide] at f1
  have F1:=Hd f1
  have F2:=Hd f2
  clear f1 f2 e1 e2
  refine (oc_1 w.heap.size x u6 (mkS x 0) _ (KGW.out.alloc _) (HOW.out.alloc _) (by have:=zfs x hi 0;omega)).mono ?_
  rintro e w3 ⟨u7,rfl,o3,t3⟩
  have O3:=Hd o3
  have T3:=Hd t3
  clear o3 t3
  go_wp2
  exact ⟨⟨1,by omega,rfl,congrArg (Value.int .i64) (show bits .or .i64 (mkN x 0) 1=mkN x 1 from F1.out),by rw [show mkS x 1=_ from F2.out];exact O3.out,T3.out.newer (Nat.le_trans HBW.out.size (Below.alloc (Below.refl _ _) (Nat.le_refl _) _).size) HOB.out,(HBW.out.alloc HBW.out.size _).trans (T3.out.old (HBW.out.alloc HBW.out.size _).size HOB.out)⟩,by simp [intOf]⟩
 ·rw [show (((1:Nat):Int))=1 from rfl]
  have e1:w0.cell? ⟨p,2,none⟩=some (.bool q2):=KFW.out.cell 2
  have e2:w0.cell? ⟨p,3,none⟩=some (.func (.func 161) #[] #[.pointer (some ⟨w.heap.size,0,none⟩)]):=KFW.out.cell 3
  cases q2
  ·go_wp2_with fail
   obtain ⟨f1,f2⟩:=zb0 x 1 _ HF1.out
   exact ⟨⟨2,by omega,rfl,by rw [← f1],by rw [show mkS x 2=_ from f2];exact HOW.out.alloc _,HOB.out,HBW.out.alloc HBW.out.size _⟩,by simp [intOf]⟩
  go_wp2_with fail
  obtain ⟨f1,f2⟩:=zcq x 1 _ (by omega) HF1.out
  rw [show ((2:Int) ^ 1)=2 from by decide] at f1
  have F1:=Hd f1
  have F2:=Hd f2
  clear f1 f2 e1 e2
  refine (oc_2 w.heap.size x u6 (mkS x 1) _ (KGW.out.alloc _) (HOW.out.alloc _) (by have:=zfs x hi 1;omega)).mono ?_
  rintro e w3 ⟨u7,rfl,o3,t3⟩
  have O3:=Hd o3
  have T3:=Hd t3
  clear o3 t3
  go_wp2
  exact ⟨⟨2,by omega,rfl,congrArg (Value.int .i64) (show bits .or .i64 (mkN x 1) 2=mkN x 2 from F1.out),by rw [show mkS x 2=_ from F2.out];exact O3.out,T3.out.newer (Nat.le_trans HBW.out.size (Below.alloc (Below.refl _ _) (Nat.le_refl _) _).size) HOB.out,(HBW.out.alloc HBW.out.size _).trans (T3.out.old (HBW.out.alloc HBW.out.size _).size HOB.out)⟩,by simp [intOf]⟩
 ·rw [show (((2:Nat):Int))=2 from rfl]
  have e1:w0.cell? ⟨p,4,none⟩=some (.bool q3):=KFW.out.cell 4
  have e2:w0.cell? ⟨p,5,none⟩=some (.func (.func 162) #[] #[.pointer (some ⟨w.heap.size,0,none⟩)]):=KFW.out.cell 5
  cases q3
  ·go_wp2_with fail
   obtain ⟨f1,f2⟩:=zb0 x 2 _ HF2.out
   exact ⟨⟨3,by omega,rfl,by rw [← f1],by rw [show mkS x 3=_ from f2];exact HOW.out.alloc _,HOB.out,HBW.out.alloc HBW.out.size _⟩,by simp [intOf]⟩
  go_wp2_with fail
  obtain ⟨f1,f2⟩:=zcq x 2 _ (by omega) HF2.out
  rw [show ((2:Int) ^ 2)=4 from by decide] at f1
  have F1:=Hd f1
  have F2:=Hd f2
  clear f1 f2 e1 e2
  refine (oc_3 w.heap.size x u6 (mkS x 2) _ (by omega) (KGW.out.alloc _) (HOW.out.alloc _) (by have:=zfs x hi 2;omega)).mono ?_
  rintro e w3 ⟨u7,rfl,o3,t3⟩
  have O3:=Hd o3
  have T3:=Hd t3
  clear o3 t3
  go_wp2
  exact ⟨⟨3,by omega,rfl,congrArg (Value.int .i64) (show bits .or .i64 (mkN x 2) 4=mkN x 3 from F1.out),by rw [show mkS x 3=_ from F2.out];exact O3.out,T3.out.newer (Nat.le_trans HBW.out.size (Below.alloc (Below.refl _ _) (Nat.le_refl _) _).size) HOB.out,(HBW.out.alloc HBW.out.size _).trans (T3.out.old (HBW.out.alloc HBW.out.size _).size HOB.out)⟩,by simp [intOf]⟩
 ·rw [show (((3:Nat):Int))=3 from rfl]
  have e1:w0.cell? ⟨p,6,none⟩=some (.bool q4):=KFW.out.cell 6
  have e2:w0.cell? ⟨p,7,none⟩=some (.func (.func 163) #[] #[.pointer (some ⟨w.heap.size,0,none⟩)]):=KFW.out.cell 7
  cases q4
  ·go_wp2_with fail
   obtain ⟨f1,f2⟩:=zb0 x 3 _ HF3.out
   exact ⟨⟨4,by omega,rfl,by rw [← f1],by rw [show mkS x 4=_ from f2];exact HOW.out.alloc _,HOB.out,HBW.out.alloc HBW.out.size _⟩,by simp [intOf]⟩
  go_wp2_with fail
  obtain ⟨f1,f2⟩:=zcq x 3 _ (by omega) HF3.out
  rw [show ((2:Int) ^ 3)=8 from by decide] at f1
  have F1:=Hd f1
  have F2:=Hd f2
  clear f1 f2 e1 e2
  refine (oc_4 w.heap.size x u6 (mkS x 3) _ a0 a1 b0 b1 c0 c1 (KGW.out.alloc _) (HOW.out.alloc _) (by have:=zfs x hi 3;omega)).mono ?_
  rintro e w3 ⟨u7,rfl,o3,t3⟩
  have O3:=Hd o3
  have T3:=Hd t3
  clear o3 t3
  go_wp2
  exact ⟨⟨4,by omega,rfl,congrArg (Value.int .i64) (show bits .or .i64 (mkN x 3) 8=mkN x 4 from F1.out),by rw [show mkS x 4=_ from F2.out];exact O3.out,T3.out.newer (Nat.le_trans HBW.out.size (Below.alloc (Below.refl _ _) (Nat.le_refl _) _).size) HOB.out,(HBW.out.alloc HBW.out.size _).trans (T3.out.old (HBW.out.alloc HBW.out.size _).size HOB.out)⟩,by simp [intOf]⟩
 ·rw [show (((4:Nat):Int))=4 from rfl]
  have e1:w0.cell? ⟨p,8,none⟩=some (.bool q5):=KFW.out.cell 8
  have e2:w0.cell? ⟨p,9,none⟩=some (.func (.func 164) #[] #[.pointer (some ⟨w.heap.size,0,none⟩)]):=KFW.out.cell 9
  cases q5
  ·go_wp2_with fail
   obtain ⟨f1,f2⟩:=zb0 x 4 _ HF4.out
   exact ⟨⟨5,by omega,rfl,by rw [← f1],by rw [show mkS x 5=_ from f2];exact HOW.out.alloc _,HOB.out,HBW.out.alloc HBW.out.size _⟩,by simp [intOf]⟩
  go_wp2_with fail
  obtain ⟨f1,f2⟩:=zcq x 4 _ (by omega) HF4.out
  rw [show ((2:Int) ^ 4)=16 from by decide] at f1
  have F1:=Hd f1
  have F2:=Hd f2
  clear f1 f2 e1 e2
  refine (oc_5 w.heap.size x u6 (mkS x 4) _ (KGW.out.alloc _) (HOW.out.alloc _) (by have:=zfs x hi 4;omega)).mono ?_
  rintro e w3 ⟨u7,rfl,o3,t3⟩
  have O3:=Hd o3
  have T3:=Hd t3
  clear o3 t3
  go_wp2
  exact ⟨⟨5,by omega,rfl,congrArg (Value.int .i64) (show bits .or .i64 (mkN x 4) 16=mkN x 5 from F1.out),by rw [show mkS x 5=_ from F2.out];exact O3.out,T3.out.newer (Nat.le_trans HBW.out.size (Below.alloc (Below.refl _ _) (Nat.le_refl _) _).size) HOB.out,(HBW.out.alloc HBW.out.size _).trans (T3.out.old (HBW.out.alloc HBW.out.size _).size HOB.out)⟩,by simp [intOf]⟩
 ·rw [show (((5:Nat):Int))=5 from rfl]
  have e1:w0.cell? ⟨p,10,none⟩=some (.bool q6):=KFW.out.cell 10
  have e2:w0.cell? ⟨p,11,none⟩=some (.func (.func 165) #[] #[.pointer (some ⟨w.heap.size,0,none⟩)]):=KFW.out.cell 11
  cases q6
  ·go_wp2_with fail
   obtain ⟨f1,f2⟩:=zb0 x 5 _ HF5.out
   exact ⟨⟨6,by omega,rfl,by rw [← f1],by rw [show mkS x 6=_ from f2];exact HOW.out.alloc _,HOB.out,HBW.out.alloc HBW.out.size _⟩,by simp [intOf]⟩
  go_wp2_with fail
  obtain ⟨f1,f2⟩:=zcq x 5 _ (by omega) HF5.out
  rw [show ((2:Int) ^ 5)=32 from by decide] at f1
  have F1:=Hd f1
  have F2:=Hd f2
  clear f1 f2 e1 e2
  refine (oc_6 w.heap.size x u6 (mkS x 5) _ t0 t1 (KGW.out.alloc _) (HOW.out.alloc _) (by have:=zfs x hi 5;omega)).mono ?_
  rintro e w3 ⟨u7,rfl,o3,t3⟩
  have O3:=Hd o3
  have T3:=Hd t3
  clear o3 t3
  go_wp2
  exact ⟨⟨6,by omega,rfl,congrArg (Value.int .i64) (show bits .or .i64 (mkN x 5) 32=mkN x 6 from F1.out),by rw [show mkS x 6=_ from F2.out];exact O3.out,T3.out.newer (Nat.le_trans HBW.out.size (Below.alloc (Below.refl _ _) (Nat.le_refl _) _).size) HOB.out,(HBW.out.alloc HBW.out.size _).trans (T3.out.old (HBW.out.alloc HBW.out.size _).size HOB.out)⟩,by simp [intOf]⟩
 rw [show (((6:Nat):Int))=6 from rfl]
 have e1:w0.cell? ⟨p,12,none⟩=some (.bool q7):=KFW.out.cell 12
 have e2:w0.cell? ⟨p,13,none⟩=some (.func (.func 166) #[] #[.pointer (some ⟨w.heap.size,0,none⟩)]):=KFW.out.cell 13
 cases q7
 ·go_wp2_with fail
  obtain ⟨f1,f2⟩:=zb0 x 6 _ HF6.out
  exact ⟨⟨7,by omega,rfl,by rw [← f1],by rw [show mkS x 7=_ from f2];exact HOW.out.alloc _,HOB.out,HBW.out.alloc HBW.out.size _⟩,by simp [intOf]⟩
 go_wp2_with fail
 obtain ⟨f1,f2⟩:=zcq x 6 _ (by omega) HF6.out
 rw [show ((2:Int) ^ 6)=64 from by decide] at f1
 have F1:=Hd f1
 have F2:=Hd f2
 clear f1 f2 e1 e2
 refine (oc_7 w.heap.size x u6 (mkS x 6) _ (KGW.out.alloc _) (HOW.out.alloc _) (by have:=zfs x hi 6;omega)).mono ?_
 rintro e w3 ⟨u7,rfl,o3,t3⟩
 have O3:=Hd o3
 have T3:=Hd t3
 clear o3 t3
 go_wp2
 exact ⟨⟨7,by omega,rfl,congrArg (Value.int .i64) (show bits .or .i64 (mkN x 6) 64=mkN x 7 from F1.out),by rw [show mkS x 7=_ from F2.out];exact O3.out,T3.out.newer (Nat.le_trans HBW.out.size (Below.alloc (Below.refl _ _) (Nat.le_refl _) _).size) HOB.out,(HBW.out.alloc HBW.out.size _).trans (T3.out.old (HBW.out.alloc HBW.out.size _).size HOB.out)⟩,by simp [intOf]⟩
end Go.Proofs.YtamcgggmfghljaaGreatDoor
