/- walk -/
import Derived.Test.YtamcgggmfghljaaGreatDoorE22
import Derived.Test.YtamcgggmfghljaaGreatDoorE23
set_option maxRecDepth 100000
set_option maxHeartbeats 8000000
open Go.Proofs.Tryz
namespace Go.Proofs.YtamcgggmfghljaaGreatDoor
open Go.RowKit
variable {h l x:Int} {B g:Nat} {r:Rd} {a w:World}
structure OpTo (p g:Nat) (W W':World) (r':Rd) (x:Opr):Prop where
 blk:RdAt W' p r'
 op:Blk W' g 48 (cOpr x).toArray
 chg:Chg (λk=>k=p\/k=g) W W'
theorem zod {q:Nat × Rd} (h:numR r=q) (hx:zaj q.1=x):intR r=(x,q.2):=by unfold intR;rw[h,hx]
theorem u64R_q {q:Nat × Rd} (h:numR r=q) (hx:((q.1:Nat):Int)=x):u64R r=(x,q.2):=by unfold u64R;rw[h,hx]
theorem u8R_q {q:Nat × Rd} (h:numR r=q) (hx:((q.1 % 256:Nat):Int)=x):u8R r=(x,q.2):=by unfold u8R;rw[h,hx]
theorem po_1 (p c g:Nat) (t:TypeId) (r:Rd) (x:Opr) (W:World) (hc:Blk W c t #[.pointer (some (p,0))]) (hgp:g≠p) (hg:Blk W g 48 (cOpr x).toArray) (h:RdAt W p r) (hl:r.1.length<=1000000):
 Calls prog 146 (aQ c g) W λu W'=>u=.returned (.tuple #[])/\OpTo p g W W' (intR r).2 { x with user:=(intR r).1 }:=by
 have c0:=hc.cell 0;have HG:=Hd hg;have HH:=Hd h;have HC:=Hd (zb3 p r W h hl);clear hc hg h hl;go_enter func146,ntmps146;go_wp2_with fail;have hC:=HC.o;obtain ⟨q1,hq⟩:=jN (numR r);rw[hq] at hC;have HQ:=Hd hq;clear hq;refine hC.mono ?_;rintro e W1 ⟨rfl,t1⟩;have T1:=Hd t1;have G1:=Hd (t1.keep HG.o hgp);clear t1 hC HC;generalize hx:zaj q1.1=v1;have HE:=Hd (zod HQ.o hx);clear hx;have e1:W1.cell? (g,1)=some (.int .i64 x.user):=G1.o.cell 1;have f1:W1.frozen? (g,1)=false:=G1.o.frozen 1;have KF:=Hd (G1.o.set_ 1 (.int .i64 v1));have BF:=Hd (Blk.far T1.o.blk (p:=⟨g,1,none⟩) (λe=>hgp e.symm) (.int .i64 v1));have CF:=Hd (Chg.setCell (T1.o.chg.mono (T:=λk=>k=p\/k=g) (λk _ hk=>Or.inl hk)) (p:=⟨g,1,none⟩) (.inl (.inr rfl)) (.int .i64 v1));go_wp2;refine bE ?_;rw[HE.o];exact ⟨rfl,BF.o,KF.o,CF.o⟩
theorem po_2 (p c g:Nat) (t:TypeId) (r:Rd) (x:Opr) (W:World) (hc:Blk W c t #[.pointer (some (p,0))]) (hgp:g≠p) (hg:Blk W g 48 (cOpr x).toArray) (h:RdAt W p r) (hl:r.1.length<=1000000):
 Calls prog 147 (aQ c g) W λu W'=>u=.returned (.tuple #[])/\OpTo p g W W' (zbr r).2 { x with rect:=(zbr r).1 }:=by
 have c0:=hc.cell 0;have HG:=Hd hg;have HH:=Hd h;have HC:=Hd (ze8 p r W h hl);clear hc hg h hl;go_enter func147,ntmps147;go_wp2_with fail;have hC:=HC.o;obtain ⟨q1,hq⟩:=jN (zbr r);rw[hq] at hC;have HQ:=Hd hq;clear hq;refine hC.mono ?_;rintro e W1 ⟨rfl,t1⟩;have T1:=Hd t1;have G1:=Hd (t1.keep HG.o hgp);clear t1 hC HC;have HE:=HQ;have e2:W1.cell? (g,2)=some (.int .i64 x.rect.c1):=G1.o.cell 2;have f2:W1.frozen? (g,2)=false:=G1.o.frozen 2;have e3:W1.cell? (g,3)=some (.int .i64 x.rect.r1):=G1.o.cell 3;have f3:W1.frozen? (g,3)=false:=G1.o.frozen 3;have e4:W1.cell? (g,4)=some (.int .i64 x.rect.c2):=G1.o.cell 4;have f4:W1.frozen? (g,4)=false:=G1.o.frozen 4;have e5:W1.cell? (g,5)=some (.int .i64 x.rect.r2):=G1.o.cell 5;have f5:W1.frozen? (g,5)=false:=G1.o.frozen 5;have KF:=Hd ((((G1.o.set_ 2 (.int .i64 q1.1.c1)).set_ 3 (.int .i64 q1.1.r1)).set_ 4 (.int .i64 q1.1.c2)).set_ 5 (.int .i64 q1.1.r2));have BF:=Hd (Blk.far (Blk.far (Blk.far (Blk.far T1.o.blk (p:=⟨g,2,none⟩) (λe=>hgp e.symm) (.int .i64 q1.1.c1)) (p:=⟨g,3,none⟩) (λe=>hgp e.symm) (.int .i64 q1.1.r1)) (p:=⟨g,4,none⟩) (λe=>hgp e.symm) (.int .i64 q1.1.c2)) (p:=⟨g,5,none⟩) (λe=>hgp e.symm) (.int .i64 q1.1.r2));have CF:=Hd (Chg.setCell (Chg.setCell (Chg.setCell (Chg.setCell (T1.o.chg.mono (T:=λk=>k=p\/k=g) (λk _ hk=>Or.inl hk)) (p:=⟨g,2,none⟩) (.inl (.inr rfl)) (.int .i64 q1.1.c1)) (p:=⟨g,3,none⟩) (.inl (.inr rfl)) (.int .i64 q1.1.r1)) (p:=⟨g,4,none⟩) (.inl (.inr rfl)) (.int .i64 q1.1.c2)) (p:=⟨g,5,none⟩) (.inl (.inr rfl)) (.int .i64 q1.1.r2));go_wp2;refine bE ?_;rw[HE.o];exact ⟨rfl,BF.o,KF.o,CF.o⟩
theorem po_3 (p c g:Nat) (t:TypeId) (r:Rd) (x:Opr) (W:World) (hc:Blk W c t #[.pointer (some (p,0))]) (hgp:g≠p) (hg:Blk W g 48 (cOpr x).toArray) (h:RdAt W p r) (hl:r.1.length<=1000000):
 Calls prog 148 (aQ c g) W λu W'=>u=.returned (.tuple #[])/\OpTo p g W W' (zdu r).2 { x with input:=(zdu r).1 }:=by
 have c0:=hc.cell 0;have HG:=Hd hg;have HH:=Hd h;have HC:=Hd (zvg p r W h hl);clear hc hg h hl;go_enter func148,ntmps148;go_wp2_with fail;have hC:=HC.o;obtain ⟨q1,hq⟩:=jN (zdu r);rw[hq] at hC;have HQ:=Hd hq;clear hq;refine hC.mono ?_;rintro e W1 ⟨rfl,t1⟩;have T1:=Hd t1;have G1:=Hd (t1.keep HG.o hgp);clear t1 hC HC;have HE:=HQ;have e6:W1.cell? (g,6)=some (str x.input):=G1.o.cell 6;have f6:W1.frozen? (g,6)=false:=G1.o.frozen 6;have KF:=Hd (G1.o.set_ 6 (str q1.1));have BF:=Hd (Blk.far T1.o.blk (p:=⟨g,6,none⟩) (λe=>hgp e.symm) (str q1.1));have CF:=Hd (Chg.setCell (T1.o.chg.mono (T:=λk=>k=p\/k=g) (λk _ hk=>Or.inl hk)) (p:=⟨g,6,none⟩) (.inl (.inr rfl)) (str q1.1));go_wp2;refine bE ?_;rw[HE.o];exact ⟨rfl,BF.o,KF.o,CF.o⟩
theorem po_4 (p c g:Nat) (t:TypeId) (r:Rd) (x:Opr) (W:World) (hc:Blk W c t #[.pointer (some (p,0))]) (hgp:g≠p) (hg:Blk W g 48 (cOpr x).toArray) (h:RdAt W p r) (hl:r.1.length<=1000000):
 Calls prog 149 (aQ c g) W λu W'=>u=.returned (.tuple #[])/\OpTo p g W W' (zd5 r).2 { x with rights:=(zd5 r).1 }:=by
 have c0:=hc.cell 0;have HG:=Hd hg;have HH:=Hd h;have HC:=Hd (zvh p r W h hl);clear hc hg h hl;go_enter func149,ntmps149;go_wp2_with fail;have hC:=HC.o;obtain ⟨q1,hq⟩:=jN (zd5 r);rw[hq] at hC;have HQ:=Hd hq;clear hq;refine hC.mono ?_;rintro e W1 ⟨rfl,t1⟩;have T1:=Hd t1;have G1:=Hd (t1.keep HG.o hgp);clear t1 hC HC;have HE:=HQ;have e7:W1.cell? (g,7)=some (.int .u64 x.rights.rd):=G1.o.cell 7;have f7:W1.frozen? (g,7)=false:=G1.o.frozen 7;have e8:W1.cell? (g,8)=some (.int .u64 x.rights.wr):=G1.o.cell 8;have f8:W1.frozen? (g,8)=false:=G1.o.frozen 8;have e9:W1.cell? (g,9)=some (.int .u64 x.rights.ow):=G1.o.cell 9;have f9:W1.frozen? (g,9)=false:=G1.o.frozen 9;have KF:=Hd (((G1.o.set_ 7 (.int .u64 q1.1.rd)).set_ 8 (.int .u64 q1.1.wr)).set_ 9 (.int .u64 q1.1.ow));have BF:=Hd (Blk.far (Blk.far (Blk.far T1.o.blk (p:=⟨g,7,none⟩) (λe=>hgp e.symm) (.int .u64 q1.1.rd)) (p:=⟨g,8,none⟩) (λe=>hgp e.symm) (.int .u64 q1.1.wr)) (p:=⟨g,9,none⟩) (λe=>hgp e.symm) (.int .u64 q1.1.ow));have CF:=Hd (Chg.setCell (Chg.setCell (Chg.setCell (T1.o.chg.mono (T:=λk=>k=p\/k=g) (λk _ hk=>Or.inl hk)) (p:=⟨g,7,none⟩) (.inl (.inr rfl)) (.int .u64 q1.1.rd)) (p:=⟨g,8,none⟩) (.inl (.inr rfl)) (.int .u64 q1.1.wr)) (p:=⟨g,9,none⟩) (.inl (.inr rfl)) (.int .u64 q1.1.ow));go_wp2;refine bE ?_;rw[HE.o];exact ⟨rfl,BF.o,KF.o,CF.o⟩
theorem po_5 (p c g:Nat) (t:TypeId) (r:Rd) (x:Opr) (W:World) (hc:Blk W c t #[.pointer (some (p,0))]) (hgp:g≠p) (hg:Blk W g 48 (cOpr x).toArray) (h:RdAt W p r) (hl:r.1.length<=1000000):
 Calls prog 150 (aQ c g) W λu W'=>u=.returned (.tuple #[])/\OpTo p g W W' (u8R r).2 { x with fns:=(u8R r).1 }:=by
 have c0:=hc.cell 0;have HG:=Hd hg;have HH:=Hd h;have HC:=Hd (zvf p r W h hl);clear hc hg h hl;go_enter func150,ntmps150;go_wp2_with fail;have hC:=HC.o;obtain ⟨q1,hq⟩:=jN (numR r);rw[hq] at hC;have HQ:=Hd hq;clear hq;refine hC.mono ?_;rintro e W1 ⟨rfl,t1⟩;have T1:=Hd t1;have G1:=Hd (t1.keep HG.o hgp);clear t1 hC HC;generalize hx:((q1.1 % 256:Nat):Int)=v1;have HE:=Hd (u8R_q HQ.o hx);clear hx;have e10:W1.cell? (g,10)=some (.int .u8 x.fns):=G1.o.cell 10;have f10:W1.frozen? (g,10)=false:=G1.o.frozen 10;have KF:=Hd (G1.o.set_ 10 (.int .u8 v1));have BF:=Hd (Blk.far T1.o.blk (p:=⟨g,10,none⟩) (λe=>hgp e.symm) (.int .u8 v1));have CF:=Hd (Chg.setCell (T1.o.chg.mono (T:=λk=>k=p\/k=g) (λk _ hk=>Or.inl hk)) (p:=⟨g,10,none⟩) (.inl (.inr rfl)) (.int .u8 v1));go_wp2;refine bE ?_;rw[HE.o];exact ⟨rfl,BF.o,KF.o,CF.o⟩
theorem po_6 (p c g:Nat) (t:TypeId) (r:Rd) (x:Opr) (W:World) (hc:Blk W c t #[.pointer (some (p,0))]) (hgp:g≠p) (hg:Blk W g 48 (cOpr x).toArray) (h:RdAt W p r) (hl:r.1.length<=1000000):
 Calls prog 151 (aQ c g) W λu W'=>u=.returned (.tuple #[])/\OpTo p g W W' (u64R r).2 { x with to_:=(u64R r).1 }:=by
 have c0:=hc.cell 0;have HG:=Hd hg;have HH:=Hd h;have HC:=Hd (zjh p r W h hl);clear hc hg h hl;go_enter func151,ntmps151;go_wp2_with fail;have hC:=HC.o;obtain ⟨q1,hq⟩:=jN (numR r);rw[hq] at hC;have HQ:=Hd hq;clear hq;refine hC.mono ?_;rintro e W1 ⟨rfl,t1⟩;have T1:=Hd t1;have G1:=Hd (t1.keep HG.o hgp);clear t1 hC HC;generalize hx:((q1.1:Nat):Int)=v1;have HE:=Hd (u64R_q HQ.o hx);clear hx;have e11:W1.cell? (g,11)=some (.int .u64 x.to_):=G1.o.cell 11;have f11:W1.frozen? (g,11)=false:=G1.o.frozen 11;have KF:=Hd (G1.o.set_ 11 (.int .u64 v1));have BF:=Hd (Blk.far T1.o.blk (p:=⟨g,11,none⟩) (λe=>hgp e.symm) (.int .u64 v1));have CF:=Hd (Chg.setCell (T1.o.chg.mono (T:=λk=>k=p\/k=g) (λk _ hk=>Or.inl hk)) (p:=⟨g,11,none⟩) (.inl (.inr rfl)) (.int .u64 v1));go_wp2;refine bE ?_;rw[HE.o];exact ⟨rfl,BF.o,KF.o,CF.o⟩
theorem po_7 (p c g:Nat) (t:TypeId) (r:Rd) (x:Opr) (W:World) (hc:Blk W c t #[.pointer (some (p,0))]) (hgp:g≠p) (hg:Blk W g 48 (cOpr x).toArray) (h:RdAt W p r) (hl:r.1.length<=1000000):
 Calls prog 152 (aQ c g) W λu W'=>u=.returned (.tuple #[])/\OpTo p g W W' (intR r).2 { x with index:=(intR r).1 }:=by
 have c0:=hc.cell 0;have HG:=Hd hg;have HH:=Hd h;have HC:=Hd (zb3 p r W h hl);clear hc hg h hl;go_enter func152,ntmps152;go_wp2_with fail;have hC:=HC.o;obtain ⟨q1,hq⟩:=jN (numR r);rw[hq] at hC;have HQ:=Hd hq;clear hq;refine hC.mono ?_;rintro e W1 ⟨rfl,t1⟩;have T1:=Hd t1;have G1:=Hd (t1.keep HG.o hgp);clear t1 hC HC;generalize hx:zaj q1.1=v1;have HE:=Hd (zod HQ.o hx);clear hx;have e12:W1.cell? (g,12)=some (.int .i64 x.index):=G1.o.cell 12;have f12:W1.frozen? (g,12)=false:=G1.o.frozen 12;have KF:=Hd (G1.o.set_ 12 (.int .i64 v1));have BF:=Hd (Blk.far T1.o.blk (p:=⟨g,12,none⟩) (λe=>hgp e.symm) (.int .i64 v1));have CF:=Hd (Chg.setCell (T1.o.chg.mono (T:=λk=>k=p\/k=g) (λk _ hk=>Or.inl hk)) (p:=⟨g,12,none⟩) (.inl (.inr rfl)) (.int .i64 v1));go_wp2;refine bE ?_;rw[HE.o];exact ⟨rfl,BF.o,KF.o,CF.o⟩
theorem wr_ent (v:Value) (l:zaa) (x:Ent) (w:World) (hi:x.input.length<=1000000000) (h:Out w v l) (hl:l.length<=100000000):
 Calls prog 86 #[v,.agg x] w λe w'=>∃v',e=.returned v'/\Out w' v' (l++entB x)/\OutTo w v w' v':=by
 have hv:v.ownBlock≠some w.heap.size:=λe=>by have:=h.lt _ e;omega
 have kk:Blk (w.alloc (.cells x 58)).drew w.heap.size 58 #[.int .i64 x.at_.col,.int .i64 x.at_.row,str x.input]:=(je _ _ _).drew;have TT:=((OutTo.refl w v).alloc (.cells x 58)).drew;have oo:=(h.alloc (.cells x 58)).drew;clear h;have m0:=zab x.at_.col;have m1:=zab x.at_.row;go_enter func86,ntmps86;go_wp2_with fail
 go_region_held3 (λW:World=>W.cell? ⟨w.heap.size,0,none⟩=some (.int .i64 x.at_.col)/\W.cell? ⟨w.heap.size,1,none⟩=some (.int .i64 x.at_.row)/\W.cell? ⟨w.heap.size,2,none⟩=some (str x.input))
  (first
   | exact ⟨kk.cell 0,kk.cell 1,kk.cell 2⟩)
  (first
   | (go_at_call 87;refine (zqc _ _ _ _ oo (by omega) (by first | omega | (simp[zb0];omega))).mono ?_;rintro e w1 ⟨v1,rfl,oo,tt⟩;have hv':=tt.ne kk.lt hv;have kk:=kk.outTo tt hv;have hv:=hv';have TT:=TT.trans tt;clear tt hv')
   | (go_at_call 88;refine (znt _ _ _ _ _ oo (by first | omega | (simp[zb0,za7,zce];omega))).mono ?_;rintro e w1 ⟨v1,rfl,oo,tt⟩;have hv':=tt.ne kk.lt hv;have kk:=kk.outTo tt hv;have hv:=hv';have TT:=TT.trans tt;clear tt hv'))
 have OO:=Hd oo;have TT:=Hd TT;go_wp2;go_ret;exact ⟨_,rfl,by simpa [za7,zb0,zcv,zce,entB] using OO.o,TT.o⟩
theorem wr_rul (v:Value) (l:zaa) (x:Rul) (w:World) (a0:0<=x.rights.rd) (a1:x.rights.rd<18446744073709551616) (b0:0<=x.rights.wr) (b1:x.rights.wr<18446744073709551616) (c0:0<=x.rights.ow) (c1:x.rights.ow<18446744073709551616) (h:Out w v l) (hl:l.length<=100000000):
 Calls prog 90 #[v,.agg x] w λe w'=>∃v',e=.returned v'/\Out w' v' (l++rulB x)/\OutTo w v w' v':=by
 have hv:v.ownBlock≠some w.heap.size:=λe=>by have:=h.lt _ e;omega
 have kk:Blk (w.alloc (.cells x 79)).drew w.heap.size 79 #[.int .i64 x.rect.c1,.int .i64 x.rect.r1,.int .i64 x.rect.c2,.int .i64 x.rect.r2,.int .u64 x.rights.rd,.int .u64 x.rights.wr,.int .u64 x.rights.ow]:=(je _ _ _).drew;have TT:=((OutTo.refl w v).alloc (.cells x 79)).drew;have oo:=(h.alloc (.cells x 79)).drew;clear h;have m0:=zab x.rect.c1;have m1:=zab x.rect.r1;have m2:=zab x.rect.c2;have m3:=zab x.rect.r2;go_enter func90,ntmps90;go_wp2_with fail
 go_region_held3 (λW:World=>W.cell? ⟨w.heap.size,0,none⟩=some (.int .i64 x.rect.c1)/\W.cell? ⟨w.heap.size,1,none⟩=some (.int .i64 x.rect.r1)/\W.cell? ⟨w.heap.size,2,none⟩=some (.int .i64 x.rect.c2)/\W.cell? ⟨w.heap.size,3,none⟩=some (.int .i64 x.rect.r2)/\W.cell? ⟨w.heap.size,4,none⟩=some (.int .u64 x.rights.rd)/\W.cell? ⟨w.heap.size,5,none⟩=some (.int .u64 x.rights.wr)/\W.cell? ⟨w.heap.size,6,none⟩=some (.int .u64 x.rights.ow))
  (first
   | exact ⟨kk.cell 0,kk.cell 1,kk.cell 2,kk.cell 3,kk.cell 4,kk.cell 5,kk.cell 6⟩)
  (first
   | (go_at_call 91;refine (zqg _ _ _ _ _ _ (by assumption) (by assumption) (by assumption) (by assumption) (by assumption) (by assumption) oo (by first | omega | (simp[za7];omega))).mono ?_;rintro e w1 ⟨v1,rfl,oo,tt⟩;have hv':=tt.ne kk.lt hv;have kk:=kk.outTo tt hv;have hv:=hv';have TT:=TT.trans tt;clear tt hv')
   | (go_at_call 92;refine (zek _ _ _ _ _ _ _ oo (by first | omega | (simp[zb0,za7,zce];omega))).mono ?_;rintro e w1 ⟨v1,rfl,oo,tt⟩;have hv':=tt.ne kk.lt hv;have kk:=kk.outTo tt hv;have hv:=hv';have TT:=TT.trans tt;clear tt hv'))
 have OO:=Hd oo;have TT:=Hd TT;go_wp2;go_ret;exact ⟨_,rfl,by simpa [za7,zb0,zcv,zce,rulB] using OO.o,TT.o⟩
theorem wr_grt (v:Value) (l:zaa) (x:Grt) (w:World) (a0:0<=x.to_) (a1:x.to_<18446744073709551616) (h:Out w v l) (hl:l.length<=100000000):
 Calls prog 94 #[v,.agg x] w λe w'=>∃v',e=.returned v'/\Out w' v' (l++grtB x)/\OutTo w v w' v':=by
 have hv:v.ownBlock≠some w.heap.size:=λe=>by have:=h.lt _ e;omega
 have kk:Blk (w.alloc (.cells x 85)).drew w.heap.size 85 #[.int .i64 x.rect.c1,.int .i64 x.rect.r1,.int .i64 x.rect.c2,.int .i64 x.rect.r2,.int .u8 x.fns,.int .u64 x.to_,.int .i64 x.by_,.bool x.revoked]:=(je _ _ _).drew;have TT:=((OutTo.refl w v).alloc (.cells x 85)).drew;have oo:=(h.alloc (.cells x 85)).drew;clear h;have m0:=zab x.rect.c1;have m1:=zab x.rect.r1;have m2:=zab x.rect.c2;have m3:=zab x.rect.r2;have m4:=zab x.fns;have m5:=zab x.to_;have m6:=zab x.by_;go_enter func94,ntmps94;go_wp2_with fail
 go_region_held3 (λW:World=>W.cell? ⟨w.heap.size,0,none⟩=some (.int .i64 x.rect.c1)/\W.cell? ⟨w.heap.size,1,none⟩=some (.int .i64 x.rect.r1)/\W.cell? ⟨w.heap.size,2,none⟩=some (.int .i64 x.rect.c2)/\W.cell? ⟨w.heap.size,3,none⟩=some (.int .i64 x.rect.r2)/\W.cell? ⟨w.heap.size,4,none⟩=some (.int .u8 x.fns)/\W.cell? ⟨w.heap.size,5,none⟩=some (.int .u64 x.to_)/\W.cell? ⟨w.heap.size,6,none⟩=some (.int .i64 x.by_)/\W.cell? ⟨w.heap.size,7,none⟩=some (.bool x.revoked))
  (first
   | exact ⟨kk.cell 0,kk.cell 1,kk.cell 2,kk.cell 3,kk.cell 4,kk.cell 5,kk.cell 6,kk.cell 7⟩)
  (first
   | (go_at_call 95;refine (zrl _ _ _ _ oo (by first | omega | (simp[za7];omega))).mono ?_;rintro e w1 ⟨v1,rfl,oo,tt⟩;have hv':=tt.ne kk.lt hv;have kk:=kk.outTo tt hv;have hv:=hv';have TT:=TT.trans tt;clear tt hv')
   | (go_at_call 84;refine (zb6 _ _ _ _ oo (by first | omega | (simp[za7];omega))).mono ?_;rintro e w1 ⟨v1,rfl,oo,tt⟩;have hv':=tt.ne kk.lt hv;have kk:=kk.outTo tt hv;have hv:=hv';have TT:=TT.trans tt;clear tt hv')
   | (go_at_call 96;refine (zjo _ _ _ _ (by assumption) (by assumption) oo (by first | omega | (simp[za7];omega))).mono ?_;rintro e w1 ⟨v1,rfl,oo,tt⟩;have hv':=tt.ne kk.lt hv;have kk:=kk.outTo tt hv;have hv:=hv';have TT:=TT.trans tt;clear tt hv')
   | (go_at_call 97;refine (zn7 _ _ _ _ oo (by first | omega | (simp[za7];omega))).mono ?_;rintro e w1 ⟨v1,rfl,oo,tt⟩;have hv':=tt.ne kk.lt hv;have kk:=kk.outTo tt hv;have hv:=hv';have TT:=TT.trans tt;clear tt hv')
   | (go_at_call 92;refine (zek _ _ _ _ _ _ _ oo (by first | omega | (simp[zb0,za7,zce];omega))).mono ?_;rintro e w1 ⟨v1,rfl,oo,tt⟩;have hv':=tt.ne kk.lt hv;have kk:=kk.outTo tt hv;have hv:=hv';have TT:=TT.trans tt;clear tt hv'))
 have OO:=Hd oo;have TT:=Hd TT;go_wp2;go_ret;exact ⟨_,rfl,by simpa [za7,zb0,zcv,zce,grtB] using OO.o,TT.o⟩
theorem wr_evt (v:Value) (l:zaa) (x:Evt) (w:World) (a0:0<=x.to_) (a1:x.to_<18446744073709551616) (h:Out w v l) (hl:l.length<=100000000):
 Calls prog 99 #[v,.agg x] w λe w'=>∃v',e=.returned v'/\Out w' v' (l++evtB x)/\OutTo w v w' v':=by
 have hv:v.ownBlock≠some w.heap.size:=λe=>by have:=h.lt _ e;omega
 have kk:Blk (w.alloc (.cells x 110)).drew w.heap.size 110 #[.int .i64 x.step,.int .i64 x.user,.int .u8 x.kind,.int .i64 x.rect.c1,.int .i64 x.rect.r1,.int .i64 x.rect.c2,.int .i64 x.rect.r2,.bool x.done_,.int .u64 x.to_]:=(je _ _ _).drew;have TT:=((OutTo.refl w v).alloc (.cells x 110)).drew;have oo:=(h.alloc (.cells x 110)).drew;clear h;have m0:=zab x.rect.c1;have m1:=zab x.rect.r1;have m2:=zab x.rect.c2;have m3:=zab x.rect.r2;have m4:=zab x.step;have m5:=zab x.user;have m6:=zab x.kind;have fl:(zh7 x.done_).length<=9:=zab _;go_enter func99,ntmps99;go_wp2_with fail
 go_region_held3 (λW:World=>W.cell? ⟨w.heap.size,0,none⟩=some (.int .i64 x.step)/\W.cell? ⟨w.heap.size,1,none⟩=some (.int .i64 x.user)/\W.cell? ⟨w.heap.size,2,none⟩=some (.int .u8 x.kind)/\W.cell? ⟨w.heap.size,3,none⟩=some (.int .i64 x.rect.c1)/\W.cell? ⟨w.heap.size,4,none⟩=some (.int .i64 x.rect.r1)/\W.cell? ⟨w.heap.size,5,none⟩=some (.int .i64 x.rect.c2)/\W.cell? ⟨w.heap.size,6,none⟩=some (.int .i64 x.rect.r2)/\W.cell? ⟨w.heap.size,7,none⟩=some (.bool x.done_)/\W.cell? ⟨w.heap.size,8,none⟩=some (.int .u64 x.to_))
  (first
   | exact ⟨kk.cell 0,kk.cell 1,kk.cell 2,kk.cell 3,kk.cell 4,kk.cell 5,kk.cell 6,kk.cell 7,kk.cell 8⟩)
  (first
   | (go_at_call 96;refine (zjo _ _ _ _ (by assumption) (by assumption) oo (by first | omega | (simp[za7];omega))).mono ?_;rintro e w1 ⟨v1,rfl,oo,tt⟩;have hv':=tt.ne kk.lt hv;have kk:=kk.outTo tt hv;have hv:=hv';have TT:=TT.trans tt;clear tt hv')
   | (go_at_call 95;refine (zrl _ _ _ _ oo (by first | omega | (simp[za7];omega))).mono ?_;rintro e w1 ⟨v1,rfl,oo,tt⟩;have hv':=tt.ne kk.lt hv;have kk:=kk.outTo tt hv;have hv:=hv';have TT:=TT.trans tt;clear tt hv')
   | (go_at_call 92;refine (zek _ _ _ _ _ _ _ oo (by first | omega | (simp[];omega))).mono ?_;rintro e w1 ⟨v1,rfl,oo,tt⟩;have hv':=tt.ne kk.lt hv;have kk:=kk.outTo tt hv;have hv:=hv';have TT:=TT.trans tt;clear tt hv')
   | (go_at_call 97;refine (zn7 _ _ _ _ oo (by first | omega | (simp[];omega))).mono ?_;rintro e w1 ⟨v1,rfl,oo,tt⟩;have hv':=tt.ne kk.lt hv;have kk:=kk.outTo tt hv;have hv:=hv';have TT:=TT.trans tt;clear tt hv')
   | (go_at_call 84;refine (zb6 _ _ _ _ oo (by first | omega | (simp[];omega))).mono ?_;rintro e w1 ⟨v1,rfl,oo,tt⟩;have hv':=tt.ne kk.lt hv;have kk:=kk.outTo tt hv;have hv:=hv';have TT:=TT.trans tt;clear tt hv'))
 have OO:=Hd oo;have TT:=Hd TT;go_wp2;go_ret;exact ⟨_,rfl,by simpa [za7,zb0,zcv,zce,evtB] using OO.o,TT.o⟩
theorem wr_rls (v:Value) (l:zaa) (x:Rls) (w:World) (a0:0<=x.to_) (a1:x.to_<18446744073709551616) (h:Out w v l) (hl:l.length<=100000000):
 Calls prog 101 #[v,.agg x] w λe w'=>∃v',e=.returned v'/\Out w' v' (l++rlsB x)/\OutTo w v w' v':=by
 have hv:v.ownBlock≠some w.heap.size:=λe=>by have:=h.lt _ e;omega
 have kk:Blk (w.alloc (.cells x 116)).drew w.heap.size 116 #[.int .i64 x.step,.int .i64 x.at_.col,.int .i64 x.at_.row,.int .i64 x.node,.int .u8 x.fn,.int .i64 x.rect.c1,.int .i64 x.rect.r1,.int .i64 x.rect.c2,.int .i64 x.rect.r2,.int .i64 x.grant,.int .u64 x.to_]:=(je _ _ _).drew;have TT:=((OutTo.refl w v).alloc (.cells x 116)).drew;have oo:=(h.alloc (.cells x 116)).drew;clear h;have m0:=zab x.rect.c1;have m1:=zab x.rect.r1;have m2:=zab x.rect.c2;have m3:=zab x.rect.r2;have m4:=zab x.step;have m5:=zab x.at_.col;have m6:=zab x.at_.row;have m7:=zab x.node;have m8:=zab x.fn;have m9:=zab x.grant;go_enter func101,ntmps101;go_wp2_with fail
 go_region_held3 (λW:World=>W.cell? ⟨w.heap.size,0,none⟩=some (.int .i64 x.step)/\W.cell? ⟨w.heap.size,1,none⟩=some (.int .i64 x.at_.col)/\W.cell? ⟨w.heap.size,2,none⟩=some (.int .i64 x.at_.row)/\W.cell? ⟨w.heap.size,3,none⟩=some (.int .i64 x.node)/\W.cell? ⟨w.heap.size,4,none⟩=some (.int .u8 x.fn)/\W.cell? ⟨w.heap.size,5,none⟩=some (.int .i64 x.rect.c1)/\W.cell? ⟨w.heap.size,6,none⟩=some (.int .i64 x.rect.r1)/\W.cell? ⟨w.heap.size,7,none⟩=some (.int .i64 x.rect.c2)/\W.cell? ⟨w.heap.size,8,none⟩=some (.int .i64 x.rect.r2)/\W.cell? ⟨w.heap.size,9,none⟩=some (.int .i64 x.grant)/\W.cell? ⟨w.heap.size,10,none⟩=some (.int .u64 x.to_))
  (first
   | exact ⟨kk.cell 0,kk.cell 1,kk.cell 2,kk.cell 3,kk.cell 4,kk.cell 5,kk.cell 6,kk.cell 7,kk.cell 8,kk.cell 9,kk.cell 10⟩)
  (first
   | (go_at_call 97;refine (zn7 _ _ _ _ oo (by first | omega | (simp[zb0];omega))).mono ?_;rintro e w1 ⟨v1,rfl,oo,tt⟩;have hv':=tt.ne kk.lt hv;have kk:=kk.outTo tt hv;have hv:=hv';have TT:=TT.trans tt;clear tt hv')
   | (go_at_call 88;refine (znt _ _ _ _ _ oo (by first | omega | (simp[];omega))).mono ?_;rintro e w1 ⟨v1,rfl,oo,tt⟩;have hv':=tt.ne kk.lt hv;have kk:=kk.outTo tt hv;have hv:=hv';have TT:=TT.trans tt;clear tt hv')
   | (go_at_call 84;refine (zb6 _ _ _ _ oo (by first | omega | (simp[zb0];omega))).mono ?_;rintro e w1 ⟨v1,rfl,oo,tt⟩;have hv':=tt.ne kk.lt hv;have kk:=kk.outTo tt hv;have hv:=hv';have TT:=TT.trans tt;clear tt hv'))
 have kk:=kk.drew;have TT:=TT.drew;have oo:=oo.drew;go_wp2_with fail
 go_region_held3 (λW:World=>W.cell? ⟨w.heap.size,0,none⟩=some (.int .i64 x.step)/\W.cell? ⟨w.heap.size,1,none⟩=some (.int .i64 x.at_.col)/\W.cell? ⟨w.heap.size,2,none⟩=some (.int .i64 x.at_.row)/\W.cell? ⟨w.heap.size,3,none⟩=some (.int .i64 x.node)/\W.cell? ⟨w.heap.size,4,none⟩=some (.int .u8 x.fn)/\W.cell? ⟨w.heap.size,5,none⟩=some (.int .i64 x.rect.c1)/\W.cell? ⟨w.heap.size,6,none⟩=some (.int .i64 x.rect.r1)/\W.cell? ⟨w.heap.size,7,none⟩=some (.int .i64 x.rect.c2)/\W.cell? ⟨w.heap.size,8,none⟩=some (.int .i64 x.rect.r2)/\W.cell? ⟨w.heap.size,9,none⟩=some (.int .i64 x.grant)/\W.cell? ⟨w.heap.size,10,none⟩=some (.int .u64 x.to_))
  (first
   | exact ⟨kk.cell 0,kk.cell 1,kk.cell 2,kk.cell 3,kk.cell 4,kk.cell 5,kk.cell 6,kk.cell 7,kk.cell 8,kk.cell 9,kk.cell 10⟩)
  (first
   | (go_at_call 96;refine (zjo _ _ _ _ a0 a1 oo (by first | omega | (simp[zb0,za7];omega))).mono ?_;rintro e w1 ⟨v1,rfl,oo,tt⟩;have hv':=tt.ne kk.lt hv;have kk:=kk.outTo tt hv;have hv:=hv';have TT:=TT.trans tt;clear tt hv')
   | (go_at_call 92;refine (zek _ _ _ _ _ _ _ oo (by first | omega | (simp[zb0];omega))).mono ?_;rintro e w1 ⟨v1,rfl,oo,tt⟩;have hv':=tt.ne kk.lt hv;have kk:=kk.outTo tt hv;have hv:=hv';have TT:=TT.trans tt;clear tt hv')
   | (go_at_call 84;refine (zb6 _ _ _ _ oo (by first | omega | (simp[zb0,za7];omega))).mono ?_;rintro e w1 ⟨v1,rfl,oo,tt⟩;have hv':=tt.ne kk.lt hv;have kk:=kk.outTo tt hv;have hv:=hv';have TT:=TT.trans tt;clear tt hv'))
 have OO:=Hd oo;have TT:=Hd TT;go_wp2;go_ret;exact ⟨_,rfl,by simpa [za7,zb0,zcv,zce,rlsB] using OO.o,TT.o⟩
theorem oc_1 (g:Nat) (x:Opr) (v:Value) (l:zaa) (w:World) (K:Blk w g 48 x) (h:Out w v l) (hl:l.length<=100000000):
 Calls prog 160 #[v,(aA g)] w λe w'=>∃v',e=.returned v'/\Out w' v' (l++numI x.user)/\OutTo w v w' v':=by
 have c1:=K.cell 1;clear K;go_enter func160,ntmps160;go_wp2_with fail;refine (zb6 v l _ _ h (by omega)).mono ?_;rintro e w1 ⟨v1,rfl,o1,t1⟩;have O1:=Hd o1;have T1:=Hd t1;clear o1 t1;go_wp2;go_ret;exact ⟨_,rfl,O1.o,T1.o⟩
theorem oc_2 (g:Nat) (x:Opr) (v:Value) (l:zaa) (w:World) (K:Blk w g 48 x) (h:Out w v l) (hl:l.length<=100000000):
 Calls prog 161 #[v,(aA g)] w λe w'=>∃v',e=.returned v'/\Out w' v' (l++za7 x.rect)/\OutTo w v w' v':=by
 obtain ⟨c2,c3,c4,c5⟩:=K.c4 2 3 4 5;clear K;go_enter func161,ntmps161;go_wp2_with fail;refine (zek v l _ _ _ _ _ h (by omega)).mono ?_;rintro e w1 ⟨v1,rfl,o1,t1⟩;have O1:=Hd o1;have T1:=Hd t1;clear o1 t1;go_wp2;go_ret;exact ⟨_,rfl,O1.o,T1.o⟩
theorem oc_3 (g:Nat) (x:Opr) (v:Value) (l:zaa) (w:World) (hi:x.input.length<=1000000000) (K:Blk w g 48 x) (h:Out w v l) (hl:l.length<=100000000):
 Calls prog 162 #[v,(aA g)] w λe w'=>∃v',e=.returned v'/\Out w' v' (l++zcv x.input)/\OutTo w v w' v':=by
 have c6:=K.cell 6;clear K;go_enter func162,ntmps162;go_wp2_with fail;refine (zqc v l _ _ h hi (by omega)).mono ?_;rintro e w1 ⟨v1,rfl,o1,t1⟩;have O1:=Hd o1;have T1:=Hd t1;clear o1 t1;go_wp2;go_ret;exact ⟨_,rfl,O1.o,T1.o⟩
theorem oc_4 (g:Nat) (x:Opr) (v:Value) (l:zaa) (w:World) (a0:0<=x.rights.rd) (a1:x.rights.rd<18446744073709551616) (b0:0<=x.rights.wr) (b1:x.rights.wr<18446744073709551616) (c0:0<=x.rights.ow) (c1:x.rights.ow<18446744073709551616) (K:Blk w g 48 x) (h:Out w v l) (hl:l.length<=100000000):
 Calls prog 163 #[v,(aA g)] w λe w'=>∃v',e=.returned v'/\Out w' v' (l++zce x.rights)/\OutTo w v w' v':=by
 obtain ⟨c7,c8,c9⟩:=K.c3 7 8 9;clear K;go_enter func163,ntmps163;go_wp2_with fail;refine (zqg v l _ _ _ _ a0 a1 b0 b1 c0 c1 h (by omega)).mono ?_;rintro e w1 ⟨v1,rfl,o1,t1⟩;have O1:=Hd o1;have T1:=Hd t1;clear o1 t1;go_wp2;go_ret;exact ⟨_,rfl,O1.o,T1.o⟩
theorem oc_5 (g:Nat) (x:Opr) (v:Value) (l:zaa) (w:World) (K:Blk w g 48 x) (h:Out w v l) (hl:l.length<=100000000):
 Calls prog 164 #[v,(aA g)] w λe w'=>∃v',e=.returned v'/\Out w' v' (l++numI x.fns)/\OutTo w v w' v':=by
 have c10:=K.cell 10;clear K;go_enter func164,ntmps164;go_wp2_with fail;refine (zn7 v l _ _ h (by omega)).mono ?_;rintro e w1 ⟨v1,rfl,o1,t1⟩;have O1:=Hd o1;have T1:=Hd t1;clear o1 t1;go_wp2;go_ret;exact ⟨_,rfl,O1.o,T1.o⟩
theorem oc_6 (g:Nat) (x:Opr) (v:Value) (l:zaa) (w:World) (a0:0<=x.to_) (a1:x.to_<18446744073709551616) (K:Blk w g 48 x) (h:Out w v l) (hl:l.length<=100000000):
 Calls prog 165 #[v,(aA g)] w λe w'=>∃v',e=.returned v'/\Out w' v' (l++numI x.to_)/\OutTo w v w' v':=by
 have c11:=K.cell 11;clear K;go_enter func165,ntmps165;go_wp2_with fail;refine (zjo v l _ _ a0 a1 h (by omega)).mono ?_;rintro e w1 ⟨v1,rfl,o1,t1⟩;have O1:=Hd o1;have T1:=Hd t1;clear o1 t1;go_wp2;go_ret;exact ⟨_,rfl,O1.o,T1.o⟩
theorem oc_7 (g:Nat) (x:Opr) (v:Value) (l:zaa) (w:World) (K:Blk w g 48 x) (h:Out w v l) (hl:l.length<=100000000):
 Calls prog 166 #[v,(aA g)] w λe w'=>∃v',e=.returned v'/\Out w' v' (l++numI x.index)/\OutTo w v w' v':=by
 have c12:=K.cell 12;clear K;go_enter func166,ntmps166;go_wp2_with fail;refine (zb6 v l _ _ h (by omega)).mono ?_;rintro e w1 ⟨v1,rfl,o1,t1⟩;have O1:=Hd o1;have T1:=Hd t1;clear o1 t1;go_wp2;go_ret;exact ⟨_,rfl,O1.o,T1.o⟩
theorem zzg (u:Int) (h0:0<=u) (h1:u<64):IntKind.u64.wrap (2 ^ u.toNat)=2 ^ u.toNat:=by
 have a:(2:Nat) ^ u.toNat<=2 ^ 63:=Nat.pow_le_pow_right (by decide) (by omega);have b:1<=(2:Nat) ^ u.toNat:=Nat.one_le_two_pow;have e:(2:Int) ^ u.toNat=((2 ^ u.toNat:Nat):Int):=by simp
 rw[e,IntKind.wrap_u64];omega
theorem z03 (u:Nat) (h1:u<64):(0:Int)<=2 ^ u/\(2:Int) ^ u<18446744073709551616:=by
 have a:(2:Nat) ^ u<=2 ^ 63:=Nat.pow_le_pow_right (by decide) (by omega);have e:(2:Int) ^ u=((2 ^ u:Nat):Int):=by simp
 rw[e];obtain ⟨x,hx⟩:=jN (2 ^ u:Nat);rw[hx] at a ⊢;omega
theorem zpk (m j:Nat):m &&& 2 ^ j=if m / 2 ^ j % 2=1 then 2 ^ j else 0:=by
 apply Nat.eq_of_testBit_eq;intro i;rw[Nat.testBit_and,Nat.testBit_two_pow];by_cases h:j=i
 ·subst h;rw[Nat.testBit_eq_decide_div_mod_eq];by_cases hb:m / 2 ^ j % 2=1 <;> simp[hb]
 have h0:decide (j=i)=false:=by simpa using h
 rw[h0,Bool.and_false];split
 ·rw[Nat.testBit_two_pow,h0]
 rw[Nat.zero_testBit]
theorem all_or (k:Nat) (hk:k<64):bits .or .u64 (allI k) (2 ^ k)=allI ((k:Int)+1):=by
 have hp:=z03 k hk;have hb:=zmx k (by omega);rw[Go.u64_or _ _ hb.1 hb.2 hp.1 hp.2];unfold allI;rw[show (k:Int).toNat=k from rfl,show ((k:Int)+1).toNat=k+1 by omega];have e:(2:Int) ^ k=((2 ^ k:Nat):Int):=by simp
 have e1:(2:Int) ^ (k+1)=((2 ^ (k+1):Nat):Int):=by simp
 rw[e,e1];have b:1<=(2:Nat) ^ k:=Nat.one_le_two_pow;have h1:(((2 ^ k:Nat):Int)-1).toNat=2 ^ k-1:=by omega
 have h2:(((2 ^ k:Nat):Int)).toNat=2 ^ k:=by omega
 have h3:(2 ^ k-1) ||| 2 ^ k=2 ^ (k+1)-1:=by have:=Nat.two_pow_add_eq_or_of_lt (i:=k) (b:=2 ^ k-1) (by omega) 1;rw[Nat.mul_one] at this;rw[Nat.or_comm,<- this,Nat.pow_succ];omega
 rw[h1,h2,h3];have b1:1<=(2:Nat) ^ (k+1):=Nat.one_le_two_pow;omega
theorem z3j (s:Int) (u:Nat) (s0:0<=s) (s1:s<18446744073709551616) (h:u<64):(bits .and .u64 s (2 ^ u) != 0)=decide (s / 2 ^ u % 2=1):=by
 have hp:=z03 u h;rw[Go.u64_and _ _ s0 s1 hp.1 hp.2];have e:(2:Int) ^ u=((2 ^ u:Nat):Int):=by simp
 obtain ⟨n,rfl⟩:∃n:Nat,s=n:=⟨s.toNat,by omega⟩;have h2:(((2 ^ u:Nat):Int)).toNat=2 ^ u:=by omega
 rw[e,h2,show ((n:Nat):Int).toNat=n from rfl,zpk,show ((n:Int) / ((2 ^ u:Nat):Int) % 2)=((n / 2 ^ u % 2:Nat):Int) by simp];have b:1<=(2:Nat) ^ u:=Nat.one_le_two_pow;by_cases hb:n / 2 ^ u % 2=1
 ·have h3:((n / 2 ^ u % 2:Nat):Int)=1:=by omega
  rw[h3,jb hb];simp only[bne_iff_ne,ne_eq,decide_true,Int.natCast_eq_zero];omega
 have h3:((n / 2 ^ u % 2:Nat):Int)≠1:=by omega
 rw[ja hb,jA h3];rfl
theorem z02 (u:Int) (w:World) (h0:0<=u) (h1:u<64):
 Calls prog 230 #[.int .i64 u] w λe w'=>e=.returned (.int .u64 (2 ^ u.toNat))/\w=w':=by
 have H:=Hd (zzg u h0 h1);go_enter func230,ntmps230;go_wp2;go_ret;exact ⟨congrArg (λz=>Ending.returned (.int .u64 z)) (by first | rfl | exact H.o),rfl⟩
theorem rg_all (n:Int) (w:World) (h0:0<=n) (h1:n<=64):
 Calls prog 201 #[.int .i64 n] w λe w'=>e=.returned (.tuple #[.int .u64 (allI n),.int .i64 0])/\w=w':=by
 obtain ⟨m,rfl⟩:∃m:Nat,n=m:=⟨n.toNat,by omega⟩;have hm:m<=64:=by omega
 go_enter func201,ntmps201;go_wp2;go_loopw [4,5] (λv i wr=>∃k:Nat,k<=m/\i=.int .i64 k/\v=.int .u64 (allI k)/\w=wr) (λ_ i _=>m-(intOf i).toNat)
 case atStart=>exact ⟨0,Nat.zero_le _,rfl,rfl,rfl⟩
 obtain ⟨k,hk,rfl,rfl,rfl⟩:=hrel;by_cases hlt:k<m
 ·have hlt':(k:Int)<(m:Int):=by omega
  have k0:(0:Int)<=(k:Int):=by omega
  have HO:=Hd (all_or k (by omega));have HC:=Hd (z02 k w k0 (by omega));rw[show ((k:Int)).toNat=k from rfl] at HC;go_wp2_with fail;refine HC.o.mono ?_;rintro u w1 ⟨rfl,rfl⟩;go_wp2;exact ⟨⟨k+1,by omega,by go_num,by rw[HO.o];rfl,by trivial⟩,by simp[intOf];omega⟩
 have hlt':¬(k:Int)<(m:Int):=by omega
 obtain rfl:k=m:=by omega
 go_wp2;go_ret2;exact ⟨rfl,by trivial⟩
theorem ze6 (s n:Int) (w:World) (h0:0<=n) (h1:n<=64):
 Calls prog 178 #[.int .u64 s,.int .i64 n] w λe w'=>e=.returned (.bool (decide (bits .andNot .u64 s (allI n)=0)))/\w=w':=by
 go_enter func178,ntmps178;go_wp2_with fail;refine (rg_all n _ h0 h1).mono ?_;rintro u w1 ⟨rfl,rfl⟩;obtain ⟨x,hx⟩:=jN (bits .andNot .u64 s (allI n));have HX:=Hd hx;clear hx;go_wp2;go_ret;exact ⟨ze7 (by rw[HX.o,Bool.eq_iff_iff];simp),rfl⟩
theorem rg_has (s u:Int) (w:World) (s0:0<=s) (s1:s<18446744073709551616):
 Calls prog 203 #[.int .u64 s,.int .i64 u] w λe w'=>e=.returned (.bool (hasI s u))/\w=w':=by
 by_cases hu:0<=u/\u<64
 ·obtain ⟨h0,h1⟩:=hu;have HB:=Hd (z3j s u.toNat s0 s1 (by omega));have HH:=jM (hasI s u=decide (s / 2 ^ u.toNat % 2=1)) (by simp[hasI,h0,h1]);have HC:=Hd (z02 u w h0 h1);have HU:Hid (Calls prog 231 #[.int .i64 u] w λe w'=>e=.returned (.bool true)/\w=w'):=Hd (by
   go_enter func231,ntmps231;go_wp2;go_ret;exact ⟨rfl,rfl⟩)
  go_enter func203,ntmps203;go_wp2_with fail;refine HU.o.mono ?_;rintro e w1 ⟨rfl,rfl⟩;go_wp2_with fail;refine HC.o.mono ?_;rintro e w1 ⟨rfl,rfl⟩;go_wp2;go_ret;exact ⟨ze7 (by rw[HH.o,<- HB.o]),rfl⟩
 have HH:=Hd (show hasI s u=false by
  unfold hasI;by_cases h0:0<=u
  ·rw[jA (λh1=>hu ⟨h0,h1⟩:¬u<64)];simp
  rw[jA h0];simp)
 have HU:Hid (Calls prog 231 #[.int .i64 u] w λe w'=>e=.returned (.bool false)/\w=w'):=Hd (by
  by_cases h0:0<=u
  ·have h1:¬u<64:=λh1=>hu ⟨h0,h1⟩;go_enter func231,ntmps231;go_wp2;go_ret;exact ⟨rfl,rfl⟩
  skip
  go_enter func231,ntmps231;go_wp2;go_ret;exact ⟨rfl,rfl⟩)
 clear hu;go_enter func203,ntmps203;go_wp2_with fail;refine HU.o.mono ?_;rintro e w1 ⟨rfl,rfl⟩;go_wp2;go_ret;exact ⟨ze7 (by rw[HH.o]),rfl⟩
theorem ziq (a b c d:Int) (w:World):
 Calls prog 177 #[.agg #[.int .i64 a,.int .i64 b,.int .i64 c,.int .i64 d]] w λe w'=>e=.returned (.bool (rctB ⟨a,b,c,d⟩))/\Below w w w':=by
 have HR:=Hd (show rctB ⟨a,b,c,d⟩=decide (1<=a/\a<=c/\c<=1024/\1<=b/\b<=d/\d<=1024) by
  rw[Bool.eq_iff_iff];simp only[rctB,za6,ji,decide_eq_true_eq];omega)
 generalize rctB ⟨a,b,c,d⟩=r at *;by_cases h1:1<=a;rotate_left
 ·have H2:=jM (r=false) (by rw[HR.o];exact jA (by omega));clear HR;go_enter func177,ntmps177;go_wp2;go_ret;exact ⟨by rw[H2.o];rfl,by go_grown⟩
 by_cases h2:a<=c;rotate_left
 ·have H2:=jM (r=false) (by rw[HR.o];exact jA (by omega));clear HR;go_enter func177,ntmps177;go_wp2;go_ret;exact ⟨by rw[H2.o];rfl,by go_grown⟩
 by_cases h3:c<=1024;rotate_left
 ·have H2:=jM (r=false) (by rw[HR.o];exact jA (by omega));clear HR;go_enter func177,ntmps177;go_wp2;go_ret;exact ⟨by rw[H2.o];rfl,by go_grown⟩
 by_cases h4:1<=b;rotate_left
 ·have H2:=jM (r=false) (by rw[HR.o];exact jA (by omega));clear HR;go_enter func177,ntmps177;go_wp2;go_ret;exact ⟨by rw[H2.o];rfl,by go_grown⟩
 by_cases h5:b<=d;rotate_left
 ·have H2:=jM (r=false) (by rw[HR.o];exact jA (by omega));clear HR;go_enter func177,ntmps177;go_wp2;go_ret;exact ⟨by rw[H2.o];rfl,by go_grown⟩
 by_cases h6:d<=1024;rotate_left
 ·have H2:=jM (r=false) (by rw[HR.o];exact jA (by omega));clear HR;go_enter func177,ntmps177;go_wp2;go_ret;exact ⟨by rw[H2.o];rfl,by go_grown⟩
 have H2:=jM (r=true) (by rw[HR.o];exact jB ⟨h1,h2,h3,h4,h5,h6⟩);clear HR;go_enter func177,ntmps177;go_wp2;go_ret;exact ⟨by rw[H2.o];rfl,by go_grown⟩
theorem zpa (k:Int) (w:World):
 Calls prog 205 #[.int .u8 k] w λe w'=>e=.returned (.bool (decide (46<=k)&&decide (k<=50)))/\w=w':=by
 by_cases h1:46<=k
 ·by_cases h2:k<=50
  ·have H:=jM ((decide (46<=k)&&decide (k<=50))=true) (by simp[h1,h2]);go_enter func205,ntmps205;go_wp2;go_ret;exact ⟨by rw[H.o];rfl,rfl⟩
  have H:=jM (decide (k<=50)=false) (by simp;omega);go_enter func205,ntmps205;go_wp2;go_ret;exact ⟨congrArg (λz=>Ending.returned (.bool z)) (by simp[];omega),rfl⟩
 have H:=jM ((decide (46<=k)&&decide (k<=50))=false) (by simp[h1]);go_enter func205,ntmps205;go_wp2;go_ret;exact ⟨by rw[H.o];rfl,rfl⟩
def WideR (u:Ending):Prop:=∃h l:Int,u=.returned (.agg #[.int .u64 h,.int .u64 l])
theorem WideR.of (h l:Int):WideR (.returned (.agg #[.int .u64 h,.int .u64 l])):=⟨h,l,rfl⟩
def NumBR (u:Ending):Prop:=∃(n:Int) (b:Bool),u=.returned (.tuple #[.int .i64 n,.bool b])
theorem NumBR.of (n:Int) (b:Bool):NumBR (.returned (.tuple #[.int .i64 n,.bool b])):=⟨n,b,rfl⟩
def NumER (u:Ending):Prop:=∃(n e:Int),u=.returned (.tuple #[.int .i64 n,.int .i64 e])
theorem NumER.of (n e:Int):NumER (.returned (.tuple #[.int .i64 n,.int .i64 e])):=⟨n,e,rfl⟩
theorem zis (a b c d:Int) (w:World):Calls prog 292 #[.agg #[.int .u64 a,.int .u64 b],.agg #[.int .u64 c,.int .u64 d]] w λu w'=>WideR u/\Below w w w':=by
 by_cases hc:IntKind.u64.wrap (b+d)<b
 ·skip
  go_enter func292,ntmps292;go_wp2;refine jO results292 (v:=.agg #[.int .u64 (IntKind.u64.wrap (IntKind.u64.wrap (a+c)+1)),.int .u64 (IntKind.u64.wrap (b+d))]) ?_;exact ⟨WideR.of _ _,by go_grown⟩
 skip
 go_enter func292,ntmps292;go_wp2;refine jO results292 (v:=.agg #[.int .u64 (IntKind.u64.wrap (a+c)),.int .u64 (IntKind.u64.wrap (b+d))]) ?_;exact ⟨WideR.of _ _,by go_grown⟩
abbrev WideK (w:World) (g:Nat) (h l:Int):Prop:=Blk w g 302 #[.int .u64 h,.int .u64 l]
theorem WideK.put (k:WideK w g h l) (h' l':Int):WideK ((w.setCell (g,0) (.int .u64 h')).setCell (g,1) (.int .u64 l')) g h' l':=
 Blk.eqv (cs':=#[.int .u64 h',.int .u64 l']) ((Blk.set_ k 0 _).set_ 1 _) rfl
theorem zr1 (h:Below B a w) (hg:B<=g) (v0 v1:Value):Below B a ((w.setCell (g,0) v0).setCell (g,1) v1):=(h.setCell hg _).setCell hg _
theorem WideK.facts (k:WideK w g h l):w.cell? (g,0)=some (.int .u64 h)/\w.cell? (g,1)=some (.int .u64 l)/\∀o,w.frozen? ⟨g,o,none⟩=false:=⟨Blk.cell k 0,Blk.cell k 1,λo=>Blk.frozen k o⟩
theorem zvl (a b:Int) (w:World):Calls prog 293 #[.int .u64 a,.int .u64 b] w λu w'=>WideR u/\Below w w w':=by
 have K4:=jM (WideK ((w.alloc (.cells #[.int .u64 0,.int .u64 0] 302)).alloc (.cells #[.int .u64 (IntKind.u64.wrap (IntKind.u64.wrap (a.tdiv 4294967296)*IntKind.u64.wrap (b.tdiv 4294967296))),.int .u64 (IntKind.u64.wrap (a.tmod 4294967296*b.tmod 4294967296))] 302)) w.heap.size 0 0) ((je w _ _).alloc _);have K9:=jM (WideK ((w.alloc (.cells #[.int .u64 0,.int .u64 0] 302)).alloc (.cells #[.int .u64 (IntKind.u64.wrap (IntKind.u64.wrap (a.tdiv 4294967296)*IntKind.u64.wrap (b.tdiv 4294967296))),.int .u64 (IntKind.u64.wrap (a.tmod 4294967296*b.tmod 4294967296))] 302)) (w.heap.size+1) _ _) (by simpa using je (w.alloc (.cells #[.int .u64 0,.int .u64 0] 302)) 302 #[.int .u64 (IntKind.u64.wrap (IntKind.u64.wrap (a.tdiv 4294967296)*IntKind.u64.wrap (b.tdiv 4294967296))),.int .u64 (IntKind.u64.wrap (a.tmod 4294967296*b.tmod 4294967296))]);go_enter func293,ntmps293;go_wp2_with fail;refine (zis _ _ _ _ _).mono ?_;rintro u w1 ⟨⟨h1,l1,rfl⟩,hb1⟩;have J4:=Hd (Blk.below_ K4.o hb1);have J9:=Hd (Blk.below_ K9.o hb1);have HB1:=jM (Below w w w1) (nxt hb1);obtain ⟨c0,c1,cf⟩:=WideK.facts J9.o;have hz:=hb1.size;have hn:w.heap.size≠w.heap.size+1:=by omega
 have M4:=Hd (((Blk.far (p:=⟨w.heap.size+1,0,none⟩) J4.o hn (.int .u64 h1)).far (p:=⟨w.heap.size+1,1,none⟩) hn (.int .u64 l1)));have HM:=Hd (zr1 HB1.o (show w.heap.size<=w.heap.size+1 by omega) (.int .u64 h1) (.int .u64 l1));clear hb1 K4 K9 hz;go_wp2_with fail;refine (zis _ _ _ _ _).mono ?_;rintro u w2 ⟨⟨h2,l2,rfl⟩,hb2⟩;have N4:=Hd (Blk.below_ M4.o hb2);have HB2:=Hd (jd HM.o hb2 HM.o.size);obtain ⟨d0,d1,df⟩:=WideK.facts N4.o;obtain ⟨e0,e1,ef⟩:=WideK.facts (WideK.put N4.o h2 l2);clear hb2 c0 c1 cf M4 HM J4 J9;go_wp2;refine jO results293 (v:=.agg #[.int .u64 h2,.int .u64 l2]) ?_ (by simp (maxDischargeDepth:=9) [jQ,go_sem,e0,e1]);exact ⟨WideR.of _ _,zr1 HB2.o jy _ _⟩
theorem zs2 (h l:Int) (b:Bool) (w:World):Calls prog 294 #[.agg #[.int .u64 h,.int .u64 l],.bool b] w λu w'=>NumBR u/\Below w w w':=by
 by_cases h1:h=0;rotate_left
 ·have t1:(h != 0)=true:=by simpa using h1
  go_enter func294,ntmps294;go_wp2;go_ret2;exact ⟨NumBR.of _ _,by go_grown⟩
 have t1:(h != 0)=false:=by simpa using h1
 clear h1;by_cases h2:9223372036854775807<l
 ·skip
  go_enter func294,ntmps294;go_wp2;go_ret2;exact ⟨NumBR.of _ _,by go_grown⟩
 cases b
 ·skip
  go_enter func294,ntmps294;go_wp2;go_ret2;exact ⟨NumBR.of _ _,by go_grown⟩
 skip
 go_enter func294,ntmps294;go_wp2;go_ret2;exact ⟨NumBR.of _ _,by go_grown⟩
theorem zs3 (s:zaa) (k0:Nat) (w:World) (hs:s.length<=1000000) (h0:k0<=s.length):Calls prog 291 #[str s,.int .i64 k0] w λu w'=>(∃k:Nat,u=.returned (.int .i64 k)/\k0<=k/\k<=s.length)/\w=w':=by
 go_enter func291,ntmps291;go_wp2_with fail;go_loopw [1] (λv wr=>∃k:Nat,k0<=k/\k<=s.length/\v=.int .i64 k/\w=wr) (λv _=>s.length-(intOf v).toNat)
 case atStart=>exact ⟨k0,Nat.le_refl _,h0,rfl,rfl⟩
 obtain ⟨k,hk0,hk,rfl,rfl⟩:=hrel;have k0':(0:Int)<=(k:Int):=by omega
 by_cases hlt:k<s.length;rotate_left
 ·have hk1:¬(k:Int)<(s.length:Int):=by omega
  go_wp2;go_ret;exact ⟨⟨k,rfl,hk0,hk⟩,rfl⟩
 have hk1:(k:Int)<(s.length:Int):=by omega
 have hx:=za3 s k (by rw[zae];exact hlt);generalize s.getD k 0=c at hx;by_cases c1:48<=c.toNat;rotate_left
 ·have c1':¬(48:Int)<=(c.toNat:Int):=by omega
  go_wp2;go_ret;exact ⟨⟨k,rfl,hk0,hk⟩,rfl⟩
 have c1':(48:Int)<=(c.toNat:Int):=by omega
 by_cases c2:c.toNat<=57;rotate_left
 ·have c2':¬(c.toNat:Int)<=57:=by omega
  go_wp2;go_ret;exact ⟨⟨k,rfl,hk0,hk⟩,rfl⟩
 have c2':(c.toNat:Int)<=57:=by omega
 go_wp2;exact ⟨⟨k+1,by omega,by omega,by go_num,by trivial⟩,by simp[intOf];omega⟩
theorem zza (n:Int) (w:World):Calls prog 259 #[.int .i64 n] w λu w'=>(∃(k n:Int) (x:zaa),u=.returned (.agg #[.int .u8 k,.int .i64 n,str x]))/\Below w w w':=by
 by_cases h:n< -9223372036854775807
 ·have K0:=Hd (je w 189 #[.int .u8 0,.int .i64 0,.string ⟨#[]⟩]);go_enter func259,ntmps259;go_wp2_with fail;refine (zl4 3 (by omega) (by omega) _).mono ?_;rintro u w1 ⟨rfl,hb1⟩;have K1:=Hd (K0.o.below_ hb1);have HB1:=jM (Below w w w1) (nxt hb1);obtain ⟨q0,q1,q2⟩:=K1.o.c3 0 1 2;have qf:=λo=>K1.o.frozen o;clear hb1;go_wp2;refine jO results259 (v:=.agg #[.int .u8 4,.int .i64 3,str []]) ?_ (by simp (maxDischargeDepth:=9) [jQ,go_sem,q0,q1,q2]);exact ⟨⟨_,_,_,rfl⟩,((HB1.o.setCell jy _).setCell jy _).setCell jy _⟩
 refine (zy0 n w (by omega)).mono ?_;rintro u w1 ⟨rfl,hb1⟩;exact ⟨⟨_,_,_,rfl⟩,hb1⟩
end Go.Proofs.YtamcgggmfghljaaGreatDoor
