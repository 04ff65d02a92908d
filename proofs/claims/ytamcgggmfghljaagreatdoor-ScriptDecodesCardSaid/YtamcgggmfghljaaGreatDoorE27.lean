/- walk -/
import Derived.Test.YtamcgggmfghljaaGreatDoorE26
set_option maxRecDepth 100000
set_option maxHeartbeats 8000000
open Go.Proofs.Tryz
namespace Go.Proofs.YtamcgggmfghljaaGreatDoor
open Go.RowKit
variable {g m p q:Nat} {x x1 x2:Opr} {r r1 r2:Rd} {s:Scp} {α:Type} {t:TypeId} {W W' W1 W2:World}
def nxO (m:Nat):Nat->Opr × Rd->Opr × Rd
 | 0,s=>({ s.1 with user:=(ifR (bitR m 0) s.1.user intR s.2).1 },(ifR (bitR m 0) s.1.user intR s.2).2)
 | 1,s=>({ s.1 with rect:=(ifR (bitR m 1) s.1.rect zbr s.2).1 },(ifR (bitR m 1) s.1.rect zbr s.2).2)
 | 2,s=>({ s.1 with input:=(ifR (bitR m 2) s.1.input zdu s.2).1 },(ifR (bitR m 2) s.1.input zdu s.2).2)
 | 3,s=>({ s.1 with rights:=(ifR (bitR m 3) s.1.rights zd5 s.2).1 },(ifR (bitR m 3) s.1.rights zd5 s.2).2)
 | 4,s=>({ s.1 with fns:=(ifR (bitR m 4) s.1.fns u8R s.2).1 },(ifR (bitR m 4) s.1.fns u8R s.2).2)
 | 5,s=>({ s.1 with to_:=(ifR (bitR m 5) s.1.to_ u64R s.2).1 },(ifR (bitR m 5) s.1.to_ u64R s.2).2)
 | 6,s=>({ s.1 with index:=(ifR (bitR m 6) s.1.index intR s.2).1 },(ifR (bitR m 6) s.1.index intR s.2).2)
 | _,s=>s
def stO (kd:Int) (m:Nat) (r:Rd):Nat->Opr × Rd
 | 0=>(⟨kd,0,⟨0,0,0,0⟩,[],⟨0,0,0⟩,0,0,0⟩,r)
 | k+1=>nxO m k (stO kd m r k)
theorem zpg (r:Rd):oprR r=stO (u8R r).1 (numR (u8R r).2).1 (numR (u8R r).2).2 7:=by
 unfold oprR;simp only[stO,nxO]
theorem zg5 (b:Bool) (z:α) (f:Rd->α × Rd) (r:Rd) (hf:(f r).2.1.length<=r.1.length):(ifR b z f r).2.1.length<=r.1.length:=by
 unfold ifR;cases b
 ·exact Nat.le_refl _
 exact hf
theorem z21 (m k:Nat) (s:Opr × Rd):(nxO m k s).2.1.length<=s.2.1.length:=by
 match k with
 | 0=>simp only[nxO];exact zg5 (bitR m 0) s.1.user intR s.2 (zac _)
 | 1=>simp only[nxO];exact zg5 (bitR m 1) s.1.rect zbr s.2 (zcq _)
 | 2=>simp only[nxO];exact zg5 (bitR m 2) s.1.input zdu s.2 (zja s.2)
 | 3=>simp only[nxO];exact zg5 (bitR m 3) s.1.rights zd5 s.2 (zhf _)
 | 4=>simp only[nxO];exact zg5 (bitR m 4) s.1.fns u8R s.2 (zac _)
 | 5=>simp only[nxO];exact zg5 (bitR m 5) s.1.to_ u64R s.2 (zac _)
 | 6=>simp only[nxO];exact zg5 (bitR m 6) s.1.index intR s.2 (zac _)
 | k+7=>exact Nat.le_refl _
theorem zo5 (kd:Int) (m:Nat) (r:Rd):∀k,(stO kd m r k).2.1.length<=r.1.length
 | 0=>Nat.le_refl _
 | k+1=>jx (z21 m k _) (zo5 kd m r k)
theorem zq6 (h:bitR m 0=true):nxO m 0 (x,r)=({ x with user:=(intR r).1 },(intR r).2):=by simp only[nxO,ifR,h,if_true]
theorem zn5 (h:bitR m 0=false):nxO m 0 (x,r)=(x,r):=by simp[nxO,ifR,h]
theorem zq5 (h:bitR m 1=true):nxO m 1 (x,r)=({ x with rect:=(zbr r).1 },(zbr r).2):=by simp only[nxO,ifR,h,if_true]
theorem zn4 (h:bitR m 1=false):nxO m 1 (x,r)=(x,r):=by simp[nxO,ifR,h]
theorem zq4 (h:bitR m 2=true):nxO m 2 (x,r)=({ x with input:=(zdu r).1 },(zdu r).2):=by simp only[nxO,ifR,h,if_true]
theorem zn3 (h:bitR m 2=false):nxO m 2 (x,r)=(x,r):=by simp[nxO,ifR,h]
theorem zq3 (h:bitR m 3=true):nxO m 3 (x,r)=({ x with rights:=(zd5 r).1 },(zd5 r).2):=by simp only[nxO,ifR,h,if_true]
theorem zn2 (h:bitR m 3=false):nxO m 3 (x,r)=(x,r):=by simp[nxO,ifR,h]
theorem zq2 (h:bitR m 4=true):nxO m 4 (x,r)=({ x with fns:=(u8R r).1 },(u8R r).2):=by simp only[nxO,ifR,h,if_true]
theorem zn1 (h:bitR m 4=false):nxO m 4 (x,r)=(x,r):=by simp[nxO,ifR,h]
theorem zq1 (h:bitR m 5=true):nxO m 5 (x,r)=({ x with to_:=(u64R r).1 },(u64R r).2):=by simp only[nxO,ifR,h,if_true]
theorem zn0 (h:bitR m 5=false):nxO m 5 (x,r)=(x,r):=by simp[nxO,ifR,h]
theorem zq0 (h:bitR m 6=true):nxO m 6 (x,r)=({ x with index:=(intR r).1 },(intR r).2):=by simp only[nxO,ifR,h,if_true]
theorem znz (h:bitR m 6=false):nxO m 6 (x,r)=(x,r):=by simp[nxO,ifR,h]
theorem zel (y:Int):bits .and .i64 y 1=y % 2:=by
 show IntKind.i64.wrap (((BitVec.ofInt 64 y &&& BitVec.ofInt 64 1).toNat:Nat):Int)=y % 2;rw[BitVec.toNat_and,BitVec.toNat_ofInt,show (BitVec.ofInt 64 1).toNat=1 by decide,Nat.and_one_is_mod,IntKind.wrap_i64];omega
theorem bit_0 (m:Nat):bits .and .i64 (zaj m) 1=if bitR m 0=true then 1 else 0:=by
 rw[zel];unfold zaj bitR;simp only[decide_eq_true_eq];split <;> omega
theorem bit_1 (m:Nat):bits .and .i64 (zaj m / 2) 1=if bitR m 1=true then 1 else 0:=by
 rw[zel];unfold zaj bitR;simp only[decide_eq_true_eq];split <;> omega
theorem bit_2 (m:Nat):bits .and .i64 (zaj m / 4) 1=if bitR m 2=true then 1 else 0:=by
 rw[zel];unfold zaj bitR;simp only[decide_eq_true_eq];split <;> omega
theorem bit_3 (m:Nat):bits .and .i64 (zaj m / 8) 1=if bitR m 3=true then 1 else 0:=by
 rw[zel];unfold zaj bitR;simp only[decide_eq_true_eq];split <;> omega
theorem bit_4 (m:Nat):bits .and .i64 (zaj m / 16) 1=if bitR m 4=true then 1 else 0:=by
 rw[zel];unfold zaj bitR;simp only[decide_eq_true_eq];split <;> omega
theorem bit_5 (m:Nat):bits .and .i64 (zaj m / 32) 1=if bitR m 5=true then 1 else 0:=by
 rw[zel];unfold zaj bitR;simp only[decide_eq_true_eq];split <;> omega
theorem bit_6 (m:Nat):bits .and .i64 (zaj m / 64) 1=if bitR m 6=true then 1 else 0:=by
 rw[zel];unfold zaj bitR;simp only[decide_eq_true_eq];split <;> omega
theorem OpTo.rd (h:RdTo p W W1 r1) (k:OpTo p g W1 W2 r2 x) (hg:W.heap.size<=g):RdTo p W W2 r2:=
 ⟨k.blk,⟨k.chg.os.trans h.chg.os,k.chg.tape.trans h.chg.tape,k.chg.output.trans h.chg.output,jx h.chg.size k.chg.size,λi hi hs=>
  (k.chg.block i (jG hi h.chg.size) (by rintro (e | e);exact hs e;omega)).trans (h.chg.block i hi hs)⟩⟩
theorem OpTo.trans (h:OpTo p g W W1 r1 x1) (k:OpTo p g W1 W2 r2 x2):OpTo p g W W2 r2 x2:=⟨k.blk,k.op,h.chg.trans k.chg⟩
theorem OpTo.keep {cs:Array Value} (h:OpTo p g W W' r x) (hb:Blk W q t cs) (h1:q≠p) (h2:q≠g):Blk W' q t cs:=hb.chg h.chg (by rintro (e | e);exact h1 e;exact h2 e)
theorem znp (p:Nat) (r:Rd) (W:World) (h:RdAt W p r) (hl:r.1.length<=1000000):
 Calls prog 75 (aP p) W λu W'=>u=.returned (.agg (cOpr (oprR r).1).toArray)/\RdTo p W W' (oprR r).2:=by
 have hlt:=h.lt;have hcp:W.heap.size≠p:=by omega
 have hdp:W.heap.size+1≠p:=by omega
 have T0:=Hd (((RdTo.refl h).alloc (.cells (aP p) 95)).alloc (.cells (aK 0) 48));have C0:=Hd ((je W 95 (aP p)).alloc (.cells (aK 0) 48));have D0:=jM (Blk ((W.alloc (.cells (aP p) 95)).alloc (.cells (aK 0) 48)) (W.heap.size+1) 48 #[.int .u8 0,.int .i64 0,.int .i64 0,.int .i64 0,.int .i64 0,.int .i64 0,str [],.int .u64 0,.int .u64 0,.int .u64 0,.int .u8 0,.int .u64 0,.int .i64 0]) (by
  have:=je (W.alloc (.cells (aP p) 95)) 48 #[.int .u8 0,.int .i64 0,.int .i64 0,.int .i64 0,.int .i64 0,.int .i64 0,str [],.int .u64 0,.int .u64 0,.int .u64 0,.int .u8 0,.int .u64 0,.int .i64 0];simpa using this)
 have HE0:=Hd (zpg r);clear h;go_enter func75,ntmps75;go_wp2_with fail;have hC:=zvf p r _ T0.o.blk hl;have hL:=zac r;obtain ⟨q1,hq⟩:=jN (numR r);rw[hq] at hC hL;have HQ1:=Hd hq;clear hq;refine hC.mono ?_;rintro e W1 ⟨rfl,t1⟩;have C1:=Hd (t1.keep C0.o hcp);have D1:=Hd (t1.keep D0.o hdp);have T1:=Hd (T0.o.trans t1);have hr1:=Hd (jx hL hl);clear t1 hC hL;generalize hx:((q1.1 % 256:Nat):Int)=kd;have HE1:=Hd (HE0.o.trans (by rw[u8R_q HQ1.o hx]:_=stO kd (numR q1.2).1 (numR q1.2).2 7));clear hx;have hlt1:W.heap.size+1<W1.heap.size:=D1.o.lt;have G1:=jM (Blk (W1.alloc (.cells (aL kd) 48)) W1.heap.size 48 (cOpr (stO kd (numR q1.2).1 (numR q1.2).2 0).1).toArray) (je W1 48 _);go_upto_region 2 with (fail)
 have T2:=Hd (T1.o.alloc (.cells (aL kd) 48));have C2:=Hd (C1.o.alloc (.cells (aL kd) 48));have D2:=Hd (D1.o.alloc (.cells (aL kd) 48));obtain ⟨W2,hW2⟩:=jN (W1.alloc (.cells (aL kd) 48));rw[hW2] at G1 T2 C2 D2 ⊢;obtain ⟨g,hg⟩:=jN W1.heap.size;rw[hg] at G1 hlt1 ⊢;have hgp:g≠p:=by omega
 have hgc:W.heap.size≠g:=by omega
 clear hW2 hg T1 C1 D1 T0 C0 D0 HE0;have c0:=C2.o.cell 0;go_wp2_with fail;have hC:=zb3 p q1.2 W2 T2.o.blk hr1.o;have hL:=zac q1.2;obtain ⟨q2,hq⟩:=jN (numR q1.2);rw[hq] at hC hL;have HE2:=Hd (HE1.o.trans (by rw[hq]:_=stO kd q2.1 q2.2 7));have HG0:=jM (Blk W2 g 48 (cOpr (stO kd q2.1 q2.2 0).1).toArray) G1.o;clear hq G1 HE1;refine hC.mono ?_;rintro e W3 ⟨rfl,t1⟩;have C3:=Hd (t1.keep C2.o hcp);have D3:=Hd (t1.keep D2.o hdp);have G3:=Hd (t1.keep HG0.o hgp);have T3:=Hd (T2.o.trans t1);have hr3:=Hd (jx hL hr1.o);clear t1 hC hL T2 C2 D2 HG0 c0;have HB0:=Hd (bit_0 q2.1);have HB1:=Hd (bit_1 q2.1);have HB2:=Hd (bit_2 q2.1);have HB3:=Hd (bit_3 q2.1);have HB4:=Hd (bit_4 q2.1);have HB5:=Hd (bit_5 q2.1);have HB6:=Hd (bit_6 q2.1);generalize hM:zaj q2.1=M;rw[hM] at HB0 HB1 HB2 HB3 HB4 HB5 HB6;clear hM;have hf3:g<W3.heap.size:=G3.o.lt;have hfp:p<W3.heap.size:=jG hlt T3.o.chg.size;have G4:=Hd (G3.o.alloc (.cells #[.func (.func 146) #[] #[.pointer (some (W,0)),.pointer (some (g,0))],.func (.func 147) #[] #[.pointer (some (W,0)),.pointer (some (g,0))],.func (.func 148) #[] #[.pointer (some (W,0)),.pointer (some (g,0))],.func (.func 149) #[] #[.pointer (some (W,0)),.pointer (some (g,0))],.func (.func 150) #[] #[.pointer (some (W,0)),.pointer (some (g,0))],.func (.func 151) #[] #[.pointer (some (W,0)),.pointer (some (g,0))],.func (.func 152) #[] #[.pointer (some (W,0)),.pointer (some (g,0))]] 1));have T4:=Hd (T3.o.alloc (.cells #[.func (.func 146) #[] #[.pointer (some (W,0)),.pointer (some (g,0))],.func (.func 147) #[] #[.pointer (some (W,0)),.pointer (some (g,0))],.func (.func 148) #[] #[.pointer (some (W,0)),.pointer (some (g,0))],.func (.func 149) #[] #[.pointer (some (W,0)),.pointer (some (g,0))],.func (.func 150) #[] #[.pointer (some (W,0)),.pointer (some (g,0))],.func (.func 151) #[] #[.pointer (some (W,0)),.pointer (some (g,0))],.func (.func 152) #[] #[.pointer (some (W,0)),.pointer (some (g,0))]] 1));have C4:=Hd (C3.o.alloc (.cells #[.func (.func 146) #[] #[.pointer (some (W,0)),.pointer (some (g,0))],.func (.func 147) #[] #[.pointer (some (W,0)),.pointer (some (g,0))],.func (.func 148) #[] #[.pointer (some (W,0)),.pointer (some (g,0))],.func (.func 149) #[] #[.pointer (some (W,0)),.pointer (some (g,0))],.func (.func 150) #[] #[.pointer (some (W,0)),.pointer (some (g,0))],.func (.func 151) #[] #[.pointer (some (W,0)),.pointer (some (g,0))],.func (.func 152) #[] #[.pointer (some (W,0)),.pointer (some (g,0))]] 1));have D4:=Hd (D3.o.alloc (.cells #[.func (.func 146) #[] #[.pointer (some (W,0)),.pointer (some (g,0))],.func (.func 147) #[] #[.pointer (some (W,0)),.pointer (some (g,0))],.func (.func 148) #[] #[.pointer (some (W,0)),.pointer (some (g,0))],.func (.func 149) #[] #[.pointer (some (W,0)),.pointer (some (g,0))],.func (.func 150) #[] #[.pointer (some (W,0)),.pointer (some (g,0))],.func (.func 151) #[] #[.pointer (some (W,0)),.pointer (some (g,0))],.func (.func 152) #[] #[.pointer (some (W,0)),.pointer (some (g,0))]] 1));have F4:=Hd (je W3 1 #[.func (.func 146) #[] #[.pointer (some (W,0)),.pointer (some (g,0))],.func (.func 147) #[] #[.pointer (some (W,0)),.pointer (some (g,0))],.func (.func 148) #[] #[.pointer (some (W,0)),.pointer (some (g,0))],.func (.func 149) #[] #[.pointer (some (W,0)),.pointer (some (g,0))],.func (.func 150) #[] #[.pointer (some (W,0)),.pointer (some (g,0))],.func (.func 151) #[] #[.pointer (some (W,0)),.pointer (some (g,0))],.func (.func 152) #[] #[.pointer (some (W,0)),.pointer (some (g,0))]]);go_wp2_with fail;obtain ⟨W4,hW4⟩:=jN (W3.alloc (.cells #[.func (.func 146) #[] #[.pointer (some (W,0)),.pointer (some (g,0))],.func (.func 147) #[] #[.pointer (some (W,0)),.pointer (some (g,0))],.func (.func 148) #[] #[.pointer (some (W,0)),.pointer (some (g,0))],.func (.func 149) #[] #[.pointer (some (W,0)),.pointer (some (g,0))],.func (.func 150) #[] #[.pointer (some (W,0)),.pointer (some (g,0))],.func (.func 151) #[] #[.pointer (some (W,0)),.pointer (some (g,0))],.func (.func 152) #[] #[.pointer (some (W,0)),.pointer (some (g,0))]] 1));rw[hW4] at G4 T4 C4 D4 F4 ⊢;obtain ⟨f,hf⟩:=jN W3.heap.size;rw[hf] at F4 hf3 hfp ⊢;clear hW4 hf G3 T3 C3 D3;have hfp':f≠p:=by omega
 have hfg:f≠g:=by omega
 have hdg:W.heap.size+1≠g:=by omega
 go_loopw [21] (λi wr=>∃k:Nat,k<=7/\i=.int .i64 k/\OpTo p g W4 wr (stO kd q2.1 q2.2 k).2 (stO kd q2.1 q2.2 k).1) (λi _=>7-(intOf i).toNat)
 case atStart=>exact ⟨0,by omega,rfl,T4.o.blk,G4.o,Chg.refl _ _⟩
 rename World=>w0
 obtain ⟨k,hk,rfl,ho⟩:=hrel;have hL:=zo5 kd q2.1 q2.2 k;obtain ⟨st,hst⟩:=jN (stO kd q2.1 q2.2 k);rw[hst] at ho hL;obtain ⟨x,rk⟩:=st;have HST:=Hd hst;have HO:=jM (OpTo p g W4 w0 rk x) ho;have hrk:=jM (rk.1.length<=1000000) (jx hL hr3.o);have CW:=Hd (HO.o.keep C4.o hcp hgc);have DW:=Hd (HO.o.keep D4.o hdp hdg);have FW:=Hd (HO.o.keep F4.o hfp' hfg);clear hst ho hL;have h8:k=7\/k=0\/k=1\/k=2\/k=3\/k=4\/k=5\/k=6:=by omega
 rcases h8 with rfl|rfl|rfl|rfl|rfl|rfl|rfl|rfl
 ·rw[show (((7:Nat):Int))=7 from rfl];have HE:=Hd (HE2.o.trans HST.o);have TF:=Hd (OpTo.rd T4.o HO.o (by omega));have e0:w0.cell? (g,0)=some (.int .u8 x.kind):=HO.o.op.cell 0;have y0:=DW.o.cell 0;have f0:w0.frozen? (W.heap.size+1,0)=false:=DW.o.frozen 0;have e1:w0.cell? (g,1)=some (.int .i64 x.user):=HO.o.op.cell 1;have y1:=DW.o.cell 1;have f1:w0.frozen? (W.heap.size+1,1)=false:=DW.o.frozen 1;have e2:w0.cell? (g,2)=some (.int .i64 x.rect.c1):=HO.o.op.cell 2;have y2:=DW.o.cell 2;have f2:w0.frozen? (W.heap.size+1,2)=false:=DW.o.frozen 2;have e3:w0.cell? (g,3)=some (.int .i64 x.rect.r1):=HO.o.op.cell 3;have y3:=DW.o.cell 3;have f3:w0.frozen? (W.heap.size+1,3)=false:=DW.o.frozen 3;have e4:w0.cell? (g,4)=some (.int .i64 x.rect.c2):=HO.o.op.cell 4;have y4:=DW.o.cell 4;have f4:w0.frozen? (W.heap.size+1,4)=false:=DW.o.frozen 4;have e5:w0.cell? (g,5)=some (.int .i64 x.rect.r2):=HO.o.op.cell 5;have y5:=DW.o.cell 5;have f5:w0.frozen? (W.heap.size+1,5)=false:=DW.o.frozen 5;have e6:w0.cell? (g,6)=some (str x.input):=HO.o.op.cell 6;have y6:=DW.o.cell 6;have f6:w0.frozen? (W.heap.size+1,6)=false:=DW.o.frozen 6;have e7:w0.cell? (g,7)=some (.int .u64 x.rights.rd):=HO.o.op.cell 7;have y7:=DW.o.cell 7;have f7:w0.frozen? (W.heap.size+1,7)=false:=DW.o.frozen 7;have e8:w0.cell? (g,8)=some (.int .u64 x.rights.wr):=HO.o.op.cell 8;have y8:=DW.o.cell 8;have f8:w0.frozen? (W.heap.size+1,8)=false:=DW.o.frozen 8;have e9:w0.cell? (g,9)=some (.int .u64 x.rights.ow):=HO.o.op.cell 9;have y9:=DW.o.cell 9;have f9:w0.frozen? (W.heap.size+1,9)=false:=DW.o.frozen 9;have e10:w0.cell? (g,10)=some (.int .u8 x.fns):=HO.o.op.cell 10;have y10:=DW.o.cell 10;have f10:w0.frozen? (W.heap.size+1,10)=false:=DW.o.frozen 10;have e11:w0.cell? (g,11)=some (.int .u64 x.to_):=HO.o.op.cell 11;have y11:=DW.o.cell 11;have f11:w0.frozen? (W.heap.size+1,11)=false:=DW.o.frozen 11;have e12:w0.cell? (g,12)=some (.int .i64 x.index):=HO.o.op.cell 12;have y12:=DW.o.cell 12;have f12:w0.frozen? (W.heap.size+1,12)=false:=DW.o.frozen 12;go_wp2;have KF:=Hd (((((((((((((DW.o.set_ 0 (.int .u8 x.kind)).set_ 1 (.int .i64 x.user)).set_ 2 (.int .i64 x.rect.c1)).set_ 3 (.int .i64 x.rect.r1)).set_ 4 (.int .i64 x.rect.c2)).set_ 5 (.int .i64 x.rect.r2)).set_ 6 (str x.input)).set_ 7 (.int .u64 x.rights.rd)).set_ 8 (.int .u64 x.rights.wr)).set_ 9 (.int .u64 x.rights.ow)).set_ 10 (.int .u8 x.fns)).set_ 11 (.int .u64 x.to_)).set_ 12 (.int .i64 x.index));have RF:=Hd (((((((((((((TF.o.set (Nat.le_succ _) hdp.symm 0 (.int .u8 x.kind)).set (Nat.le_succ _) hdp.symm 1 (.int .i64 x.user)).set (Nat.le_succ _) hdp.symm 2 (.int .i64 x.rect.c1)).set (Nat.le_succ _) hdp.symm 3 (.int .i64 x.rect.r1)).set (Nat.le_succ _) hdp.symm 4 (.int .i64 x.rect.c2)).set (Nat.le_succ _) hdp.symm 5 (.int .i64 x.rect.r2)).set (Nat.le_succ _) hdp.symm 6 (str x.input)).set (Nat.le_succ _) hdp.symm 7 (.int .u64 x.rights.rd)).set (Nat.le_succ _) hdp.symm 8 (.int .u64 x.rights.wr)).set (Nat.le_succ _) hdp.symm 9 (.int .u64 x.rights.ow)).set (Nat.le_succ _) hdp.symm 10 (.int .u8 x.fns)).set (Nat.le_succ _) hdp.symm 11 (.int .u64 x.to_)).set (Nat.le_succ _) hdp.symm 12 (.int .i64 x.index));obtain ⟨d0,d1,d2,d3,d4,d5⟩:=KF.o.c6 0 1 2 3 4 5;obtain ⟨d6,d7,d8,d9⟩:=KF.o.c4 6 7 8 9;obtain ⟨d10,d11,d12⟩:=KF.o.c3 10 11 12;refine jO results75 (v:=.agg x) ?_ (by simp (maxDischargeDepth:=9) [jQ,go_sem,d0,d1,d2,d3,d4,d5,d6,d7,d8,d9,d10,d11,d12]);rw[HE.o];exact ⟨rfl,RF.o⟩
 ·rw[show (((0:Nat):Int))=0 from rfl];have e1:=FW.o.cell 0;have HS:=jM (stO kd q2.1 q2.2 1=nxO q2.1 0 (x,rk)) (by
   show nxO q2.1 0 (stO kd q2.1 q2.2 0)=_;rw[HST.o])
  have hb:=HB0.o;rcases hbq:bitR q2.1 0 with _ | _
  ·rw[hbq] at hb;simp only[Bool.false_eq_true,if_false] at hb;have HN:=Hd (HS.o.trans (zn5 hbq));clear hbq HS;go_wp2;exact ⟨⟨1,by omega,rfl,by rw[HN.o];exact HO.o⟩,by simp[intOf]⟩
  rw[hbq] at hb;simp only[if_true] at hb;have HN:=Hd (HS.o.trans (zq6 hbq));clear hbq HS;have hC:=po_1 p W.heap.size g 95 rk x w0 CW.o hgp HO.o.op HO.o.blk hrk.o;obtain ⟨qv,hqv⟩:=jN (intR rk);rw[hqv] at hC HN;have HC:=Hd hC;clear hC hqv;go_wp2_with fail;refine HC.o.mono ?_;rintro e W5 ⟨rfl,o5⟩;have O5:=Hd (HO.o.trans o5);clear o5 hb;go_wp2;exact ⟨⟨1,by omega,rfl,by rw[HN.o];dsimp only;exact O5.o⟩,by simp[intOf]⟩
 ·rw[show (((1:Nat):Int))=1 from rfl];have e1:=FW.o.cell 1;have HS:=jM (stO kd q2.1 q2.2 2=nxO q2.1 1 (x,rk)) (by
   show nxO q2.1 1 (stO kd q2.1 q2.2 1)=_;rw[HST.o])
  have hb:=HB1.o;rcases hbq:bitR q2.1 1 with _ | _
  ·rw[hbq] at hb;simp only[Bool.false_eq_true,if_false] at hb;have HN:=Hd (HS.o.trans (zn4 hbq));clear hbq HS;go_wp2;exact ⟨⟨2,by omega,rfl,by rw[HN.o];exact HO.o⟩,by simp[intOf]⟩
  rw[hbq] at hb;simp only[if_true] at hb;have HN:=Hd (HS.o.trans (zq5 hbq));clear hbq HS;have hC:=po_2 p W.heap.size g 95 rk x w0 CW.o hgp HO.o.op HO.o.blk hrk.o;obtain ⟨qv,hqv⟩:=jN (zbr rk);rw[hqv] at hC HN;have HC:=Hd hC;clear hC hqv;go_wp2_with fail;refine HC.o.mono ?_;rintro e W5 ⟨rfl,o5⟩;have O5:=Hd (HO.o.trans o5);clear o5 hb;go_wp2;exact ⟨⟨2,by omega,rfl,by rw[HN.o];dsimp only;exact O5.o⟩,by simp[intOf]⟩
 ·rw[show (((2:Nat):Int))=2 from rfl];have e1:=FW.o.cell 2;have HS:=jM (stO kd q2.1 q2.2 3=nxO q2.1 2 (x,rk)) (by
   show nxO q2.1 2 (stO kd q2.1 q2.2 2)=_;rw[HST.o])
  have hb:=HB2.o;rcases hbq:bitR q2.1 2 with _ | _
  ·rw[hbq] at hb;simp only[Bool.false_eq_true,if_false] at hb;have HN:=Hd (HS.o.trans (zn3 hbq));clear hbq HS;go_wp2;exact ⟨⟨3,by omega,rfl,by rw[HN.o];exact HO.o⟩,by simp[intOf]⟩
  rw[hbq] at hb;simp only[if_true] at hb;have HN:=Hd (HS.o.trans (zq4 hbq));clear hbq HS;have hC:=po_3 p W.heap.size g 95 rk x w0 CW.o hgp HO.o.op HO.o.blk hrk.o;obtain ⟨qv,hqv⟩:=jN (zdu rk);rw[hqv] at hC HN;have HC:=Hd hC;clear hC hqv;go_wp2_with fail;refine HC.o.mono ?_;rintro e W5 ⟨rfl,o5⟩;have O5:=Hd (HO.o.trans o5);clear o5 hb;go_wp2;exact ⟨⟨3,by omega,rfl,by rw[HN.o];dsimp only;exact O5.o⟩,by simp[intOf]⟩
 ·rw[show (((3:Nat):Int))=3 from rfl];have e1:=FW.o.cell 3;have HS:=jM (stO kd q2.1 q2.2 4=nxO q2.1 3 (x,rk)) (by
   show nxO q2.1 3 (stO kd q2.1 q2.2 3)=_;rw[HST.o])
  have hb:=HB3.o;rcases hbq:bitR q2.1 3 with _ | _
  ·rw[hbq] at hb;simp only[Bool.false_eq_true,if_false] at hb;have HN:=Hd (HS.o.trans (zn2 hbq));clear hbq HS;go_wp2;exact ⟨⟨4,by omega,rfl,by rw[HN.o];exact HO.o⟩,by simp[intOf]⟩
  rw[hbq] at hb;simp only[if_true] at hb;have HN:=Hd (HS.o.trans (zq3 hbq));clear hbq HS;have hC:=po_4 p W.heap.size g 95 rk x w0 CW.o hgp HO.o.op HO.o.blk hrk.o;obtain ⟨qv,hqv⟩:=jN (zd5 rk);rw[hqv] at hC HN;have HC:=Hd hC;clear hC hqv;go_wp2_with fail;refine HC.o.mono ?_;rintro e W5 ⟨rfl,o5⟩;have O5:=Hd (HO.o.trans o5);clear o5 hb;go_wp2;exact ⟨⟨4,by omega,rfl,by rw[HN.o];dsimp only;exact O5.o⟩,by simp[intOf]⟩
 ·rw[show (((4:Nat):Int))=4 from rfl];have e1:=FW.o.cell 4;have HS:=jM (stO kd q2.1 q2.2 5=nxO q2.1 4 (x,rk)) (by
   show nxO q2.1 4 (stO kd q2.1 q2.2 4)=_;rw[HST.o])
  have hb:=HB4.o;rcases hbq:bitR q2.1 4 with _ | _
  ·rw[hbq] at hb;simp only[Bool.false_eq_true,if_false] at hb;have HN:=Hd (HS.o.trans (zn1 hbq));clear hbq HS;go_wp2;exact ⟨⟨5,by omega,rfl,by rw[HN.o];exact HO.o⟩,by simp[intOf]⟩
  rw[hbq] at hb;simp only[if_true] at hb;have HN:=Hd (HS.o.trans (zq2 hbq));clear hbq HS;have hC:=po_5 p W.heap.size g 95 rk x w0 CW.o hgp HO.o.op HO.o.blk hrk.o;obtain ⟨qv,hqv⟩:=jN (u8R rk);rw[hqv] at hC HN;have HC:=Hd hC;clear hC hqv;go_wp2_with fail;refine HC.o.mono ?_;rintro e W5 ⟨rfl,o5⟩;have O5:=Hd (HO.o.trans o5);clear o5 hb;go_wp2;exact ⟨⟨5,by omega,rfl,by rw[HN.o];dsimp only;exact O5.o⟩,by simp[intOf]⟩
 ·rw[show (((5:Nat):Int))=5 from rfl];have e1:=FW.o.cell 5;have HS:=jM (stO kd q2.1 q2.2 6=nxO q2.1 5 (x,rk)) (by
   show nxO q2.1 5 (stO kd q2.1 q2.2 5)=_;rw[HST.o])
  have hb:=HB5.o;rcases hbq:bitR q2.1 5 with _ | _
  ·rw[hbq] at hb;simp only[Bool.false_eq_true,if_false] at hb;have HN:=Hd (HS.o.trans (zn0 hbq));clear hbq HS;go_wp2;exact ⟨⟨6,by omega,rfl,by rw[HN.o];exact HO.o⟩,by simp[intOf]⟩
  rw[hbq] at hb;simp only[if_true] at hb;have HN:=Hd (HS.o.trans (zq1 hbq));clear hbq HS;have hC:=po_6 p W.heap.size g 95 rk x w0 CW.o hgp HO.o.op HO.o.blk hrk.o;obtain ⟨qv,hqv⟩:=jN (u64R rk);rw[hqv] at hC HN;have HC:=Hd hC;clear hC hqv;go_wp2_with fail;refine HC.o.mono ?_;rintro e W5 ⟨rfl,o5⟩;have O5:=Hd (HO.o.trans o5);clear o5 hb;go_wp2;exact ⟨⟨6,by omega,rfl,by rw[HN.o];dsimp only;exact O5.o⟩,by simp[intOf]⟩
 rw[show (((6:Nat):Int))=6 from rfl];have e1:=FW.o.cell 6;have HS:=jM (stO kd q2.1 q2.2 7=nxO q2.1 6 (x,rk)) (by
  show nxO q2.1 6 (stO kd q2.1 q2.2 6)=_;rw[HST.o])
 have hb:=HB6.o;rcases hbq:bitR q2.1 6 with _ | _
 ·rw[hbq] at hb;simp only[Bool.false_eq_true,if_false] at hb;have HN:=Hd (HS.o.trans (znz hbq));clear hbq HS;go_wp2;exact ⟨⟨7,by omega,rfl,by rw[HN.o];exact HO.o⟩,by simp[intOf]⟩
 rw[hbq] at hb;simp only[if_true] at hb;have HN:=Hd (HS.o.trans (zq0 hbq));clear hbq HS;have hC:=po_7 p W.heap.size g 95 rk x w0 CW.o hgp HO.o.op HO.o.blk hrk.o;obtain ⟨qv,hqv⟩:=jN (intR rk);rw[hqv] at hC HN;have HC:=Hd hC;clear hC hqv;go_wp2_with fail;refine HC.o.mono ?_;rintro e W5 ⟨rfl,o5⟩;have O5:=Hd (HO.o.trans o5);clear o5 hb;go_wp2;exact ⟨⟨7,by omega,rfl,by rw[HN.o];dsimp only;exact O5.o⟩,by simp[intOf]⟩
def encR (s:Scp):zaa × Int:=if scpE s≠0 then ([],scpE s) else if 65536<(scpB s).length then ([],5) else (scpB s,0)
structure FitS (s:Scp):Prop where
 ok:OkScp s
 ents:∀x∈s.book.entries,x.input.length<=1000000
 oprs:∀x∈s.ops,x.input.length<=1000000
 size:(scpB s).length<=100000000
theorem FitS.writes (h:FitS s):WritesS s:=by
 obtain ⟨ok,he,ho,_⟩:=h;refine ⟨λx hx=>?_,λx hx=>?_,λx hx=>?_,λx hx=>?_,λx hx=>?_,λx hx=>?_⟩
 ·intro v l w h hl;have:=he x hx;exact wr_ent v l x w (by omega) h hl
 ·intro v l w h hl;have k:=(ok.book.rules x hx).rights;exact wr_rul v l x w k.rd.1 (by have:=k.rd.2;omega) k.wr.1 (by have:=k.wr.2;omega) k.ow.1 (by have:=k.ow.2;omega) h hl
 ·intro v l w h hl;have k:=(ok.book.grants x hx).to_;exact wr_grt v l x w k.1 (by have:=k.2;omega) h hl
 ·intro v l w h hl;have k:=(ok.book.log x hx).to_;exact wr_evt v l x w k.1 (by have:=k.2;omega) h hl
 ·intro v l w h hl;have k:=(ok.book.releases x hx).to_;exact wr_rls v l x w k.1 (by have:=k.2;omega) h hl
 intro v l w h hl;have k:=(ok.ops x hx).to_;have q:=(ok.ops x hx).rights;exact z2x x v l w (ho x hx) q.rd.1 (by have:=q.rd.2;omega) q.wr.1 (by have:=q.wr.2;omega) q.ow.1 (by have:=q.ow.2;omega) k.1 (by have:=k.2;omega) h hl
theorem zt0 (s:Scp) (e r g l x o:Value) (B:Nat) (w:World) (hB:B<=w.heap.size) (hb:RdScp w B s e r g l x o) (hw:Words w) (hf:FitS s):
 Calls prog 12 #[vScp s e r g l x o] w λu w'=>u=.returned (.tuple #[str (encR s).1,.int .i64 (encR s).2])/\Below w w w':=by
 obtain ⟨Ae,ce,rfl,_⟩:=id hb.book.ents;obtain ⟨Ar,cr,rfl,_⟩:=id hb.book.ruls;obtain ⟨Ag,cg,rfl,_⟩:=id hb.book.grts;obtain ⟨Al,cl,rfl,_⟩:=id hb.book.evts;obtain ⟨Ax,cx,rfl,_⟩:=id hb.book.rlss;obtain ⟨Ao,co,rfl,_⟩:=id hb.ops;have HC:=Hd (λ(W:World) (hbw:Below w w W)=>zft s _ _ _ _ _ _ B W (jx hB hbw.size) (hb.below (hbw.mono hB)) (hw.below hbw) hf.ents (λx hx=>by have k:=(hf.ok.book.log x hx).to_;exact ⟨k.1,by have:=k.2;omega⟩));have HB:=Hd hb;have HF:=Hd hf;clear hb hw hf;by_cases h0:scpE s=0;rotate_left
 ·have HR:=jM (encR s=([],scpE s)) (by unfold encR;rw[jb h0]);rw[HR.o];generalize scpE s=E at *;go_enter func12,ntmps12;go_wp2_with fail;refine (HC.o _ (by go_grown)).mono ?_;rintro e w1 ⟨rfl,hb1⟩;have HB1:=jM (Below w w w1) (nxt hb1);clear hb1;go_wp2;go_ret2;exact ⟨rfl,HB1.o⟩
 by_cases hl:(scpB s).length<=65536
 ·have HR:=jM (encR s=(scpB s,0)) (by unfold encR;rw[jS,jS]);rw[HR.o];go_enter func12,ntmps12;go_wp2_with fail;refine (HC.o _ (by go_grown)).mono ?_;rintro e w1 ⟨rfl,hb1⟩;rw[h0];have KB:=Hd ((je w 31 #[s.book.users,.slice Ae s.book.entries.length ce,.slice Ar s.book.rules.length cr,.slice Ag s.book.grants.length cg,.slice Al s.book.log.length cl,.slice Ax s.book.releases.length cx,s.book.step,.slice Ao s.ops.length co]).below_ hb1);have HB1:=jM (Below w w w1) (nxt hb1);obtain ⟨g0,g1,g2,g3,g4,g5⟩:=KB.o.c6 0 1 2 3 4 5;obtain ⟨g6,g7⟩:=KB.o.c2 6 7;clear hb1;go_wp2_with fail;refine (zgz s _ _ _ _ _ _ B _ (by have:=HB1.o.size;omega) (HB.o.below (HB1.o.mono hB)) HF.o.writes (by omega)).mono ?_;rintro e w2 ⟨v,rfl,ho,ht⟩;have HB2:=Hd (Below.trans HB1.o ((ht.old jy (by simp[Value.ownBlock])).mono HB1.o.size));have hpos:0<(scpB s).length:=by simp[scpB,numI,numB]
  obtain ⟨gb,cap,rfl,hcv⟩:=zjm ho hpos;clear ho ht g0 g1 g2 g3 g4 g5 g6 g7 KB hpos;generalize hq:scpB s=q at *;have HQ:=Hd hq;clear hq;go_wp2;go_ret2;exact ⟨by rw[<- HQ.o];rfl,HB2.o⟩
 have HR:=jM (encR s=([],5)) (by unfold encR;rw[jS,jT]);rw[HR.o];go_enter func12,ntmps12;go_wp2_with fail;refine (HC.o _ (by go_grown)).mono ?_;rintro e w1 ⟨rfl,hb1⟩;rw[h0];have KB:=Hd ((je w 31 #[s.book.users,.slice Ae s.book.entries.length ce,.slice Ar s.book.rules.length cr,.slice Ag s.book.grants.length cg,.slice Al s.book.log.length cl,.slice Ax s.book.releases.length cx,s.book.step,.slice Ao s.ops.length co]).below_ hb1);have HB1:=jM (Below w w w1) (nxt hb1);obtain ⟨g0,g1,g2,g3,g4,g5⟩:=KB.o.c6 0 1 2 3 4 5;obtain ⟨g6,g7⟩:=KB.o.c2 6 7;clear hb1;go_wp2_with fail;refine (zgz s _ _ _ _ _ _ B _ (by have:=HB1.o.size;omega) (HB.o.below (HB1.o.mono hB)) HF.o.writes HF.o.size).mono ?_;rintro e w2 ⟨v,rfl,ho,ht⟩;have HB2:=Hd (Below.trans HB1.o ((ht.old jy (by simp[Value.ownBlock])).mono HB1.o.size));have hpos:0<(scpB s).length:=by simp[scpB,numI,numB]
 obtain ⟨gb,cap,rfl,hcv⟩:=zjm ho hpos;clear ho ht g0 g1 g2 g3 g4 g5 g6 g7 KB hpos;generalize hq:scpB s=q at *;have HQ:=Hd hq;clear hq;go_wp2;go_ret2;exact ⟨rfl,HB2.o⟩
theorem zl6 (r:Rd):(oprR r).2.1.length<=r.1.length:=by
 rw[zpg];exact jx (zo5 _ _ _ 7) (jx (zac _) (zac _))
end Go.Proofs.YtamcgggmfghljaaGreatDoor
