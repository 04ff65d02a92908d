/- walk -/
import Derived.Test.YtamcgggmfghljaaGreatDoorE25
set_option maxRecDepth 100000
set_option maxHeartbeats 8000000
open Go.Proofs.Tryz
namespace Go.Proofs.YtamcgggmfghljaaGreatDoor
open Go.RowKit
variable {b b1:Bool} {n:Int} {k p:Nat} {r:Rd} {α:Type} {v v':Value} {W W1 w':World}
theorem zci (one:Rd->α × Rd) (n:Nat) (h:r.2=true):zam one n r=([],r):=by
 cases n with
 | zero=>rfl
 | succ n=>simp only[zam,h,if_true]
theorem zcz (one:Rd->α × Rd) (n:Nat) (h:r.2=false) {q:α × Rd} (hq:one r=q):zam one (n+1) r=(q.1::(zam one n q.2).1,(zam one n q.2).2):=by
 simp only[zam,h,hq,Bool.false_eq_true,if_false]
theorem zdw (one:Rd->α × Rd) {q:Nat × Rd} (hq:numR r=q) (hn:zaj q.1=n) (hb:(q.2.2||decide (n<0)||decide ((q.2.1.length:Int)<n))=b):zbk one r=zam one n.toNat (q.2.1,b):=by
 unfold zbk lenR;rw[zod hq hn];dsimp only;rw[hb]
theorem zjs (one:Rd->α × Rd) (h:∀r,(one r).2.1.length<=r.1.length):∀(n:Nat) (r:Rd),(zam one n r).2.1.length<=r.1.length
 | 0,_=>Nat.le_refl _
 | n+1,r=>by
  by_cases hb:r.2=true
  ·rw[zci one _ hb];exact Nat.le_refl _
  rw[zcz one n (by simpa using hb) rfl];exact jx (zjs one h n _) (h r)
theorem zfm (one:Rd->α × Rd) (h:∀r,(one r).2.1.length<=r.1.length) (r:Rd):(zbk one r).2.1.length<=r.1.length:=by
 rw[zdw one rfl rfl rfl];exact jx (zjs one h _ _) (zac r)
theorem RdTo.o (h:RdTo p W W1 r) (ht:OutTo W1 v w' v') (hv:∀q,v.ownBlock=some q->W.heap.size<=q) (hp:p<W.heap.size):RdTo p W w' r:=
 ⟨Blk.outTo h.blk ht (λe=>by have:=hv p e;omega),⟨ht.chg.os.trans h.chg.os,ht.chg.tape.trans h.chg.tape,ht.chg.output.trans h.chg.output,jx h.chg.size ht.chg.size,λi hi hs=>
  (ht.chg.block i (jG hi h.chg.size) (λe=>by have:=hv i e;omega)).trans (h.chg.block i hi hs)⟩⟩
theorem zgr (h:(b1||decide (n<0)||decide ((k:Int)<n))=b):
 (b1=true/\b=true)\/(b1=false/\decide (n<0)=true/\b=true)\/(b1=false/\decide (n<0)=false/\decide ((k:Int)<n)=true/\b=true)\/(b1=false/\decide (n<0)=false/\decide ((k:Int)<n)=false/\b=false):=by
 subst h;cases b1 <;> cases decide (n<0) <;> cases decide ((k:Int)<n) <;> simp
theorem zmn (r:Rd):(entR r).2.1.length<=r.1.length:=by
 obtain ⟨q,hq⟩:=jN (zdu (zbz r).2);have h1:=zja (zbz r).2;rw[hq] at h1;rw[zpz,hq];exact jx h1 (ze9 r)
theorem zin (r:Rd):(rulR r).2.1.length<=r.1.length:=by
 rw[zuv];exact jx (zhf _) (zcq _)
theorem ziw (r:Rd):(grtR r).2.1.length<=r.1.length:=by
 rw[zwt];exact jx (zac _) (jx (zac _) (jx (zac _) (jx (zac _) (zcq _))))
theorem ziz (r:Rd):(evtR r).2.1.length<=r.1.length:=by
 rw[zw3];exact jx (zac _) (jx (zac _) (jx (zcq _) (jx (zac _) (jx (zac _) (zac _)))))
theorem zio (r:Rd):(rlsR r).2.1.length<=r.1.length:=by
 rw[zu3];exact jx (zac _) (jx (zac _) (jx (zcq _) (jx (zac _) (jx (zac _) (jx (ze9 _) (zac _))))))
theorem rl_ent (p c:Nat) (r:Rd) (W:World) (hc:Blk W c 95 (aP p)) (hcp:c≠p) (h:RdAt W p r) (hl:r.1.length<=1000000):
 Calls prog 58 #[(aA p),.func (.func 59) #[] #[.pointer (some (c,0))]] W λu W'=>∃v',u=.returned v'/\Own cEnt 58 3 W' v' (zbk entR r).1/\(∀q,v'.ownBlock=some q->W.heap.size<=q)/\RdTo p W W' (zbk entR r).2:=by
 obtain ⟨ie,i0,i1,i2,i3⟩:=info_parts (show (prog.info? 58).map (λi=>(i.zero,i.size,i.bytes))=some (some (.agg #[.int .i64 0,.int .i64 0,.string ⟨#[]⟩]),3,32) by kernel_rfl);have I0:=Hd i0;have I1:=Hd i1;have I2:=Hd i2;have I3:=Hd i3;clear i0 i1 i2 i3;have hlt:=h.lt;have HH:=Hd h;have HC:=Hd hc;clear h hc;go_enter func58,ntmps58;go_wp2_with fail;have hC:=zb3 p r W HH.o hl;have hL:=zac r;obtain ⟨q1,hq⟩:=jN (numR r);rw[hq] at hC hL;have HQ:=Hd hq;clear hq;refine hC.mono ?_;rintro e W1 ⟨rfl,t1⟩;have T1:=Hd t1;have hl1:=jx hL hl;clear t1 hC hL;generalize hn:zaj q1.1=n;have HN:=Hd hn;clear hn;obtain ⟨v1,s1,b1⟩:=q1;have hl1:s1.length<=1000000:=hl1;obtain ⟨c0,c1⟩:=T1.o.blk.c2 0 1;have f1:W1.frozen? (p,1)=false:=T1.o.blk.frozen 1;have HLR:=Hd (λ(b:Bool) (hb:(b1||decide (n<0)||decide ((s1.length:Int)<n))=b)=>zdw entR HQ.o HN.o (b:=b) hb);clear HQ HN;obtain ⟨b,hB⟩:=jN (b1||decide (n<0)||decide ((s1.length:Int)<n));have HE:=Hd (HLR.o b hB);have HNB:=jM (b=false->0<=n/\n<=1000000) (λh=>by
  rw[h] at hB;simp only[Bool.or_eq_false_iff,decide_eq_false_iff_not] at hB;omega)
 have T2:=Hd (show RdTo p W (W1.setCell (p,1) (.bool b)) (s1,b) from ⟨Blk.set_ T1.o.blk 1 _,T1.o.chg.setCell (p:=⟨p,1,none⟩) (.inl rfl) _⟩);have H4:=zgr hB;clear HLR hB T1;obtain ⟨W2,hW2⟩:=jN (W1.setCell (p,1) (.bool b));rw[hW2] at T2;have HW:=Hd hW2;obtain ⟨r0,hr0⟩:=jN (s1,b);have HN0:=jM (r0.2=false->0<=n/\n<=1000000) (hr0▸HNB.o);have hl0:r0.1.length<=1000000:=hr0▸hl1;rw[hr0] at HE T2;clear hW2 hr0 HNB;obtain ⟨m,hm⟩:=jN n.toNat;rw[hm] at HE;rcases H4 with ⟨rfl,rfl⟩ | ⟨rfl,hn0,rfl⟩ | ⟨rfl,hn0,hn1,rfl⟩ | ⟨rfl,hn0,hn1,rfl⟩
 all_goals
  go_wp2_with fail;rw[HW.o];clear c0 c1 f1 HW
  try clear hn1
  try clear hn0
  go_loopw [5,7] (λov i wr=>∃(k:Nat) (l:List Ent) (rk:Rd),k<=m/\i=.int .i64 k/\Own cEnt 58 3 wr ov l/\(∀q,ov.ownBlock=some q->W.heap.size<=q)/\RdTo p W wr rk/\l.length=k/\rk.1.length<=1000000/\zam entR m r0=(l++(zam entR (m-k) rk).1,(zam entR (m-k) rk).2)/\(rk.2=false->0<=n/\n<=1000000)) (λ_ i _=>m-(intOf i).toNat)
  case atStart=>exact ⟨0,[],r0,by omega,rfl,Own.nil _ _ _ _,λq hq=>by simp[Value.ownBlock] at hq,T2.o,rfl,hl0,by simp,HN0.o⟩
  rename World=>w0
  obtain ⟨k,l,⟨sk,bk⟩,hk,rfl,how,hob,hto,hlk,hrk,hmk,hnb⟩:=hrel;have HNK:=Hd hnb;have HOW:=Hd how;have HOB:=Hd hob;have T4:=Hd hto;have HMK:=Hd (HE.o.trans hmk);have c1:=hto.blk.cell 1;clear how hob hto hmk hnb;by_cases hlt2:(k:Int)<n;rotate_left
  ·have hld:=hlt2;have HF:=Hd (HMK.o.trans (by rw[show m-k=0 by omega];simp only[zam,jh]:_=(l,(sk,bk))));clear hk hlk hrk hl1 hl hm;go_wp2;go_ret;exact ⟨_,rfl,by rw[HF.o];exact HOW.o,HOB.o,by rw[HF.o];exact T4.o⟩
  have hkm:k<m:=by omega
  cases bk;rotate_left
  ·have HF:=Hd (HMK.o.trans (by rw[zci entR _ rfl,jh]:_=(l,(sk,true))));clear hkm hk hlk hrk hl1 hl hm;go_wp2;go_ret;exact ⟨_,rfl,by rw[HF.o];exact HOW.o,HOB.o,by rw[HF.o];exact T4.o⟩
  have hn2:=HNK.o rfl;obtain ⟨j,hj⟩:∃j,m-k=j+1:=⟨m-k-1,by omega⟩;have CW:=Hd (T4.o.keep HC.o hcp);have hC:=rc_ent p c 95 (sk,false) w0 CW.o hcp T4.o.blk hrk;have hL:=zmn (sk,false);obtain ⟨q2,hq⟩:=jN (entR (sk,false));have hS:=zcz entR j (r:=(sk,false)) rfl hq;rw[hj,hS] at HMK;rw[hq] at hC hL;obtain ⟨x,rk⟩:=q2;rw[show (cEnt x).toArray=#[.int .i64 x.at_.col,.int .i64 x.at_.row,str x.input] from rfl] at hC;have HCC:=Hd hC;have hL2:rk.1.length<=1000000:=jx hL hrk;have hjk:j=m-(k+1):=by omega
  have HJ:=Hd hjk;clear hC hL hq hS hj hjk;go_wp2_with fail;refine HCC.o.mono ?_;rintro e W5 ⟨rfl,t5⟩;have T5:=Hd ((T4.o.trans t5).alloc (.cells x 58));have O5:=Hd ((HOW.o.chg t5.chg (λq hq e=>by have h1:=HOB.o q hq;have h2:q=p:=e;omega)).alloc (.cells x 58));have K5:=Hd (je W5 58 x);clear t5 HCC;go_wp2_with (at_builtin;refine ju ?_);refine Hd ?_;refine zal cEnt rfl _ _ 22 rfl 58 ie _ 3 32 underlying22 I0.o I1.o I2.o I3.o rfl (by omega) _ l rfl O5.o _ _ [x] rfl (Sls.one (x:=x) K5.o rfl) zct zmt (by simp;omega) (by omega) ?_;intro v9 w9 o9 t9;have O9:=Hd o9;have T9:=Hd (T5.o.o t9 HOB.o hlt);have B9:=jM (∀q,v9.ownBlock=some q->W.heap.size<=q) (λq hq=>by
   rcases t9.own q hq with e | e
   ·exact HOB.o q e
   exact jx T5.o.chg.size e)
  clear o9 t9;go_wp2;exact ⟨⟨k+1,l++ [x],rk,by omega,by go_num,O9.o,B9.o,T9.o,by simp;omega,hL2,by rw[<- HJ.o,<- HE.o,HMK.o];simp,λ_=>hn2⟩,by simp[intOf];omega⟩
theorem rl_rul (p c:Nat) (r:Rd) (W:World) (hc:Blk W c 95 (aP p)) (hcp:c≠p) (h:RdAt W p r) (hl:r.1.length<=1000000):
 Calls prog 62 #[(aA p),.func (.func 63) #[] #[.pointer (some (c,0))]] W λu W'=>∃v',u=.returned v'/\Own cRul 79 7 W' v' (zbk rulR r).1/\(∀q,v'.ownBlock=some q->W.heap.size<=q)/\RdTo p W W' (zbk rulR r).2:=by
 obtain ⟨ie,i0,i1,i2,i3⟩:=info_parts (show (prog.info? 79).map (λi=>(i.zero,i.size,i.bytes))=some (some (.agg #[.int .i64 0,.int .i64 0,.int .i64 0,.int .i64 0,.int .u64 0,.int .u64 0,.int .u64 0]),7,56) by kernel_rfl);have I0:=Hd i0;have I1:=Hd i1;have I2:=Hd i2;have I3:=Hd i3;clear i0 i1 i2 i3;have hlt:=h.lt;have HH:=Hd h;have HC:=Hd hc;clear h hc;go_enter func62,ntmps62;go_wp2_with fail;have hC:=zb3 p r W HH.o hl;have hL:=zac r;obtain ⟨q1,hq⟩:=jN (numR r);rw[hq] at hC hL;have HQ:=Hd hq;clear hq;refine hC.mono ?_;rintro e W1 ⟨rfl,t1⟩;have T1:=Hd t1;have hl1:=jx hL hl;clear t1 hC hL;generalize hn:zaj q1.1=n;have HN:=Hd hn;clear hn;obtain ⟨v1,s1,b1⟩:=q1;have hl1:s1.length<=1000000:=hl1;obtain ⟨c0,c1⟩:=T1.o.blk.c2 0 1;have f1:W1.frozen? (p,1)=false:=T1.o.blk.frozen 1;have HLR:=Hd (λ(b:Bool) (hb:(b1||decide (n<0)||decide ((s1.length:Int)<n))=b)=>zdw rulR HQ.o HN.o (b:=b) hb);clear HQ HN;obtain ⟨b,hB⟩:=jN (b1||decide (n<0)||decide ((s1.length:Int)<n));have HE:=Hd (HLR.o b hB);have HNB:=jM (b=false->0<=n/\n<=1000000) (λh=>by
  rw[h] at hB;simp only[Bool.or_eq_false_iff,decide_eq_false_iff_not] at hB;omega)
 have T2:=Hd (show RdTo p W (W1.setCell (p,1) (.bool b)) (s1,b) from ⟨Blk.set_ T1.o.blk 1 _,T1.o.chg.setCell (p:=⟨p,1,none⟩) (.inl rfl) _⟩);have H4:=zgr hB;clear HLR hB T1;obtain ⟨W2,hW2⟩:=jN (W1.setCell (p,1) (.bool b));rw[hW2] at T2;have HW:=Hd hW2;obtain ⟨r0,hr0⟩:=jN (s1,b);have HN0:=jM (r0.2=false->0<=n/\n<=1000000) (hr0▸HNB.o);have hl0:r0.1.length<=1000000:=hr0▸hl1;rw[hr0] at HE T2;clear hW2 hr0 HNB;obtain ⟨m,hm⟩:=jN n.toNat;rw[hm] at HE;rcases H4 with ⟨rfl,rfl⟩ | ⟨rfl,hn0,rfl⟩ | ⟨rfl,hn0,hn1,rfl⟩ | ⟨rfl,hn0,hn1,rfl⟩
 all_goals
  go_wp2_with fail;rw[HW.o];clear c0 c1 f1 HW
  try clear hn1
  try clear hn0
  go_loopw [5,7] (λov i wr=>∃(k:Nat) (l:List Rul) (rk:Rd),k<=m/\i=.int .i64 k/\Own cRul 79 7 wr ov l/\(∀q,ov.ownBlock=some q->W.heap.size<=q)/\RdTo p W wr rk/\l.length=k/\rk.1.length<=1000000/\zam rulR m r0=(l++(zam rulR (m-k) rk).1,(zam rulR (m-k) rk).2)/\(rk.2=false->0<=n/\n<=1000000)) (λ_ i _=>m-(intOf i).toNat)
  case atStart=>exact ⟨0,[],r0,by omega,rfl,Own.nil _ _ _ _,λq hq=>by simp[Value.ownBlock] at hq,T2.o,rfl,hl0,by simp,HN0.o⟩
  rename World=>w0
  obtain ⟨k,l,⟨sk,bk⟩,hk,rfl,how,hob,hto,hlk,hrk,hmk,hnb⟩:=hrel;have HNK:=Hd hnb;have HOW:=Hd how;have HOB:=Hd hob;have T4:=Hd hto;have HMK:=Hd (HE.o.trans hmk);have c1:=hto.blk.cell 1;clear how hob hto hmk hnb;by_cases hlt2:(k:Int)<n;rotate_left
  ·have hld:=hlt2;have HF:=Hd (HMK.o.trans (by rw[show m-k=0 by omega];simp only[zam,jh]:_=(l,(sk,bk))));clear hk hlk hrk hl1 hl hm;go_wp2;go_ret;exact ⟨_,rfl,by rw[HF.o];exact HOW.o,HOB.o,by rw[HF.o];exact T4.o⟩
  have hkm:k<m:=by omega
  cases bk;rotate_left
  ·have HF:=Hd (HMK.o.trans (by rw[zci rulR _ rfl,jh]:_=(l,(sk,true))));clear hkm hk hlk hrk hl1 hl hm;go_wp2;go_ret;exact ⟨_,rfl,by rw[HF.o];exact HOW.o,HOB.o,by rw[HF.o];exact T4.o⟩
  have hn2:=HNK.o rfl;obtain ⟨j,hj⟩:∃j,m-k=j+1:=⟨m-k-1,by omega⟩;have CW:=Hd (T4.o.keep HC.o hcp);have hC:=rc_rul p c 95 (sk,false) w0 CW.o hcp T4.o.blk hrk;have hL:=zin (sk,false);obtain ⟨q2,hq⟩:=jN (rulR (sk,false));have hS:=zcz rulR j (r:=(sk,false)) rfl hq;rw[hj,hS] at HMK;rw[hq] at hC hL;obtain ⟨x,rk⟩:=q2;rw[show (cRul x).toArray=#[.int .i64 x.rect.c1,.int .i64 x.rect.r1,.int .i64 x.rect.c2,.int .i64 x.rect.r2,.int .u64 x.rights.rd,.int .u64 x.rights.wr,.int .u64 x.rights.ow] from rfl] at hC;have HCC:=Hd hC;have hL2:rk.1.length<=1000000:=jx hL hrk;have hjk:j=m-(k+1):=by omega
  have HJ:=Hd hjk;clear hC hL hq hS hj hjk;go_wp2_with fail;refine HCC.o.mono ?_;rintro e W5 ⟨rfl,t5⟩;have T5:=Hd ((T4.o.trans t5).alloc (.cells x 79));have O5:=Hd ((HOW.o.chg t5.chg (λq hq e=>by have h1:=HOB.o q hq;have h2:q=p:=e;omega)).alloc (.cells x 79));have K5:=Hd (je W5 79 x);clear t5 HCC;go_wp2_with (at_builtin;refine ju ?_);refine Hd ?_;refine zal cRul rfl _ _ 23 rfl 79 ie _ 7 56 underlying23 I0.o I1.o I2.o I3.o rfl (by omega) _ l rfl O5.o _ _ [x] rfl (Sls.one (x:=x) K5.o rfl) zdr zrw (by simp;omega) (by omega) ?_;intro v9 w9 o9 t9;have O9:=Hd o9;have T9:=Hd (T5.o.o t9 HOB.o hlt);have B9:=jM (∀q,v9.ownBlock=some q->W.heap.size<=q) (λq hq=>by
   rcases t9.own q hq with e | e
   ·exact HOB.o q e
   exact jx T5.o.chg.size e)
  clear o9 t9;go_wp2;exact ⟨⟨k+1,l++ [x],rk,by omega,by go_num,O9.o,B9.o,T9.o,by simp;omega,hL2,by rw[<- HJ.o,<- HE.o,HMK.o];simp,λ_=>hn2⟩,by simp[intOf];omega⟩
theorem rl_grt (p c:Nat) (r:Rd) (W:World) (hc:Blk W c 95 (aP p)) (hcp:c≠p) (h:RdAt W p r) (hl:r.1.length<=1000000):
 Calls prog 66 #[(aA p),.func (.func 67) #[] #[.pointer (some (c,0))]] W λu W'=>∃v',u=.returned v'/\Own cGrt 85 8 W' v' (zbk grtR r).1/\(∀q,v'.ownBlock=some q->W.heap.size<=q)/\RdTo p W W' (zbk grtR r).2:=by
 obtain ⟨ie,i0,i1,i2,i3⟩:=info_parts (show (prog.info? 85).map (λi=>(i.zero,i.size,i.bytes))=some (some (.agg #[.int .i64 0,.int .i64 0,.int .i64 0,.int .i64 0,.int .u8 0,.int .u64 0,.int .i64 0,.bool false]),8,64) by kernel_rfl);have I0:=Hd i0;have I1:=Hd i1;have I2:=Hd i2;have I3:=Hd i3;clear i0 i1 i2 i3;have hlt:=h.lt;have HH:=Hd h;have HC:=Hd hc;clear h hc;go_enter func66,ntmps66;go_wp2_with fail;have hC:=zb3 p r W HH.o hl;have hL:=zac r;obtain ⟨q1,hq⟩:=jN (numR r);rw[hq] at hC hL;have HQ:=Hd hq;clear hq;refine hC.mono ?_;rintro e W1 ⟨rfl,t1⟩;have T1:=Hd t1;have hl1:=jx hL hl;clear t1 hC hL;generalize hn:zaj q1.1=n;have HN:=Hd hn;clear hn;obtain ⟨v1,s1,b1⟩:=q1;have hl1:s1.length<=1000000:=hl1;obtain ⟨c0,c1⟩:=T1.o.blk.c2 0 1;have f1:W1.frozen? (p,1)=false:=T1.o.blk.frozen 1;have HLR:=Hd (λ(b:Bool) (hb:(b1||decide (n<0)||decide ((s1.length:Int)<n))=b)=>zdw grtR HQ.o HN.o (b:=b) hb);clear HQ HN;obtain ⟨b,hB⟩:=jN (b1||decide (n<0)||decide ((s1.length:Int)<n));have HE:=Hd (HLR.o b hB);have HNB:=jM (b=false->0<=n/\n<=1000000) (λh=>by
  rw[h] at hB;simp only[Bool.or_eq_false_iff,decide_eq_false_iff_not] at hB;omega)
 have T2:=Hd (show RdTo p W (W1.setCell (p,1) (.bool b)) (s1,b) from ⟨Blk.set_ T1.o.blk 1 _,T1.o.chg.setCell (p:=⟨p,1,none⟩) (.inl rfl) _⟩);have H4:=zgr hB;clear HLR hB T1;obtain ⟨W2,hW2⟩:=jN (W1.setCell (p,1) (.bool b));rw[hW2] at T2;have HW:=Hd hW2;obtain ⟨r0,hr0⟩:=jN (s1,b);have HN0:=jM (r0.2=false->0<=n/\n<=1000000) (hr0▸HNB.o);have hl0:r0.1.length<=1000000:=hr0▸hl1;rw[hr0] at HE T2;clear hW2 hr0 HNB;obtain ⟨m,hm⟩:=jN n.toNat;rw[hm] at HE;rcases H4 with ⟨rfl,rfl⟩ | ⟨rfl,hn0,rfl⟩ | ⟨rfl,hn0,hn1,rfl⟩ | ⟨rfl,hn0,hn1,rfl⟩
 all_goals
  go_wp2_with fail;rw[HW.o];clear c0 c1 f1 HW
  try clear hn1
  try clear hn0
  go_loopw [5,7] (λov i wr=>∃(k:Nat) (l:List Grt) (rk:Rd),k<=m/\i=.int .i64 k/\Own cGrt 85 8 wr ov l/\(∀q,ov.ownBlock=some q->W.heap.size<=q)/\RdTo p W wr rk/\l.length=k/\rk.1.length<=1000000/\zam grtR m r0=(l++(zam grtR (m-k) rk).1,(zam grtR (m-k) rk).2)/\(rk.2=false->0<=n/\n<=1000000)) (λ_ i _=>m-(intOf i).toNat)
  case atStart=>exact ⟨0,[],r0,by omega,rfl,Own.nil _ _ _ _,λq hq=>by simp[Value.ownBlock] at hq,T2.o,rfl,hl0,by simp,HN0.o⟩
  rename World=>w0
  obtain ⟨k,l,⟨sk,bk⟩,hk,rfl,how,hob,hto,hlk,hrk,hmk,hnb⟩:=hrel;have HNK:=Hd hnb;have HOW:=Hd how;have HOB:=Hd hob;have T4:=Hd hto;have HMK:=Hd (HE.o.trans hmk);have c1:=hto.blk.cell 1;clear how hob hto hmk hnb;by_cases hlt2:(k:Int)<n;rotate_left
  ·have hld:=hlt2;have HF:=Hd (HMK.o.trans (by rw[show m-k=0 by omega];simp only[zam,jh]:_=(l,(sk,bk))));clear hk hlk hrk hl1 hl hm;go_wp2;go_ret;exact ⟨_,rfl,by rw[HF.o];exact HOW.o,HOB.o,by rw[HF.o];exact T4.o⟩
  have hkm:k<m:=by omega
  cases bk;rotate_left
  ·have HF:=Hd (HMK.o.trans (by rw[zci grtR _ rfl,jh]:_=(l,(sk,true))));clear hkm hk hlk hrk hl1 hl hm;go_wp2;go_ret;exact ⟨_,rfl,by rw[HF.o];exact HOW.o,HOB.o,by rw[HF.o];exact T4.o⟩
  have hn2:=HNK.o rfl;obtain ⟨j,hj⟩:∃j,m-k=j+1:=⟨m-k-1,by omega⟩;have CW:=Hd (T4.o.keep HC.o hcp);have hC:=rc_grt p c 95 (sk,false) w0 CW.o hcp T4.o.blk hrk;have hL:=ziw (sk,false);obtain ⟨q2,hq⟩:=jN (grtR (sk,false));have hS:=zcz grtR j (r:=(sk,false)) rfl hq;rw[hj,hS] at HMK;rw[hq] at hC hL;obtain ⟨x,rk⟩:=q2;rw[show (cGrt x).toArray=#[.int .i64 x.rect.c1,.int .i64 x.rect.r1,.int .i64 x.rect.c2,.int .i64 x.rect.r2,.int .u8 x.fns,.int .u64 x.to_,.int .i64 x.by_,.bool x.revoked] from rfl] at hC;have HCC:=Hd hC;have hL2:rk.1.length<=1000000:=jx hL hrk;have hjk:j=m-(k+1):=by omega
  have HJ:=Hd hjk;clear hC hL hq hS hj hjk;go_wp2_with fail;refine HCC.o.mono ?_;rintro e W5 ⟨rfl,t5⟩;have T5:=Hd ((T4.o.trans t5).alloc (.cells x 85));have O5:=Hd ((HOW.o.chg t5.chg (λq hq e=>by have h1:=HOB.o q hq;have h2:q=p:=e;omega)).alloc (.cells x 85));have K5:=Hd (je W5 85 x);clear t5 HCC;go_wp2_with (at_builtin;refine ju ?_);refine Hd ?_;refine zal cGrt rfl _ _ 24 rfl 85 ie _ 8 64 underlying24 I0.o I1.o I2.o I3.o rfl (by omega) _ l rfl O5.o _ _ [x] rfl (Sls.one (x:=x) K5.o rfl) zex zrz (by simp;omega) (by omega) ?_;intro v9 w9 o9 t9;have O9:=Hd o9;have T9:=Hd (T5.o.o t9 HOB.o hlt);have B9:=jM (∀q,v9.ownBlock=some q->W.heap.size<=q) (λq hq=>by
   rcases t9.own q hq with e | e
   ·exact HOB.o q e
   exact jx T5.o.chg.size e)
  clear o9 t9;go_wp2;exact ⟨⟨k+1,l++ [x],rk,by omega,by go_num,O9.o,B9.o,T9.o,by simp;omega,hL2,by rw[<- HJ.o,<- HE.o,HMK.o];simp,λ_=>hn2⟩,by simp[intOf];omega⟩
theorem rl_evt (p c:Nat) (r:Rd) (W:World) (hc:Blk W c 95 (aP p)) (hcp:c≠p) (h:RdAt W p r) (hl:r.1.length<=1000000):
 Calls prog 70 #[(aA p),.func (.func 71) #[] #[.pointer (some (c,0))]] W λu W'=>∃v',u=.returned v'/\Own cEvt 110 9 W' v' (zbk evtR r).1/\(∀q,v'.ownBlock=some q->W.heap.size<=q)/\RdTo p W W' (zbk evtR r).2:=by
 obtain ⟨ie,i0,i1,i2,i3⟩:=info_parts (show (prog.info? 110).map (λi=>(i.zero,i.size,i.bytes))=some (some (.agg #[.int .i64 0,.int .i64 0,.int .u8 0,.int .i64 0,.int .i64 0,.int .i64 0,.int .i64 0,.bool false,.int .u64 0]),9,72) by kernel_rfl);have I0:=Hd i0;have I1:=Hd i1;have I2:=Hd i2;have I3:=Hd i3;clear i0 i1 i2 i3;have hlt:=h.lt;have HH:=Hd h;have HC:=Hd hc;clear h hc;go_enter func70,ntmps70;go_wp2_with fail;have hC:=zb3 p r W HH.o hl;have hL:=zac r;obtain ⟨q1,hq⟩:=jN (numR r);rw[hq] at hC hL;have HQ:=Hd hq;clear hq;refine hC.mono ?_;rintro e W1 ⟨rfl,t1⟩;have T1:=Hd t1;have hl1:=jx hL hl;clear t1 hC hL;generalize hn:zaj q1.1=n;have HN:=Hd hn;clear hn;obtain ⟨v1,s1,b1⟩:=q1;have hl1:s1.length<=1000000:=hl1;obtain ⟨c0,c1⟩:=T1.o.blk.c2 0 1;have f1:W1.frozen? (p,1)=false:=T1.o.blk.frozen 1;have HLR:=Hd (λ(b:Bool) (hb:(b1||decide (n<0)||decide ((s1.length:Int)<n))=b)=>zdw evtR HQ.o HN.o (b:=b) hb);clear HQ HN;obtain ⟨b,hB⟩:=jN (b1||decide (n<0)||decide ((s1.length:Int)<n));have HE:=Hd (HLR.o b hB);have HNB:=jM (b=false->0<=n/\n<=1000000) (λh=>by
  rw[h] at hB;simp only[Bool.or_eq_false_iff,decide_eq_false_iff_not] at hB;omega)
 have T2:=Hd (show RdTo p W (W1.setCell (p,1) (.bool b)) (s1,b) from ⟨Blk.set_ T1.o.blk 1 _,T1.o.chg.setCell (p:=⟨p,1,none⟩) (.inl rfl) _⟩);have H4:=zgr hB;clear HLR hB T1;obtain ⟨W2,hW2⟩:=jN (W1.setCell (p,1) (.bool b));rw[hW2] at T2;have HW:=Hd hW2;obtain ⟨r0,hr0⟩:=jN (s1,b);have HN0:=jM (r0.2=false->0<=n/\n<=1000000) (hr0▸HNB.o);have hl0:r0.1.length<=1000000:=hr0▸hl1;rw[hr0] at HE T2;clear hW2 hr0 HNB;obtain ⟨m,hm⟩:=jN n.toNat;rw[hm] at HE;rcases H4 with ⟨rfl,rfl⟩ | ⟨rfl,hn0,rfl⟩ | ⟨rfl,hn0,hn1,rfl⟩ | ⟨rfl,hn0,hn1,rfl⟩
 all_goals
  go_wp2_with fail;rw[HW.o];clear c0 c1 f1 HW
  try clear hn1
  try clear hn0
  go_loopw [5,7] (λov i wr=>∃(k:Nat) (l:List Evt) (rk:Rd),k<=m/\i=.int .i64 k/\Own cEvt 110 9 wr ov l/\(∀q,ov.ownBlock=some q->W.heap.size<=q)/\RdTo p W wr rk/\l.length=k/\rk.1.length<=1000000/\zam evtR m r0=(l++(zam evtR (m-k) rk).1,(zam evtR (m-k) rk).2)/\(rk.2=false->0<=n/\n<=1000000)) (λ_ i _=>m-(intOf i).toNat)
  case atStart=>exact ⟨0,[],r0,by omega,rfl,Own.nil _ _ _ _,λq hq=>by simp[Value.ownBlock] at hq,T2.o,rfl,hl0,by simp,HN0.o⟩
  rename World=>w0
  obtain ⟨k,l,⟨sk,bk⟩,hk,rfl,how,hob,hto,hlk,hrk,hmk,hnb⟩:=hrel;have HNK:=Hd hnb;have HOW:=Hd how;have HOB:=Hd hob;have T4:=Hd hto;have HMK:=Hd (HE.o.trans hmk);have c1:=hto.blk.cell 1;clear how hob hto hmk hnb;by_cases hlt2:(k:Int)<n;rotate_left
  ·have hld:=hlt2;have HF:=Hd (HMK.o.trans (by rw[show m-k=0 by omega];simp only[zam,jh]:_=(l,(sk,bk))));clear hk hlk hrk hl1 hl hm;go_wp2;go_ret;exact ⟨_,rfl,by rw[HF.o];exact HOW.o,HOB.o,by rw[HF.o];exact T4.o⟩
  have hkm:k<m:=by omega
  cases bk;rotate_left
  ·have HF:=Hd (HMK.o.trans (by rw[zci evtR _ rfl,jh]:_=(l,(sk,true))));clear hkm hk hlk hrk hl1 hl hm;go_wp2;go_ret;exact ⟨_,rfl,by rw[HF.o];exact HOW.o,HOB.o,by rw[HF.o];exact T4.o⟩
  have hn2:=HNK.o rfl;obtain ⟨j,hj⟩:∃j,m-k=j+1:=⟨m-k-1,by omega⟩;have CW:=Hd (T4.o.keep HC.o hcp);have hC:=rc_evt p c 95 (sk,false) w0 CW.o hcp T4.o.blk hrk;have hL:=ziz (sk,false);obtain ⟨q2,hq⟩:=jN (evtR (sk,false));have hS:=zcz evtR j (r:=(sk,false)) rfl hq;rw[hj,hS] at HMK;rw[hq] at hC hL;obtain ⟨x,rk⟩:=q2;rw[show (cEvt x).toArray=#[.int .i64 x.step,.int .i64 x.user,.int .u8 x.kind,.int .i64 x.rect.c1,.int .i64 x.rect.r1,.int .i64 x.rect.c2,.int .i64 x.rect.r2,.bool x.done_,.int .u64 x.to_] from rfl] at hC;have HCC:=Hd hC;have hL2:rk.1.length<=1000000:=jx hL hrk;have hjk:j=m-(k+1):=by omega
  have HJ:=Hd hjk;clear hC hL hq hS hj hjk;go_wp2_with fail;refine HCC.o.mono ?_;rintro e W5 ⟨rfl,t5⟩;have T5:=Hd ((T4.o.trans t5).alloc (.cells x 110));have O5:=Hd ((HOW.o.chg t5.chg (λq hq e=>by have h1:=HOB.o q hq;have h2:q=p:=e;omega)).alloc (.cells x 110));have K5:=Hd (je W5 110 x);clear t5 HCC;go_wp2_with (at_builtin;refine ju ?_);refine Hd ?_;refine zal cEvt rfl _ _ 25 rfl 110 ie _ 9 72 underlying25 I0.o I1.o I2.o I3.o rfl (by omega) _ l rfl O5.o _ _ [x] rfl (Sls.one (x:=x) K5.o rfl) zdt zr0 (by simp;omega) (by omega) ?_;intro v9 w9 o9 t9;have O9:=Hd o9;have T9:=Hd (T5.o.o t9 HOB.o hlt);have B9:=jM (∀q,v9.ownBlock=some q->W.heap.size<=q) (λq hq=>by
   rcases t9.own q hq with e | e
   ·exact HOB.o q e
   exact jx T5.o.chg.size e)
  clear o9 t9;go_wp2;exact ⟨⟨k+1,l++ [x],rk,by omega,by go_num,O9.o,B9.o,T9.o,by simp;omega,hL2,by rw[<- HJ.o,<- HE.o,HMK.o];simp,λ_=>hn2⟩,by simp[intOf];omega⟩
theorem rl_rls (p c:Nat) (r:Rd) (W:World) (hc:Blk W c 95 (aP p)) (hcp:c≠p) (h:RdAt W p r) (hl:r.1.length<=1000000):
 Calls prog 72 #[(aA p),.func (.func 73) #[] #[.pointer (some (c,0))]] W λu W'=>∃v',u=.returned v'/\Own cRls 116 11 W' v' (zbk rlsR r).1/\(∀q,v'.ownBlock=some q->W.heap.size<=q)/\RdTo p W W' (zbk rlsR r).2:=by
 obtain ⟨ie,i0,i1,i2,i3⟩:=info_parts (show (prog.info? 116).map (λi=>(i.zero,i.size,i.bytes))=some (some (.agg #[.int .i64 0,.int .i64 0,.int .i64 0,.int .i64 0,.int .u8 0,.int .i64 0,.int .i64 0,.int .i64 0,.int .i64 0,.int .i64 0,.int .u64 0]),11,88) by kernel_rfl);have I0:=Hd i0;have I1:=Hd i1;have I2:=Hd i2;have I3:=Hd i3;clear i0 i1 i2 i3;have hlt:=h.lt;have HH:=Hd h;have HC:=Hd hc;clear h hc;go_enter func72,ntmps72;go_wp2_with fail;have hC:=zb3 p r W HH.o hl;have hL:=zac r;obtain ⟨q1,hq⟩:=jN (numR r);rw[hq] at hC hL;have HQ:=Hd hq;clear hq;refine hC.mono ?_;rintro e W1 ⟨rfl,t1⟩;have T1:=Hd t1;have hl1:=jx hL hl;clear t1 hC hL;generalize hn:zaj q1.1=n;have HN:=Hd hn;clear hn;obtain ⟨v1,s1,b1⟩:=q1;have hl1:s1.length<=1000000:=hl1;obtain ⟨c0,c1⟩:=T1.o.blk.c2 0 1;have f1:W1.frozen? (p,1)=false:=T1.o.blk.frozen 1;have HLR:=Hd (λ(b:Bool) (hb:(b1||decide (n<0)||decide ((s1.length:Int)<n))=b)=>zdw rlsR HQ.o HN.o (b:=b) hb);clear HQ HN;obtain ⟨b,hB⟩:=jN (b1||decide (n<0)||decide ((s1.length:Int)<n));have HE:=Hd (HLR.o b hB);have HNB:=jM (b=false->0<=n/\n<=1000000) (λh=>by
  rw[h] at hB;simp only[Bool.or_eq_false_iff,decide_eq_false_iff_not] at hB;omega)
 have T2:=Hd (show RdTo p W (W1.setCell (p,1) (.bool b)) (s1,b) from ⟨Blk.set_ T1.o.blk 1 _,T1.o.chg.setCell (p:=⟨p,1,none⟩) (.inl rfl) _⟩);have H4:=zgr hB;clear HLR hB T1;obtain ⟨W2,hW2⟩:=jN (W1.setCell (p,1) (.bool b));rw[hW2] at T2;have HW:=Hd hW2;obtain ⟨r0,hr0⟩:=jN (s1,b);have HN0:=jM (r0.2=false->0<=n/\n<=1000000) (hr0▸HNB.o);have hl0:r0.1.length<=1000000:=hr0▸hl1;rw[hr0] at HE T2;clear hW2 hr0 HNB;obtain ⟨m,hm⟩:=jN n.toNat;rw[hm] at HE;rcases H4 with ⟨rfl,rfl⟩ | ⟨rfl,hn0,rfl⟩ | ⟨rfl,hn0,hn1,rfl⟩ | ⟨rfl,hn0,hn1,rfl⟩
 all_goals
  go_wp2_with fail;rw[HW.o];clear c0 c1 f1 HW
  try clear hn1
  try clear hn0
  go_loopw [5,7] (λov i wr=>∃(k:Nat) (l:List Rls) (rk:Rd),k<=m/\i=.int .i64 k/\Own cRls 116 11 wr ov l/\(∀q,ov.ownBlock=some q->W.heap.size<=q)/\RdTo p W wr rk/\l.length=k/\rk.1.length<=1000000/\zam rlsR m r0=(l++(zam rlsR (m-k) rk).1,(zam rlsR (m-k) rk).2)/\(rk.2=false->0<=n/\n<=1000000)) (λ_ i _=>m-(intOf i).toNat)
  case atStart=>exact ⟨0,[],r0,by omega,rfl,Own.nil _ _ _ _,λq hq=>by simp[Value.ownBlock] at hq,T2.o,rfl,hl0,by simp,HN0.o⟩
  rename World=>w0
  obtain ⟨k,l,⟨sk,bk⟩,hk,rfl,how,hob,hto,hlk,hrk,hmk,hnb⟩:=hrel;have HNK:=Hd hnb;have HOW:=Hd how;have HOB:=Hd hob;have T4:=Hd hto;have HMK:=Hd (HE.o.trans hmk);have c1:=hto.blk.cell 1;clear how hob hto hmk hnb;by_cases hlt2:(k:Int)<n;rotate_left
  ·have hld:=hlt2;have HF:=Hd (HMK.o.trans (by rw[show m-k=0 by omega];simp only[zam,jh]:_=(l,(sk,bk))));clear hk hlk hrk hl1 hl hm;go_wp2;go_ret;exact ⟨_,rfl,by rw[HF.o];exact HOW.o,HOB.o,by rw[HF.o];exact T4.o⟩
  have hkm:k<m:=by omega
  cases bk;rotate_left
  ·have HF:=Hd (HMK.o.trans (by rw[zci rlsR _ rfl,jh]:_=(l,(sk,true))));clear hkm hk hlk hrk hl1 hl hm;go_wp2;go_ret;exact ⟨_,rfl,by rw[HF.o];exact HOW.o,HOB.o,by rw[HF.o];exact T4.o⟩
  have hn2:=HNK.o rfl;obtain ⟨j,hj⟩:∃j,m-k=j+1:=⟨m-k-1,by omega⟩;have CW:=Hd (T4.o.keep HC.o hcp);have hC:=rc_rls p c 95 (sk,false) w0 CW.o hcp T4.o.blk hrk;have hL:=zio (sk,false);obtain ⟨q2,hq⟩:=jN (rlsR (sk,false));have hS:=zcz rlsR j (r:=(sk,false)) rfl hq;rw[hj,hS] at HMK;rw[hq] at hC hL;obtain ⟨x,rk⟩:=q2;rw[show (cRls x).toArray=#[.int .i64 x.step,.int .i64 x.at_.col,.int .i64 x.at_.row,.int .i64 x.node,.int .u8 x.fn,.int .i64 x.rect.c1,.int .i64 x.rect.r1,.int .i64 x.rect.c2,.int .i64 x.rect.r2,.int .i64 x.grant,.int .u64 x.to_] from rfl] at hC;have HCC:=Hd hC;have hL2:rk.1.length<=1000000:=jx hL hrk;have hjk:j=m-(k+1):=by omega
  have HJ:=Hd hjk;clear hC hL hq hS hj hjk;go_wp2_with fail;refine HCC.o.mono ?_;rintro e W5 ⟨rfl,t5⟩;have T5:=Hd ((T4.o.trans t5).alloc (.cells x 116));have O5:=Hd ((HOW.o.chg t5.chg (λq hq e=>by have h1:=HOB.o q hq;have h2:q=p:=e;omega)).alloc (.cells x 116));have K5:=Hd (je W5 116 x);clear t5 HCC;go_wp2_with (at_builtin;refine ju ?_);refine Hd ?_;refine zal cRls rfl _ _ 26 rfl 116 ie _ 11 88 underlying26 I0.o I1.o I2.o I3.o rfl (by omega) _ l rfl O5.o _ _ [x] rfl (Sls.one (x:=x) K5.o rfl) zds zrx (by simp;omega) (by omega) ?_;intro v9 w9 o9 t9;have O9:=Hd o9;have T9:=Hd (T5.o.o t9 HOB.o hlt);have B9:=jM (∀q,v9.ownBlock=some q->W.heap.size<=q) (λq hq=>by
   rcases t9.own q hq with e | e
   ·exact HOB.o q e
   exact jx T5.o.chg.size e)
  clear o9 t9;go_wp2;exact ⟨⟨k+1,l++ [x],rk,by omega,by go_num,O9.o,B9.o,T9.o,by simp;omega,hL2,by rw[<- HJ.o,<- HE.o,HMK.o];simp,λ_=>hn2⟩,by simp[intOf];omega⟩
end Go.Proofs.YtamcgggmfghljaaGreatDoor
