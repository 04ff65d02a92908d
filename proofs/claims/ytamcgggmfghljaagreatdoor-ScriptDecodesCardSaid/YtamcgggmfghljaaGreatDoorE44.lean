/- walk -/
import Derived.Test.YtamcgggmfghljaaGreatDoorE27
import Derived.Test.YtamcgggmfghljaaGreatDoorE43
set_option maxRecDepth 100000
set_option maxHeartbeats 8000000
open Go.Proofs.Tryz
namespace Go.Proofs.YtamcgggmfghljaaGreatDoor
open Go.RowKit
variable {b b1:Bool} {n:Int} {k p:Nat} {r:Rd} {α:Type} {v v':Value} {W W1 w':World}
theorem rl_opr (p:Nat) (r:Rd) (W:World) (h:RdAt W p r) (hl:r.1.length<=1000000):
 Calls prog 74 #[(aA p),.func (.func 75) #[.pointer (some (p,0))] #[]] W λu W'=>∃v',u=.returned v'/\Own cOpr 48 13 W' v' (zbk oprR r).1/\(∀q,v'.ownBlock=some q->W.heap.size<=q)/\RdTo p W W' (zbk oprR r).2:=by
 obtain ⟨ie,i0,i1,i2,i3⟩:=info_parts (show (prog.info? 48).map (λi=>(i.zero,i.size,i.bytes))=some (some (.agg (aL 0)),13,112) by kernel_rfl);have I0:=Hd i0;have I1:=Hd i1;have I2:=Hd i2;have I3:=Hd i3;clear i0 i1 i2 i3;have hlt:=h.lt;have HH:=Hd h;clear h;go_enter func74,ntmps74;go_wp2_with fail;have hC:=zb3 p r W HH.o hl;have hL:=zac r;obtain ⟨q1,hq⟩:=jN (numR r);rw[hq] at hC hL;have HQ:=Hd hq;clear hq;refine hC.mono ?_;rintro e W1 ⟨rfl,t1⟩;have T1:=Hd t1;have hl1:=jx hL hl;clear t1 hC hL;generalize hn:zaj q1.1=n;have HN:=Hd hn;clear hn;obtain ⟨v1,s1,b1⟩:=q1;have hl1:s1.length<=1000000:=hl1;obtain ⟨c0,c1⟩:=T1.o.blk.c2 0 1;have f1:W1.frozen? (p,1)=false:=T1.o.blk.frozen 1;have HLR:=Hd (λ(b:Bool) (hb:(b1||decide (n<0)||decide ((s1.length:Int)<n))=b)=>zdw oprR HQ.o HN.o (b:=b) hb);clear HQ HN;obtain ⟨b,hB⟩:=jN (b1||decide (n<0)||decide ((s1.length:Int)<n));have HE:=Hd (HLR.o b hB);have HNB:=jM (b=false->0<=n/\n<=1000000) (λh=>by
  rw[h] at hB;simp only[Bool.or_eq_false_iff,decide_eq_false_iff_not] at hB;omega)
 have T2:=Hd (show RdTo p W (W1.setCell (p,1) (.bool b)) (s1,b) from ⟨Blk.set_ T1.o.blk 1 _,T1.o.chg.setCell (p:=⟨p,1,none⟩) (.inl rfl) _⟩);have H4:=zgr hB;clear HLR hB T1;obtain ⟨W2,hW2⟩:=jN (W1.setCell (p,1) (.bool b));rw[hW2] at T2;have HW:=Hd hW2;obtain ⟨r0,hr0⟩:=jN (s1,b);have HN0:=jM (r0.2=false->0<=n/\n<=1000000) (hr0▸HNB.o);have hl0:r0.1.length<=1000000:=hr0▸hl1;rw[hr0] at HE T2;clear hW2 hr0 HNB;obtain ⟨m,hm⟩:=jN n.toNat;rw[hm] at HE;rcases H4 with ⟨rfl,rfl⟩ | ⟨rfl,hn0,rfl⟩ | ⟨rfl,hn0,hn1,rfl⟩ | ⟨rfl,hn0,hn1,rfl⟩
 all_goals
  go_wp2_with fail;rw[HW.o];clear c0 c1 f1 HW
  try clear hn1
  try clear hn0
  go_loopw [5,7] (λov i wr=>∃(k:Nat) (l:List Opr) (rk:Rd),k<=m/\i=.int .i64 k/\Own cOpr 48 13 wr ov l/\(∀q,ov.ownBlock=some q->W.heap.size<=q)/\RdTo p W wr rk/\l.length=k/\rk.1.length<=1000000/\zam oprR m r0=(l++(zam oprR (m-k) rk).1,(zam oprR (m-k) rk).2)/\(rk.2=false->0<=n/\n<=1000000)) (λ_ i _=>m-(intOf i).toNat)
  case atStart=>exact ⟨0,[],r0,by omega,rfl,Own.nil _ _ _ _,λq hq=>by simp[Value.ownBlock] at hq,T2.o,rfl,hl0,by simp,HN0.o⟩
  rename World=>w0
  obtain ⟨k,l,⟨sk,bk⟩,hk,rfl,how,hob,hto,hlk,hrk,hmk,hnb⟩:=hrel;have HNK:=Hd hnb;have HOW:=Hd how;have HOB:=Hd hob;have T4:=Hd hto;have HMK:=Hd (HE.o.trans hmk);have c1:=hto.blk.cell 1;clear how hob hto hmk hnb;by_cases hlt2:(k:Int)<n;rotate_left
  ·have hld:=hlt2;have HF:=Hd (HMK.o.trans (by rw[show m-k=0 by omega];simp only[zam,jh]:_=(l,(sk,bk))));clear hk hlk hrk hl1 hl hm;go_wp2;go_ret;exact ⟨_,rfl,by rw[HF.o];exact HOW.o,HOB.o,by rw[HF.o];exact T4.o⟩
  have hkm:k<m:=by omega
  cases bk;rotate_left
  ·have HF:=Hd (HMK.o.trans (by rw[zci oprR _ rfl,jh]:_=(l,(sk,true))));clear hkm hk hlk hrk hl1 hl hm;go_wp2;go_ret;exact ⟨_,rfl,by rw[HF.o];exact HOW.o,HOB.o,by rw[HF.o];exact T4.o⟩
  have hn2:=HNK.o rfl;obtain ⟨j,hj⟩:∃j,m-k=j+1:=⟨m-k-1,by omega⟩;have hC:=znp p (sk,false) w0 T4.o.blk hrk;have hL:=zl6 (sk,false);obtain ⟨q2,hq⟩:=jN (oprR (sk,false));have hS:=zcz oprR j (r:=(sk,false)) rfl hq;rw[hj,hS] at HMK;rw[hq] at hC hL;obtain ⟨x,rk⟩:=q2;rw[show (cOpr x).toArray=#[.int .u8 x.kind,.int .i64 x.user,.int .i64 x.rect.c1,.int .i64 x.rect.r1,.int .i64 x.rect.c2,.int .i64 x.rect.r2,str x.input,.int .u64 x.rights.rd,.int .u64 x.rights.wr,.int .u64 x.rights.ow,.int .u8 x.fns,.int .u64 x.to_,.int .i64 x.index] from rfl] at hC;have HCC:=Hd hC;have hL2:rk.1.length<=1000000:=jx hL hrk;have hjk:j=m-(k+1):=by omega
  have HJ:=Hd hjk;clear hC hL hq hS hj hjk;go_wp2_with fail;refine HCC.o.mono ?_;rintro e W5 ⟨rfl,t5⟩;have T5:=Hd ((T4.o.trans t5).alloc (.cells x 48));have O5:=Hd ((HOW.o.chg t5.chg (λq hq e=>by have h1:=HOB.o q hq;have h2:q=p:=e;omega)).alloc (.cells x 48));have K5:=Hd (je W5 48 x);clear t5 HCC;go_wp2_with (at_builtin;refine ju ?_);refine Hd ?_;refine zal cOpr rfl _ _ 29 rfl 48 ie _ 13 112 underlying29 I0.o I1.o I2.o I3.o rfl (by omega) _ l rfl O5.o _ _ [x] rfl (Sls.one (x:=x) K5.o rfl) zgo zry (by simp;omega) (by omega) ?_;intro v9 w9 o9 t9;have O9:=Hd o9;have T9:=Hd (T5.o.o t9 HOB.o hlt);have B9:=jM (∀q,v9.ownBlock=some q->W.heap.size<=q) (λq hq=>by
   rcases t9.own q hq with e | e
   ·exact HOB.o q e
   exact jx T5.o.chg.size e)
  clear o9 t9;go_wp2;exact ⟨⟨k+1,l++ [x],rk,by omega,by go_num,O9.o,B9.o,T9.o,by simp;omega,hL2,by rw[<- HJ.o,<- HE.o,HMK.o];simp,λ_=>hn2⟩,by simp[intOf];omega⟩
end Go.Proofs.YtamcgggmfghljaaGreatDoor
