/- walk -/
import Derived.Test.YtamcgggmfghljaaGreatDoorE42
set_option maxRecDepth 100000
set_option maxHeartbeats 8000000
open Go.Proofs.Tryz
namespace Go.Proofs.YtamcgggmfghljaaGreatDoor
open Go.RowKit
variable {b:Bool} {g p z:Nat} {x:Opr} {r r1 r2:Rd} {t:TypeId} {c:UInt8} {W W' W1 W2 w w1:World}
def RfAt (W:World) (p:Nat) (r:Rd):Prop:=Blk W p 122 #[str r.1,.bool r.2]
structure RfTo (p:Nat) (W W':World) (r':Rd):Prop where
 blk:RfAt W' p r'
 chg:Chg (λk=>k=p) W W'
theorem RfTo.trans (h:RfTo p W W1 r1) (k:RfTo p W1 W2 r2):RfTo p W W2 r2:=⟨k.blk,h.chg.trans k.chg⟩
theorem RfAt.lt (h:RfAt W p r):p<W.heap.size:=Blk.lt h
theorem RfTo.drew (h:RfTo p W W' r):RfTo p W W'.drew r:=⟨h.blk,h.chg.drew⟩
theorem RfTo.set (h:RfTo p W W' r) (hg:W.heap.size<=g) (hp:p≠g) (i:Nat) (u:Value):RfTo p W (W'.setCell (g,i) u) r:=
 ⟨Blk.far h.blk (by exact hp) u,h.chg.setCell (p:=⟨g,i,none⟩) (.inr hg) u⟩
theorem RfTo.alloc (h:RfTo p W W' r) (o:Obj):RfTo p W (W'.alloc o) r:=⟨Blk.alloc h.blk o,h.chg.alloc o⟩
theorem RfTo.refl (h:RfAt W p r):RfTo p W W r:=⟨h,Chg.refl _ _⟩
theorem RfTo.keep {cs:Array Value} (h:RfTo p W W' r) (hb:Blk W g t cs) (hg:g≠p):Blk W' g t cs:=hb.chg h.chg hg
theorem za5 (r:Rd):(numF r).2.1.length<=r.1.length:=by
 obtain ⟨l,b⟩:=r
 cases l with
 | nil=>simp[numF]
 | cons c t=>
  unfold numF;simp only;split
  ·simp
  simp only[jp,jk];omega
theorem zzm (b:Bool):numF ([],b)=(0,([],true)):=rfl
theorem zq7 {t:zaa} (h:8<c.toNat\/t.length<c.toNat):numF (c::t,b)=(0,([],true)):=jb h
theorem zvy {t:zaa} (h:¬(8<c.toNat\/t.length<c.toNat)):numF (c::t,b)=(beN 0 (t.take c.toNat),(t.drop c.toNat,b)):=ja h
theorem zgx (p:Nat) (r:Rd) (W:World) (h:RfAt W p r) (hl:r.1.length<=1000000):
 Calls prog 159 (aP p) W λu W'=>u=.returned (.int .u64 ((numF r).1:Nat))/\RfTo p W W' (numF r).2:=by
 have HH:=Hd h;have HHN:=jM (∀n,RfAt (W.drewN n) p r) (λn=>h);have c0:W.cell? (p,0)=some (str r.1):=Blk.cell h 0;have c1:W.cell? (p,1)=some (.bool r.2):=Blk.cell h 1;have f0:W.frozen? (p,0)=false:=Blk.frozen h 0;have f1:W.frozen? (p,1)=false:=Blk.frozen h 1;clear h;obtain ⟨l,b⟩:=r
 cases l with
 | nil=>have HR:=Hd (zzm b);go_enter func159,ntmps159;go_wp2;go_quiet (fail);go_wp2;go_ret;exact ⟨by rw[HR.o];rfl,by rw[HR.o];exact (Blk.set_ (HHN.o _) 1 _).set_ 0 _,(((Chg.refl (λk=>k=p) W).drewN _).setCell (p:=⟨p,1,none⟩) (.inl rfl) _).setCell (p:=⟨p,0,none⟩) (.inl rfl) _⟩
 | cons c t=>
  have e0:∀(h:0<(⟨(c::t).toArray⟩:ByteArray).size),((⟨(c::t).toArray⟩:ByteArray)[0]'h)=c:=λ_=>rfl;have hcb:=c.toNat_lt;have htl:t.length<=1000000:=by simp at hl;omega
  have hw:wrap64 (c.toNat:Int)=(c.toNat:Int):=by unfold wrap64;omega
  have hi:∀W:World,(Instr.index 9 (str (c::t)) (.int .i64 0)).run prog W=.ok (.int .u8 c.toNat) W:=λW=>by rfl
  have z1:(((c::t).length:Int)==0)=false:=by simp only[jk,jI];omega
  have z2:(((t.length:Int)+1)==0)=false:=by simp only[jI];omega
  by_cases h8:8<c.toNat
  ·have HR:=Hd (zq7 (c:=c) (t:=t) (b:=b) (.inl h8));have h8':(8:Int)<(c.toNat:Int):=by omega
   have d8:decide ((8:Int)<(c.toNat:Int))=true:=jB h8';go_enter func159,ntmps159;go_wp2;go_quiet (fail);go_wp2;go_ret;exact ⟨by rw[HR.o];rfl,by rw[HR.o];exact (Blk.set_ (HHN.o _) 1 _).set_ 0 _,(((Chg.refl (λk=>k=p) W).drewN _).setCell (p:=⟨p,1,none⟩) (.inl rfl) _).setCell (p:=⟨p,0,none⟩) (.inl rfl) _⟩
  by_cases h9:t.length<c.toNat
  ·have HR:=Hd (zq7 (c:=c) (t:=t) (b:=b) (.inr h9));have h8':¬(8:Int)<(c.toNat:Int):=by omega
   have h9':(t.length:Int)+1<=(c.toNat:Int):=by omega
   have h10:(0:Int)<(c.toNat:Int):=by omega
   have d8:decide ((8:Int)<(c.toNat:Int))=false:=jA h8';have d9:decide ((t.length:Int)+1<=(c.toNat:Int))=true:=jB h9';have d10:decide ((0:Int)<(c.toNat:Int))=true:=jB h10;go_enter func159,ntmps159;go_wp2;go_quiet (fail);go_wp2;go_ret;exact ⟨by rw[HR.o];rfl,by rw[HR.o];exact (Blk.set_ (HHN.o _) 1 _).set_ 0 _,(((Chg.refl (λk=>k=p) W).drewN _).setCell (p:=⟨p,1,none⟩) (.inl rfl) _).setCell (p:=⟨p,0,none⟩) (.inl rfl) _⟩
  have HR:=Hd (zvy (c:=c) (t:=t) (b:=b) (by omega));have h8':¬(8:Int)<(c.toNat:Int):=by omega
  have h9':¬(t.length:Int)+1<=(c.toNat:Int):=by omega
  have d8:decide ((8:Int)<(c.toNat:Int))=false:=jA h8';have d9:decide ((t.length:Int)+1<=(c.toNat:Int))=false:=jA h9';generalize hm:c.toNat=m at *;go_enter func159,ntmps159;go_wp2;go_quiet (fail);go_wp2;go_loopw [4,5] (λv i wr=>∃(k x:Nat),1<=k/\k<=m+1/\v=.int .u64 x/\i=.int .i64 k/\x=beN 0 (t.take (k-1))/\∃q,wr=W.drewN q) (λ_ i _=>m+1-(intOf i).toNat)
  case atStart=>exact ⟨1,0,by omega,by omega,rfl,rfl,by simp[beN],_,rfl⟩
  obtain ⟨k,x,hk1,hk,rfl,rfl,hx,q,rfl⟩:=hrel;have HX:=Hd hx;have hxl:x<18446744073709551616:=by rw[hx];exact zif _ _ (by decide)
  clear hx;by_cases hlt:k<m+1
  ·have hi0:(0:Int)<=(k:Int):=jw _;have hi1:(k:Int)<=(m:Int):=by omega
   have hi2:(k:Int)<(t.length:Int)+1:=by omega
   have hs:=za3 (c::t) k (by rw[zae];simp;omega);have HB:=Hd (show beN 0 (t.take (k+1-1))=(x*256+((c::t).getD k 0).toNat) % 18446744073709551616 by
    obtain ⟨j,rfl⟩:∃j,k=j+1:=⟨k-1,by omega⟩;have hj:j<t.length:=by omega
    rw[show j+1+1-1=j+1 by omega,zfr hj,HX.o,List.getD_cons_succ,jL,jz hj];rfl)
   have hd:=((c::t).getD k 0).toNat_lt;generalize (c::t).getD k 0=d at *;have hwd:IntKind.u64.wrap (d.toNat:Int)=(d.toNat:Int):=by rw[IntKind.wrap_u64];omega
   have HWX:=jM (IntKind.u64.wrap (IntKind.u64.wrap ((x:Int)*256)+(d.toNat:Int))=(((x*256+d.toNat) % 18446744073709551616:Nat):Int)) (by rw[IntKind.wrap_u64,IntKind.wrap_u64];omega);go_wp2;exact ⟨⟨k+1,_,by omega,by omega,by rw[HWX.o],by go_num,by rw[HB.o],q,rfl⟩,by simp[intOf];omega⟩
  have hk2:k=m+1:=by omega
  have hi1:¬(k:Int)<=(m:Int):=by omega
  have HV:=jM (x=beN 0 (t.take m)) (by rw[HX.o,hk2];rfl);have hm1:(m:Int)+1<=(t.length:Int)+1:=by omega
  have hm0:(0:Int)<=(m:Int)+1:=by omega
  clear hk2;go_wp2;go_ret;rw[zev (c::t) (m+1) (t.length+1) rfl];exact ⟨by rw[HR.o,<- HV.o];rfl,by rw[HR.o];exact ⟨Blk.set_ (HHN.o _) 0 _,((Chg.refl (λk=>k=p) W).drewN _).setCell (p:=⟨p,0,none⟩) (.inl rfl) _⟩⟩
theorem zfz (p:Nat) (r:Rd) (W:World) (h:RfAt W p r) (hl:r.1.length<=1000000):
 Calls prog 153 (aP p) W λu W'=>u=.returned (.int .i64 (zaj (numF r).1))/\RfTo p W W' (numF r).2:=by
 have HC:=Hd (zgx p r W h hl);clear h;go_enter func153,ntmps153;go_wp2_with fail;refine HC.o.mono ?_;rintro e W1 ⟨rfl,t1⟩;have T1:=Hd t1;clear t1;go_wp2;go_ret;exact ⟨congrArg (λz=>Ending.returned (.int .i64 z)) (zhw _),T1.o⟩
theorem zl0 (p:Nat) (r:Rd) (W:World) (h:RfAt W p r) (hl:r.1.length<=1000000):
 Calls prog 158 (aP p) W λu W'=>u=.returned (.int .u8 ((numF r).1 % 256:Nat))/\RfTo p W W' (u8F r).2:=by
 have HC:=Hd (zgx p r W h hl);have HU:=jM ((u8F r).2=if 255<(numF r).1 then ([],true) else (numF r).2) rfl;generalize (u8F r).2=U at HU ⊢;generalize numF r=q at HC HU ⊢;obtain ⟨n,q⟩:=q;simp only at HC HU ⊢;clear h;by_cases hn:255<n
 ·have hn':(255:Int)<(n:Int):=by omega
  have HU2:=Hd (HU.o.trans (jb hn));clear HU;go_enter func158,ntmps158;go_wp2_with fail;refine HC.o.mono ?_;rintro e W1 ⟨rfl,t1⟩;have T1:=Hd t1;have f0:W1.frozen? (p,0)=false:=Blk.frozen t1.blk 0;have f1:W1.frozen? (p,1)=false:=Blk.frozen t1.blk 1;have c0:W1.cell? (p,0)=some (str q.1):=Blk.cell t1.blk 0;have c1:W1.cell? (p,1)=some (.bool q.2):=Blk.cell t1.blk 1;clear t1;go_wp2;go_ret;exact ⟨rfl,by rw[HU2.o];exact ⟨(Blk.set_ T1.o.blk 1 _).set_ 0 _,(T1.o.chg.setCell (p:=⟨p,1,none⟩) (.inl rfl) _).setCell (p:=⟨p,0,none⟩) (.inl rfl) _⟩⟩
 have hn':¬(255:Int)<(n:Int):=by omega
 have HU2:=Hd (HU.o.trans (ja hn));clear HU;go_enter func158,ntmps158;go_wp2_with fail;refine HC.o.mono ?_;rintro e W1 ⟨rfl,t1⟩;have T1:=Hd t1;clear t1;go_wp2;go_ret;exact ⟨by simp[];omega,by rw[HU2.o];exact T1.o⟩
theorem zde (r:Rd):(cntF r).2.1.length<=r.1.length/\(cntF r).1<=(cntF r).2.1.length:=by
 have:=za5 r;unfold cntF;split
 ·simp
 omega
theorem zfj (p:Nat) (r:Rd) (W:World) (h:RfAt W p r) (hl:r.1.length<=1000000):
 Calls prog 77 (aP p) W λu W'=>u=.returned (.int .i64 ((cntF r).1:Nat))/\RfTo p W W' (cntF r).2:=by
 have HC:=Hd (zgx p r W h hl);have HL:=Hd (jx (za5 r) hl);have HU:=jM (cntF r=if (numF r).2.1.length<(numF r).1 then (0,([],true)) else numF r) rfl;generalize cntF r=U at HU ⊢;generalize numF r=q at HC HU HL ⊢;obtain ⟨n,l,b⟩:=q;simp only at HC HU HL ⊢;have hl0:=HL.o;clear h;by_cases hn:l.length<n
 ·have hn':(l.length:Int)<(n:Int):=by omega
  have HU2:=Hd (HU.o.trans (jb hn));clear HU;go_enter func77,ntmps77;go_wp2_with fail;refine HC.o.mono ?_;rintro e W1 ⟨rfl,t1⟩;have T1:=Hd t1;have f0:W1.frozen? (p,0)=false:=Blk.frozen t1.blk 0;have f1:W1.frozen? (p,1)=false:=Blk.frozen t1.blk 1;have c0:W1.cell? (p,0)=some (str l):=Blk.cell t1.blk 0;have c1:W1.cell? (p,1)=some (.bool b):=Blk.cell t1.blk 1;clear t1;go_wp2;go_ret;exact ⟨by rw[HU2.o];rfl,by rw[HU2.o];exact ⟨(Blk.set_ T1.o.blk 1 _).set_ 0 _,(T1.o.chg.setCell (p:=⟨p,1,none⟩) (.inl rfl) _).setCell (p:=⟨p,0,none⟩) (.inl rfl) _⟩⟩
 have hn':¬(l.length:Int)<(n:Int):=by omega
 have hnw:wrap64 (n:Int)=(n:Int):=by unfold wrap64;omega
 have HU2:=Hd (HU.o.trans (ja hn));clear HU;go_enter func77,ntmps77;go_wp2_with fail;refine HC.o.mono ?_;rintro e W1 ⟨rfl,t1⟩;have T1:=Hd t1;have c0:W1.cell? (p,0)=some (str l):=Blk.cell t1.blk 0;clear t1;go_wp2;go_ret;exact ⟨by rw[HU2.o];rfl,by rw[HU2.o];exact T1.o⟩
theorem zu9 (p:Nat) (r:Rd) (W:World) (h:RfAt W p r) (hl:r.1.length<=1000000):
 Calls prog 155 (aP p) W λu W'=>u=.returned (str (zdv r).1)/\RfTo p W W' (zdv r).2:=by
 have HC:=Hd (zfj p r W h hl);have HL:=Hd (zde r);have HU:=jM (zdv r=((cntF r).2.1.take (cntF r).1,((cntF r).2.1.drop (cntF r).1,(cntF r).2.2))) rfl;generalize zdv r=U at HU ⊢;generalize cntF r=q at HC HU HL ⊢;obtain ⟨k,l,b⟩:=q;simp only at HC HU HL ⊢;obtain ⟨h1,h2⟩:=HL.o;have hl2:(k:Int)<=(l.length:Int):=by omega
 have hk0:(0:Int)<=(k:Int):=by omega
 clear h;go_enter func155,ntmps155;go_wp2_with fail;refine HC.o.mono ?_;rintro e W1 ⟨rfl,t1⟩;have T1:=Hd t1;have f0:W1.frozen? (p,0)=false:=Blk.frozen t1.blk 0;have c0:W1.cell? (p,0)=some (str l):=Blk.cell t1.blk 0;clear t1;go_wp2;go_ret;rw[zj3,zev _ _ _ rfl];exact ⟨by rw[HU.o];rfl,by rw[HU.o];exact ⟨Blk.set_ T1.o.blk 0 _,T1.o.chg.setCell (p:=⟨p,0,none⟩) (.inl rfl) _⟩⟩
theorem rf_ref (p:Nat) (r:Rd) (W:World) (h:RfAt W p r) (hl:r.1.length<=1000000):
 Calls prog 154 (aP p) W λu W'=>u=.returned (.agg #[.int .i64 (zcy r).1.col,.int .i64 (zcy r).1.row])/\RfTo p W W' (zcy r).2:=by
 have hlt:=h.lt;have hne:W.heap.size≠p:=by omega
 have Z0:=Hd (je W 56 #[.int .i64 0,.int .i64 0]);have T0:=Hd ((RfTo.refl h).alloc (.cells #[.int .i64 0,.int .i64 0] 56));have hr0:=Hd hl;clear h hl;go_enter func154,ntmps154;go_wp2_with fail;refine (zfz p r _ T0.o.blk hr0.o).mono ?_;rintro e W1 ⟨rfl,t1⟩;have hg:W.heap.size<W1.heap.size:=(t1.keep Z0.o hne).lt;have hpg:p≠W1.heap.size:=by omega
 have K1:=Hd (je W1 56 #[.int .i64 (zaj (numF r).1),.int .i64 0]);have T1:=Hd ((T0.o.trans t1).alloc (.cells #[.int .i64 (zaj (numF r).1),.int .i64 0] 56));have Z1:=Hd (Blk.alloc (t1.keep Z0.o hne) (.cells #[.int .i64 (zaj (numF r).1),.int .i64 0] 56));have hr1:=Hd (jx (za5 (r)) hr0.o);clear t1;go_wp2_with fail;refine (zfz p ((numF r).2) _ T1.o.blk hr1.o).mono ?_;rintro e W2 ⟨rfl,t2⟩;have Kc:=Hd (t2.keep K1.o hpg.symm);have Zc:=Hd (t2.keep Z1.o hne);have Tc:=Hd (T1.o.trans t2);have x1:=Kc.o.cell 1;have y1:W2.frozen? (W1,1)=false:=Kc.o.frozen 1;have Z2:=Hd (Blk.far (p:=⟨W1.heap.size,1,none⟩) Zc.o (by show W.heap.size≠W1.heap.size;omega) (.int .i64 (zaj (numF (numF r).2).1)));have T2:=Hd (RfTo.set Tc.o (jF hg) hpg 1 (.int .i64 (zaj (numF (numF r).2).1)));have c0:=Kc.o.cell 0;have z0:=Zc.o.cell 0;have q0:W2.frozen? (W,0)=false:=Zc.o.frozen 0;have z1:=Zc.o.cell 1;have q1:W2.frozen? (W,1)=false:=Zc.o.frozen 1;have hgl:W1.heap.size<W2.heap.size:=Kc.o.lt;have hzl:W.heap.size<W2.heap.size:=Zc.o.lt;clear Kc Zc Tc;clear t2;have TF:=Hd ((T2.o.set jy hne.symm 0 (.int .i64 (zaj (numF r).1))).set jy hne.symm 1 (.int .i64 (zaj (numF (numF r).2).1)));go_wp2;have ZF:=Hd ((Z2.o.set_ 0 (.int .i64 (zaj (numF r).1))).set_ 1 (.int .i64 (zaj (numF (numF r).2).1)));obtain ⟨d0,d1⟩:=ZF.o.c2 0 1;refine jO results154 (v:=.agg #[.int .i64 (zaj (numF r).1),.int .i64 (zaj (numF (numF r).2).1)]) ?_ (by simp (maxDischargeDepth:=9) [jQ,go_sem,d0,d1]);exact ⟨rfl,TF.o⟩
theorem zva (p:Nat) (r:Rd) (W:World) (h:RfAt W p r) (hl:r.1.length<=1000000):
 Calls prog 156 (aP p) W λu W'=>u=.returned (.agg #[.int .i64 (zbw r).1.c1,.int .i64 (zbw r).1.r1,.int .i64 (zbw r).1.c2,.int .i64 (zbw r).1.r2])/\RfTo p W W' (zbw r).2:=by
 have hlt:=h.lt;have hne:W.heap.size≠p:=by omega
 have Z0:=Hd (je W 43 #[.int .i64 0,.int .i64 0,.int .i64 0,.int .i64 0]);have T0:=Hd ((RfTo.refl h).alloc (.cells #[.int .i64 0,.int .i64 0,.int .i64 0,.int .i64 0] 43));have hr0:=Hd hl;clear h hl;go_enter func156,ntmps156;go_wp2_with fail;refine (zfz p r _ T0.o.blk hr0.o).mono ?_;rintro e W1 ⟨rfl,t1⟩;have hg:W.heap.size<W1.heap.size:=(t1.keep Z0.o hne).lt;have hpg:p≠W1.heap.size:=by omega
 have K1:=Hd (je W1 43 #[.int .i64 (zaj (numF r).1),.int .i64 0,.int .i64 0,.int .i64 0]);have T1:=Hd ((T0.o.trans t1).alloc (.cells #[.int .i64 (zaj (numF r).1),.int .i64 0,.int .i64 0,.int .i64 0] 43));have Z1:=Hd (Blk.alloc (t1.keep Z0.o hne) (.cells #[.int .i64 (zaj (numF r).1),.int .i64 0,.int .i64 0,.int .i64 0] 43));have hr1:=Hd (jx (za5 (r)) hr0.o);clear t1;go_wp2_with fail;refine (zfz p ((numF r).2) _ T1.o.blk hr1.o).mono ?_;rintro e W2 ⟨rfl,t2⟩;have Kc:=Hd (t2.keep K1.o hpg.symm);have Zc:=Hd (t2.keep Z1.o hne);have Tc:=Hd (T1.o.trans t2);have x1:=Kc.o.cell 1;have y1:W2.frozen? (W1,1)=false:=Kc.o.frozen 1;have K2:=Hd (Kc.o.set_ 1 (.int .i64 (zaj (numF (numF r).2).1)));have Z2:=Hd (Blk.far (p:=⟨W1.heap.size,1,none⟩) Zc.o (by show W.heap.size≠W1.heap.size;omega) (.int .i64 (zaj (numF (numF r).2).1)));have T2:=Hd (RfTo.set Tc.o (jF hg) hpg 1 (.int .i64 (zaj (numF (numF r).2).1)));clear Kc Zc Tc;have hr2:=Hd (jx (za5 ((numF r).2)) hr1.o);clear t2;go_wp2_with fail;refine (zfz p ((numF (numF r).2).2) _ T2.o.blk hr2.o).mono ?_;rintro e W3 ⟨rfl,t3⟩;have Kc:=Hd (t3.keep K2.o hpg.symm);have Zc:=Hd (t3.keep Z2.o hne);have Tc:=Hd (T2.o.trans t3);have x2:=Kc.o.cell 2;have y2:W3.frozen? (W1,2)=false:=Kc.o.frozen 2;have K3:=Hd (Kc.o.set_ 2 (.int .i64 (zaj (numF (numF (numF r).2).2).1)));have Z3:=Hd (Blk.far (p:=⟨W1.heap.size,2,none⟩) Zc.o (by show W.heap.size≠W1.heap.size;omega) (.int .i64 (zaj (numF (numF (numF r).2).2).1)));have T3:=Hd (RfTo.set Tc.o (jF hg) hpg 2 (.int .i64 (zaj (numF (numF (numF r).2).2).1)));clear Kc Zc Tc;have hr3:=Hd (jx (za5 ((numF (numF r).2).2)) hr2.o);clear t3;go_wp2_with fail;refine (zfz p ((numF (numF (numF r).2).2).2) _ T3.o.blk hr3.o).mono ?_;rintro e W4 ⟨rfl,t4⟩;have Kc:=Hd (t4.keep K3.o hpg.symm);have Zc:=Hd (t4.keep Z3.o hne);have Tc:=Hd (T3.o.trans t4);have x3:=Kc.o.cell 3;have y3:W4.frozen? (W1,3)=false:=Kc.o.frozen 3;have Z4:=Hd (Blk.far (p:=⟨W1.heap.size,3,none⟩) Zc.o (by show W.heap.size≠W1.heap.size;omega) (.int .i64 (zaj (numF (numF (numF (numF r).2).2).2).1)));have T4:=Hd (RfTo.set Tc.o (jF hg) hpg 3 (.int .i64 (zaj (numF (numF (numF (numF r).2).2).2).1)));obtain ⟨c0,c1,c2⟩:=Kc.o.c3 0 1 2;have z0:=Zc.o.cell 0;have q0:W4.frozen? (W,0)=false:=Zc.o.frozen 0;have z1:=Zc.o.cell 1;have q1:W4.frozen? (W,1)=false:=Zc.o.frozen 1;have z2:=Zc.o.cell 2;have q2:W4.frozen? (W,2)=false:=Zc.o.frozen 2;have z3:=Zc.o.cell 3;have q3:W4.frozen? (W,3)=false:=Zc.o.frozen 3;have hgl:W1.heap.size<W4.heap.size:=Kc.o.lt;have hzl:W.heap.size<W4.heap.size:=Zc.o.lt;clear Kc Zc Tc;clear t4;have TF:=Hd ((((T4.o.set jy hne.symm 0 (.int .i64 (zaj (numF r).1))).set jy hne.symm 1 (.int .i64 (zaj (numF (numF r).2).1))).set jy hne.symm 2 (.int .i64 (zaj (numF (numF (numF r).2).2).1))).set jy hne.symm 3 (.int .i64 (zaj (numF (numF (numF (numF r).2).2).2).1)));go_wp2;have ZF:=Hd ((((Z4.o.set_ 0 (.int .i64 (zaj (numF r).1))).set_ 1 (.int .i64 (zaj (numF (numF r).2).1))).set_ 2 (.int .i64 (zaj (numF (numF (numF r).2).2).1))).set_ 3 (.int .i64 (zaj (numF (numF (numF (numF r).2).2).2).1)));obtain ⟨d0,d1,d2,d3⟩:=ZF.o.c4 0 1 2 3;refine jO results156 (v:=.agg #[.int .i64 (zaj (numF r).1),.int .i64 (zaj (numF (numF r).2).1),.int .i64 (zaj (numF (numF (numF r).2).2).1),.int .i64 (zaj (numF (numF (numF (numF r).2).2).2).1)]) ?_ (by simp (maxDischargeDepth:=9) [jQ,go_sem,d0,d1,d2,d3]);exact ⟨rfl,TF.o⟩
theorem znj (p:Nat) (r:Rd) (W:World) (h:RfAt W p r) (hl:r.1.length<=1000000):
 Calls prog 157 (aP p) W λu W'=>u=.returned (.agg #[.int .u64 (zdg r).1.rd,.int .u64 (zdg r).1.wr,.int .u64 (zdg r).1.ow])/\RfTo p W W' (zdg r).2:=by
 have hlt:=h.lt;have hne:W.heap.size≠p:=by omega
 have Z0:=Hd (je W 46 #[.int .u64 0,.int .u64 0,.int .u64 0]);have T0:=Hd ((RfTo.refl h).alloc (.cells #[.int .u64 0,.int .u64 0,.int .u64 0] 46));have hr0:=Hd hl;clear h hl;go_enter func157,ntmps157;go_wp2_with fail;refine (zgx p r _ T0.o.blk hr0.o).mono ?_;rintro e W1 ⟨rfl,t1⟩;have hg:W.heap.size<W1.heap.size:=(t1.keep Z0.o hne).lt;have hpg:p≠W1.heap.size:=by omega
 have K1:=Hd (je W1 46 #[.int .u64 ((numF r).1:Nat),.int .u64 0,.int .u64 0]);have T1:=Hd ((T0.o.trans t1).alloc (.cells #[.int .u64 ((numF r).1:Nat),.int .u64 0,.int .u64 0] 46));have Z1:=Hd (Blk.alloc (t1.keep Z0.o hne) (.cells #[.int .u64 ((numF r).1:Nat),.int .u64 0,.int .u64 0] 46));have hr1:=Hd (jx (za5 (r)) hr0.o);clear t1;go_wp2_with fail;refine (zgx p ((numF r).2) _ T1.o.blk hr1.o).mono ?_;rintro e W2 ⟨rfl,t2⟩;have Kc:=Hd (t2.keep K1.o hpg.symm);have Zc:=Hd (t2.keep Z1.o hne);have Tc:=Hd (T1.o.trans t2);have x1:=Kc.o.cell 1;have y1:W2.frozen? (W1,1)=false:=Kc.o.frozen 1;have K2:=Hd (Kc.o.set_ 1 (.int .u64 ((numF (numF r).2).1:Nat)));have Z2:=Hd (Blk.far (p:=⟨W1.heap.size,1,none⟩) Zc.o (by show W.heap.size≠W1.heap.size;omega) (.int .u64 ((numF (numF r).2).1:Nat)));have T2:=Hd (RfTo.set Tc.o (jF hg) hpg 1 (.int .u64 ((numF (numF r).2).1:Nat)));clear Kc Zc Tc;have hr2:=Hd (jx (za5 ((numF r).2)) hr1.o);clear t2;go_wp2_with fail;refine (zgx p ((numF (numF r).2).2) _ T2.o.blk hr2.o).mono ?_;rintro e W3 ⟨rfl,t3⟩;have Kc:=Hd (t3.keep K2.o hpg.symm);have Zc:=Hd (t3.keep Z2.o hne);have Tc:=Hd (T2.o.trans t3);have x2:=Kc.o.cell 2;have y2:W3.frozen? (W1,2)=false:=Kc.o.frozen 2;have Z3:=Hd (Blk.far (p:=⟨W1.heap.size,2,none⟩) Zc.o (by show W.heap.size≠W1.heap.size;omega) (.int .u64 ((numF (numF (numF r).2).2).1:Nat)));have T3:=Hd (RfTo.set Tc.o (jF hg) hpg 2 (.int .u64 ((numF (numF (numF r).2).2).1:Nat)));obtain ⟨c0,c1⟩:=Kc.o.c2 0 1;have z0:=Zc.o.cell 0;have q0:W3.frozen? (W,0)=false:=Zc.o.frozen 0;have z1:=Zc.o.cell 1;have q1:W3.frozen? (W,1)=false:=Zc.o.frozen 1;have z2:=Zc.o.cell 2;have q2:W3.frozen? (W,2)=false:=Zc.o.frozen 2;have hgl:W1.heap.size<W3.heap.size:=Kc.o.lt;have hzl:W.heap.size<W3.heap.size:=Zc.o.lt;clear Kc Zc Tc;clear t3;have TF:=Hd (((T3.o.set jy hne.symm 0 (.int .u64 ((numF r).1:Nat))).set jy hne.symm 1 (.int .u64 ((numF (numF r).2).1:Nat))).set jy hne.symm 2 (.int .u64 ((numF (numF (numF r).2).2).1:Nat)));go_wp2;have ZF:=Hd (((Z3.o.set_ 0 (.int .u64 ((numF r).1:Nat))).set_ 1 (.int .u64 ((numF (numF r).2).1:Nat))).set_ 2 (.int .u64 ((numF (numF (numF r).2).2).1:Nat)));obtain ⟨d0,d1,d2⟩:=ZF.o.c3 0 1 2;refine jO results157 (v:=.agg #[.int .u64 ((numF r).1:Nat),.int .u64 ((numF (numF r).2).1:Nat),.int .u64 ((numF (numF (numF r).2).2).1:Nat)]) ?_ (by simp (maxDischargeDepth:=9) [jQ,go_sem,d0,d1,d2]);exact ⟨rfl,TF.o⟩
theorem zpl (m j:Nat):m &&& 2 ^ j=if bitR m j=true then 2 ^ j else 0:=by
 apply Nat.eq_of_testBit_eq;intro i;rw[Nat.testBit_and,Nat.testBit_two_pow];by_cases h:j=i
 ·subst h;have hb:m.testBit j=bitR m j:=by unfold bitR;rw[Nat.testBit_eq_decide_div_mod_eq]
  rw[hb];cases bitR m j <;> simp[]
 have h0:decide (j=i)=false:=by simpa using h
 rw[h0,Bool.and_false];split
 ·rw[Nat.testBit_two_pow,h0]
 rw[Nat.zero_testBit]
theorem u64_and (m:Nat) (hm:m<18446744073709551616) (j:Nat) (b:Int) (hb:b=((2 ^ j:Nat):Int)) (hj:2 ^ j<18446744073709551616):bits .and .u64 (m:Int) b=if bitR m j=true then b else 0:=by
 subst hb;have hn:=zpl m j;generalize 2 ^ j=n at *;show IntKind.u64.wrap (((BitVec.ofInt 64 (m:Int) &&& BitVec.ofInt 64 (n:Int)).toNat:Nat):Int)=_;rw[BitVec.toNat_and,BitVec.toNat_ofInt,BitVec.toNat_ofInt];rw[show ((m:Int) % ((2 ^ 64:Nat):Int)).toNat=m by omega,show ((n:Int) % ((2 ^ 64:Nat):Int)).toNat=n by omega,hn,IntKind.wrap_u64];split
 ·omega
 rfl
structure RO (W:World) (p z g:Nat) (x:Opr) (r:Rd) (w:World):Prop where
 rd:RfAt w p r
 op:Blk w g 48 x
 zr:Blk w z 48 (aK 0)
 chg:Chg (λk=>k=p) W w
theorem RO.to_ (h:RO W p z g x r w) (t:RfTo p w w1 r1) (h1:z≠p) (h2:g≠p):RO W p z g x r1 w1:=
 ⟨t.blk,t.keep h.op h2,t.keep h.zr h1,h.chg.trans t.chg⟩
theorem RO.set (h:RO W p z g x r w) (j:Nat) (v:Value) (x':Opr) (hc:(#[.int .u8 x.kind,.int .i64 x.user,.int .i64 x.rect.c1,.int .i64 x.rect.r1,.int .i64 x.rect.c2,.int .i64 x.rect.r2,str x.input,.int .u64 x.rights.rd,.int .u64 x.rights.wr,.int .u64 x.rights.ow,.int .u8 x.fns,.int .u64 x.to_,.int .i64 x.index]:Array Value).setIfInBounds j v=#[.int .u8 x'.kind,.int .i64 x'.user,.int .i64 x'.rect.c1,.int .i64 x'.rect.r1,.int .i64 x'.rect.c2,.int .i64 x'.rect.r2,str x'.input,.int .u64 x'.rights.rd,.int .u64 x'.rights.wr,.int .u64 x'.rights.ow,.int .u8 x'.fns,.int .u64 x'.to_,.int .i64 x'.index]) (hp:p≠g) (hz:z≠g) (hg:W.heap.size<=g):RO W p z g x' r (w.setCell (g,j) v):=
 ⟨Blk.far (p:=⟨g,j,none⟩) h.rd hp v,by have:=h.op.set_ j v;rw[hc] at this;exact this,Blk.far (p:=⟨g,j,none⟩) h.zr hz v,h.chg.setCell (p:=⟨g,j,none⟩) (.inr hg) v⟩
theorem zcr (r:Rd):(zbw r).2.1.length<=r.1.length:=by
 have a:=za5 r;have b:=za5 (intF r).2;have c:=za5 (intF (intF r).2).2;have d:=za5 (intF (intF (intF r).2).2).2;unfold zbw;simp only[intF] at *;omega
theorem zhg (r:Rd):(zdg r).2.1.length<=r.1.length:=by
 have a:=za5 r;have b:=za5 (u64F r).2;have c:=za5 (u64F (u64F r).2).2;unfold zdg;simp only[u64F] at *;omega
theorem zgd (r:Rd):(zcy r).2.1.length<=r.1.length:=by
 have a:=za5 r;have b:=za5 (intF r).2;unfold zcy;simp only[intF] at *;omega
theorem zez (r:Rd):(u8F r).2.1.length<=r.1.length:=by
 have a:=za5 r;unfold u8F;simp only;split
 ·simp
 exact a
theorem zhc (r:Rd):(zdv r).2.1.length<=r.1.length:=by
 have a:=zde r;unfold zdv;simp only[jp];omega
theorem zbc (r:Rd):(intF r).2.1.length<=r.1.length:=za5 r
theorem zes (r:Rd):(u64F r).2.1.length<=r.1.length:=za5 r
theorem zit (r:Rd):(oneF r).2.1.length<=r.1.length:=za5 r
theorem rf_op (p:Nat) (r:Rd) (W:World) (h:RfAt W p r) (hl:r.1.length<=1000000):
 Calls prog 78 (aP p) W λu W'=>u=.returned (.agg (cOpr (oprG r).1).toArray)/\RfTo p W W' (oprG r).2:=by
 have hlt:=h.lt;have hzp:W.heap.size≠p:=by omega
 have Z0:=Hd (je W 48 (aK 0));have T0:=Hd ((RfTo.refl h).alloc (.cells (aK 0) 48));obtain ⟨kq,hkq⟩:=jN (u8F r);obtain ⟨mq,hmq⟩:=jN (numF kq.2);have HKQ:=Hd hkq;have HMQ:=Hd hmq;have hk1:((numF r).1 % 256:Nat)=kq.1:=by rw[<- hkq];rfl
 have hk2:=zez r;rw[hkq] at hk2;have hm2:=za5 kq.2;rw[hmq] at hm2;have hm3:=zvx kq.2;rw[hmq] at hm3;have HC0:=Hd (zl0 p r);have HC1:=Hd (zgx p kq.2);rw[hkq,hk1] at HC0;rw[hmq] at HC1;clear hkq hmq h hk1;have hl0:kq.2.1.length<=1000000:=by omega
 have hl1:mq.2.1.length<=1000000:=by omega
 clear hk2 hm2;go_enter func78,ntmps78;go_wp2_with fail;refine (HC0.o _ T0.o.blk hl).mono ?_;rintro u w1 ⟨rfl,t1⟩;have hg:W.heap.size<w1.heap.size:=(t1.keep Z0.o hzp).lt;have hgp:w1.heap.size≠p:=by omega
 have HO1:=jM (RO W p W.heap.size w1.heap.size ⟨kq.1,0,⟨0,0,0,0⟩,[],⟨0,0,0⟩,0,0,0⟩ kq.2 (w1.alloc (.cells (aK kq.1) 48))) ⟨Blk.alloc t1.blk _,je w1 48 _,Blk.alloc (t1.keep Z0.o hzp) _,((T0.o.trans t1).alloc _).chg⟩;clear t1 Z0 T0;go_wp2_with fail;refine (HC1.o _ HO1.o.rd hl0).mono ?_;rintro u w2 ⟨rfl,t2⟩;have HS0:=Hd (HO1.o.to_ t2 hzp hgp);obtain ⟨R0,hR⟩:=jN mq.2;rw[hR] at HS0 hl1;have HR0:=Hd hR;clear hR t2 HO1 HC0 HC1;obtain ⟨m,hm⟩:=jN mq.1;rw[hm] at hm3 ⊢;have HM:=Hd hm;clear hm;have HB0:=Hd (u64_and m hm3 0 1 rfl (by decide));have HB1:=Hd (u64_and m hm3 1 2 rfl (by decide));have HB2:=Hd (u64_and m hm3 2 4 rfl (by decide));have HB3:=Hd (u64_and m hm3 3 8 rfl (by decide));have HB4:=Hd (u64_and m hm3 4 16 rfl (by decide));have HB5:=Hd (u64_and m hm3 5 32 rfl (by decide));have HB6:=Hd (u64_and m hm3 6 64 rfl (by decide));clear hm3;obtain ⟨y0,hy⟩:=jN (ifR (bitR m 0) 0 intF R0);have HY0:=Hd hy;have hl2:y0.2.1.length<=1000000:=by
  rw[<- hy];unfold ifR;split
  ·exact jx (zbc _) hl1
  exact hl1
 clear hy;go_upto_if 12 with (fail)
 go_cut [4] from 5 (λu4 wx=>u4=.int .u64 m/\RO W p W.heap.size w1.heap.size ⟨kq.1,y0.1,⟨0,0,0,0⟩,[],⟨0,0,0⟩,0,0,0⟩ y0.2 wx)
 case first=>
  by_cases hq:bitR m 0=true
  ·have hbit:=HB0.o.trans (jb hq);have hy:=HY0.o;rw[hq] at hy;have HC:=jM (∀w',RfAt w' p R0->R0.1.length<=1000000->Calls prog 153 (aP p) w' λu W'=>u=.returned (.int .i64 (intF R0).1)/\RfTo p w' W' (intF R0).2) (λw'=>zfz p R0 w');rw[show intF R0=y0 from hy] at HC;clear hy hq;go_wp2_with fail;refine (HC.o _ HS0.o.rd hl1).mono ?_;rintro u w4 ⟨rfl,t4⟩;have HS4:=Hd (HS0.o.to_ t4 hzp hgp);have hg4:=HS4.o.op.lt;have c1:=HS4.o.op.cell 1;have f1:w4.frozen? (w1,1)=false:=HS4.o.op.frozen 1;have HS5:=jM (RO W p W.heap.size w1.heap.size ⟨kq.1,y0.1,⟨0,0,0,0⟩,[],⟨0,0,0⟩,0,0,0⟩ y0.2 _) (HS4.o.set 1 (.int .i64 y0.1) ⟨kq.1,y0.1,⟨0,0,0,0⟩,[],⟨0,0,0⟩,0,0,0⟩ rfl hgp.symm (by omega) (by omega));clear t4 HC;go_wp2;go_meet;exact ⟨rfl,HS5.o⟩
  have hbit:=HB0.o.trans (ja hq);have hq':bitR m 0=false:=by simpa using hq
  have hy:=HY0.o;rw[hq'] at hy;have HE:=jM (y0=(0,R0)) hy.symm;clear hy hq hq';go_wp2;go_meet;exact ⟨rfl,by rw[HE.o];exact HS0.o⟩
 obtain ⟨rfl,hs⟩:=hcut;have HS1:=Hd hs;clear HS0 hs;obtain ⟨y1,hy⟩:=jN (ifR (bitR m 1) ⟨0,0,0,0⟩ zbw y0.2);have HY1:=Hd hy;have hl3:y1.2.1.length<=1000000:=by
  rw[<- hy];unfold ifR;split
  ·exact jx (zcr _) hl2
  exact hl2
 clear hy;go_upto_if 18 with (fail)
 go_cut [4] from 5 (λu4 wx=>u4=.int .u64 m/\RO W p W.heap.size w1.heap.size ⟨kq.1,y0.1,y1.1,[],⟨0,0,0⟩,0,0,0⟩ y1.2 wx)
 case first=>
  by_cases hq:bitR m 1=true;rotate_left
  ·have hbit:=HB1.o.trans (ja hq);have hq':bitR m 1=false:=by simpa using hq
   have hy:=HY1.o;rw[hq'] at hy;have HE:=jM (y1=(⟨0,0,0,0⟩,y0.2)) hy.symm;clear hy hq hq';go_wp2;go_meet;exact ⟨rfl,by rw[HE.o];exact HS1.o⟩
  have hbit:=HB1.o.trans (jb hq);have hy:=HY1.o;rw[hq] at hy;have HC:=jM (∀w',RfAt w' p y0.2->y0.2.1.length<=1000000->Calls prog 156 (aP p) w' λu W'=>u=.returned (.agg #[.int .i64 (zbw y0.2).1.c1,.int .i64 (zbw y0.2).1.r1,.int .i64 (zbw y0.2).1.c2,.int .i64 (zbw y0.2).1.r2])/\RfTo p w' W' (zbw y0.2).2) (λw'=>zva p y0.2 w');rw[show zbw y0.2=y1 from hy] at HC;clear hy hq;go_wp2_with fail;refine (HC.o _ HS1.o.rd hl2).mono ?_;rintro u w4 ⟨rfl,t4⟩;have HS4:=Hd (HS1.o.to_ t4 hzp hgp);have hg4:=HS4.o.op.lt;have c2:=HS4.o.op.cell 2;have f2:w4.frozen? (w1,2)=false:=HS4.o.op.frozen 2;have c3:=HS4.o.op.cell 3;have f3:w4.frozen? (w1,3)=false:=HS4.o.op.frozen 3;have c4:=HS4.o.op.cell 4;have f4:w4.frozen? (w1,4)=false:=HS4.o.op.frozen 4;have c5:=HS4.o.op.cell 5;have f5:w4.frozen? (w1,5)=false:=HS4.o.op.frozen 5;have HS5:=jM (RO W p W.heap.size w1.heap.size ⟨kq.1,y0.1,y1.1,[],⟨0,0,0⟩,0,0,0⟩ y1.2 _) ((((HS4.o.set 2 (.int .i64 y1.1.c1) ⟨kq.1,y0.1,⟨y1.1.c1,0,0,0⟩,[],⟨0,0,0⟩,0,0,0⟩ rfl hgp.symm (by omega) (by omega)).set 3 (.int .i64 y1.1.r1) ⟨kq.1,y0.1,⟨y1.1.c1,y1.1.r1,0,0⟩,[],⟨0,0,0⟩,0,0,0⟩ rfl hgp.symm (by omega) (by omega)).set 4 (.int .i64 y1.1.c2) ⟨kq.1,y0.1,⟨y1.1.c1,y1.1.r1,y1.1.c2,0⟩,[],⟨0,0,0⟩,0,0,0⟩ rfl hgp.symm (by omega) (by omega)).set 5 (.int .i64 y1.1.r2) ⟨kq.1,y0.1,⟨y1.1.c1,y1.1.r1,y1.1.c2,y1.1.r2⟩,[],⟨0,0,0⟩,0,0,0⟩ rfl hgp.symm (by omega) (by omega));clear t4 HC;go_wp2;go_meet;exact ⟨rfl,HS5.o⟩
 obtain ⟨rfl,hs⟩:=hcut;have HS2:=Hd hs;clear HS1 hs;obtain ⟨y2,hy⟩:=jN (ifR (bitR m 2) [] zdv y1.2);have HY2:=Hd hy;have hl4:y2.2.1.length<=1000000:=by
  rw[<- hy];unfold ifR;split
  ·exact jx (zhc _) hl3
  exact hl3
 clear hy;go_upto_if 24 with (fail)
 go_cut [4] from 5 (λu4 wx=>u4=.int .u64 m/\RO W p W.heap.size w1.heap.size ⟨kq.1,y0.1,y1.1,y2.1,⟨0,0,0⟩,0,0,0⟩ y2.2 wx)
 case first=>
  by_cases hq:bitR m 2=true
  ·have hbit:=HB2.o.trans (jb hq);have hy:=HY2.o;rw[hq] at hy;have HC:=jM (∀w',RfAt w' p y1.2->y1.2.1.length<=1000000->Calls prog 155 (aP p) w' λu W'=>u=.returned (str (zdv y1.2).1)/\RfTo p w' W' (zdv y1.2).2) (λw'=>zu9 p y1.2 w');rw[show zdv y1.2=y2 from hy] at HC;clear hy hq;go_wp2_with fail;refine (HC.o _ HS2.o.rd hl3).mono ?_;rintro u w4 ⟨rfl,t4⟩;have HS4:=Hd (HS2.o.to_ t4 hzp hgp);have hg4:=HS4.o.op.lt;have c6:=HS4.o.op.cell 6;have f6:w4.frozen? (w1,6)=false:=HS4.o.op.frozen 6;have HS5:=jM (RO W p W.heap.size w1.heap.size ⟨kq.1,y0.1,y1.1,y2.1,⟨0,0,0⟩,0,0,0⟩ y2.2 _) (HS4.o.set 6 (str y2.1) ⟨kq.1,y0.1,y1.1,y2.1,⟨0,0,0⟩,0,0,0⟩ rfl hgp.symm (by omega) (by omega));clear t4 HC;go_wp2;go_meet;exact ⟨rfl,HS5.o⟩
  have hbit:=HB2.o.trans (ja hq);have hq':bitR m 2=false:=by simpa using hq
  have hy:=HY2.o;rw[hq'] at hy;have HE:=jM (y2=([],y1.2)) hy.symm;clear hy hq hq';go_wp2;go_meet;exact ⟨rfl,by rw[HE.o];exact HS2.o⟩
 obtain ⟨rfl,hs⟩:=hcut;have HS3:=Hd hs;clear HS2 hs;obtain ⟨y3,hy⟩:=jN (ifR (bitR m 3) ⟨0,0,0⟩ zdg y2.2);have HY3:=Hd hy;have hl5:y3.2.1.length<=1000000:=by
  rw[<- hy];unfold ifR;split
  ·exact jx (zhg _) hl4
  exact hl4
 clear hy;go_upto_if 30 with (fail)
 go_cut [4] from 5 (λu4 wx=>u4=.int .u64 m/\RO W p W.heap.size w1.heap.size ⟨kq.1,y0.1,y1.1,y2.1,y3.1,0,0,0⟩ y3.2 wx)
 case first=>
  by_cases hq:bitR m 3=true
  ·have hbit:=HB3.o.trans (jb hq);have hy:=HY3.o;rw[hq] at hy;have HC:=jM (∀w',RfAt w' p y2.2->y2.2.1.length<=1000000->Calls prog 157 (aP p) w' λu W'=>u=.returned (.agg #[.int .u64 (zdg y2.2).1.rd,.int .u64 (zdg y2.2).1.wr,.int .u64 (zdg y2.2).1.ow])/\RfTo p w' W' (zdg y2.2).2) (λw'=>znj p y2.2 w');rw[show zdg y2.2=y3 from hy] at HC;clear hy hq;go_wp2_with fail;refine (HC.o _ HS3.o.rd hl4).mono ?_;rintro u w4 ⟨rfl,t4⟩;have HS4:=Hd (HS3.o.to_ t4 hzp hgp);have hg4:=HS4.o.op.lt;have c7:=HS4.o.op.cell 7;have f7:w4.frozen? (w1,7)=false:=HS4.o.op.frozen 7;have c8:=HS4.o.op.cell 8;have f8:w4.frozen? (w1,8)=false:=HS4.o.op.frozen 8;have c9:=HS4.o.op.cell 9;have f9:w4.frozen? (w1,9)=false:=HS4.o.op.frozen 9;have HS5:=jM (RO W p W.heap.size w1.heap.size ⟨kq.1,y0.1,y1.1,y2.1,y3.1,0,0,0⟩ y3.2 _) (((HS4.o.set 7 (.int .u64 y3.1.rd) ⟨kq.1,y0.1,y1.1,y2.1,⟨y3.1.rd,0,0⟩,0,0,0⟩ rfl hgp.symm (by omega) (by omega)).set 8 (.int .u64 y3.1.wr) ⟨kq.1,y0.1,y1.1,y2.1,⟨y3.1.rd,y3.1.wr,0⟩,0,0,0⟩ rfl hgp.symm (by omega) (by omega)).set 9 (.int .u64 y3.1.ow) ⟨kq.1,y0.1,y1.1,y2.1,⟨y3.1.rd,y3.1.wr,y3.1.ow⟩,0,0,0⟩ rfl hgp.symm (by omega) (by omega));clear t4 HC;go_wp2;go_meet;exact ⟨rfl,HS5.o⟩
  have hbit:=HB3.o.trans (ja hq);have hq':bitR m 3=false:=by simpa using hq
  have hy:=HY3.o;rw[hq'] at hy;have HE:=jM (y3=(⟨0,0,0⟩,y2.2)) hy.symm;clear hy hq hq';go_wp2;go_meet;exact ⟨rfl,by rw[HE.o];exact HS3.o⟩
 obtain ⟨rfl,hs⟩:=hcut;have HS4:=Hd hs;clear HS3 hs;obtain ⟨y4,hy⟩:=jN (ifR (bitR m 4) 0 u8F y3.2);have HY4:=Hd hy;have hl6:y4.2.1.length<=1000000:=by
  rw[<- hy];unfold ifR;split
  ·exact jx (zez _) hl5
  exact hl5
 clear hy;go_upto_if 36 with (fail)
 go_cut [4] from 5 (λu4 wx=>u4=.int .u64 m/\RO W p W.heap.size w1.heap.size ⟨kq.1,y0.1,y1.1,y2.1,y3.1,y4.1,0,0⟩ y4.2 wx)
 case first=>
  by_cases hq:bitR m 4=true
  ·have hbit:=HB4.o.trans (jb hq);have hy:=HY4.o;rw[hq] at hy;have HC:=jM (∀w',RfAt w' p y3.2->y3.2.1.length<=1000000->Calls prog 158 (aP p) w' λu W'=>u=.returned (.int .u8 (u8F y3.2).1)/\RfTo p w' W' (u8F y3.2).2) (λw'=>zl0 p y3.2 w');rw[show u8F y3.2=y4 from hy] at HC;clear hy hq;go_wp2_with fail;refine (HC.o _ HS4.o.rd hl5).mono ?_;rintro u w4 ⟨rfl,t4⟩;have HS4:=Hd (HS4.o.to_ t4 hzp hgp);have hg4:=HS4.o.op.lt;have c10:=HS4.o.op.cell 10;have f10:w4.frozen? (w1,10)=false:=HS4.o.op.frozen 10;have HS5:=jM (RO W p W.heap.size w1.heap.size ⟨kq.1,y0.1,y1.1,y2.1,y3.1,y4.1,0,0⟩ y4.2 _) (HS4.o.set 10 (.int .u8 y4.1) ⟨kq.1,y0.1,y1.1,y2.1,y3.1,y4.1,0,0⟩ rfl hgp.symm (by omega) (by omega));clear t4 HC;go_wp2;go_meet;exact ⟨rfl,HS5.o⟩
  have hbit:=HB4.o.trans (ja hq);have hq':bitR m 4=false:=by simpa using hq
  have hy:=HY4.o;rw[hq'] at hy;have HE:=jM (y4=(0,y3.2)) hy.symm;clear hy hq hq';go_wp2;go_meet;exact ⟨rfl,by rw[HE.o];exact HS4.o⟩
 obtain ⟨rfl,hs⟩:=hcut;have HS5:=Hd hs;clear HS4 hs;obtain ⟨y5,hy⟩:=jN (ifR (bitR m 5) 0 u64F y4.2);have HY5:=Hd hy;have hl7:y5.2.1.length<=1000000:=by
  rw[<- hy];unfold ifR;split
  ·exact jx (zes _) hl6
  exact hl6
 clear hy;go_upto_if 42 with (fail)
 go_cut [4] from 5 (λu4 wx=>u4=.int .u64 m/\RO W p W.heap.size w1.heap.size ⟨kq.1,y0.1,y1.1,y2.1,y3.1,y4.1,y5.1,0⟩ y5.2 wx)
 case first=>
  by_cases hq:bitR m 5=true
  ·have hbit:=HB5.o.trans (jb hq);have hy:=HY5.o;rw[hq] at hy;have HC:=jM (∀w',RfAt w' p y4.2->y4.2.1.length<=1000000->Calls prog 159 (aP p) w' λu W'=>u=.returned (.int .u64 (u64F y4.2).1)/\RfTo p w' W' (u64F y4.2).2) (λw'=>zgx p y4.2 w');rw[show u64F y4.2=y5 from hy] at HC;clear hy hq;go_wp2_with fail;refine (HC.o _ HS5.o.rd hl6).mono ?_;rintro u w4 ⟨rfl,t4⟩;have HS4:=Hd (HS5.o.to_ t4 hzp hgp);have hg4:=HS4.o.op.lt;have c11:=HS4.o.op.cell 11;have f11:w4.frozen? (w1,11)=false:=HS4.o.op.frozen 11;have HS5:=jM (RO W p W.heap.size w1.heap.size ⟨kq.1,y0.1,y1.1,y2.1,y3.1,y4.1,y5.1,0⟩ y5.2 _) (HS4.o.set 11 (.int .u64 y5.1) ⟨kq.1,y0.1,y1.1,y2.1,y3.1,y4.1,y5.1,0⟩ rfl hgp.symm (by omega) (by omega));clear t4 HC;go_wp2;go_meet;exact ⟨rfl,HS5.o⟩
  have hbit:=HB5.o.trans (ja hq);have hq':bitR m 5=false:=by simpa using hq
  have hy:=HY5.o;rw[hq'] at hy;have HE:=jM (y5=(0,y4.2)) hy.symm;clear hy hq hq';go_wp2;go_meet;exact ⟨rfl,by rw[HE.o];exact HS5.o⟩
 obtain ⟨rfl,hs⟩:=hcut;have HS6:=Hd hs;clear HS5 hs;obtain ⟨y6,hy⟩:=jN (ifR (bitR m 6) 0 intF y5.2);have HY6:=Hd hy;have hl8:y6.2.1.length<=1000000:=by
  rw[<- hy];unfold ifR;split
  ·exact jx (zbc _) hl7
  exact hl7
 clear hy;go_upto_if 48 with (fail)
 go_cut [4] from 5 (λu4 wx=>u4=.int .u64 m/\RO W p W.heap.size w1.heap.size ⟨kq.1,y0.1,y1.1,y2.1,y3.1,y4.1,y5.1,y6.1⟩ y6.2 wx)
 case first=>
  by_cases hq:bitR m 6=true
  ·have hbit:=HB6.o.trans (jb hq);have hy:=HY6.o;rw[hq] at hy;have HC:=jM (∀w',RfAt w' p y5.2->y5.2.1.length<=1000000->Calls prog 153 (aP p) w' λu W'=>u=.returned (.int .i64 (intF y5.2).1)/\RfTo p w' W' (intF y5.2).2) (λw'=>zfz p y5.2 w');rw[show intF y5.2=y6 from hy] at HC;clear hy hq;go_wp2_with fail;refine (HC.o _ HS6.o.rd hl7).mono ?_;rintro u w4 ⟨rfl,t4⟩;have HS4:=Hd (HS6.o.to_ t4 hzp hgp);have hg4:=HS4.o.op.lt;have c12:=HS4.o.op.cell 12;have f12:w4.frozen? (w1,12)=false:=HS4.o.op.frozen 12;have HS5:=jM (RO W p W.heap.size w1.heap.size ⟨kq.1,y0.1,y1.1,y2.1,y3.1,y4.1,y5.1,y6.1⟩ y6.2 _) (HS4.o.set 12 (.int .i64 y6.1) ⟨kq.1,y0.1,y1.1,y2.1,y3.1,y4.1,y5.1,y6.1⟩ rfl hgp.symm (by omega) (by omega));clear t4 HC;go_wp2;go_meet;exact ⟨rfl,HS5.o⟩
  have hbit:=HB6.o.trans (ja hq);have hq':bitR m 6=false:=by simpa using hq
  have hy:=HY6.o;rw[hq'] at hy;have HE:=jM (y6=(0,y5.2)) hy.symm;clear hy hq hq';go_wp2;go_meet;exact ⟨rfl,by rw[HE.o];exact HS6.o⟩
 obtain ⟨rfl,hs⟩:=hcut;have HS7:=Hd hs;clear HS6 hs;have c0:=HS7.o.op.cell 0;have z0:=HS7.o.zr.cell 0;have c1:=HS7.o.op.cell 1;have z1:=HS7.o.zr.cell 1;have c2:=HS7.o.op.cell 2;have z2:=HS7.o.zr.cell 2;have c3:=HS7.o.op.cell 3;have z3:=HS7.o.zr.cell 3;have c4:=HS7.o.op.cell 4;have z4:=HS7.o.zr.cell 4;have c5:=HS7.o.op.cell 5;have z5:=HS7.o.zr.cell 5;have c6:=HS7.o.op.cell 6;have z6:=HS7.o.zr.cell 6;have c7:=HS7.o.op.cell 7;have z7:=HS7.o.zr.cell 7;have c8:=HS7.o.op.cell 8;have z8:=HS7.o.zr.cell 8;have c9:=HS7.o.op.cell 9;have z9:=HS7.o.zr.cell 9;have c10:=HS7.o.op.cell 10;have z10:=HS7.o.zr.cell 10;have c11:=HS7.o.op.cell 11;have z11:=HS7.o.zr.cell 11;have c12:=HS7.o.op.cell 12;have z12:=HS7.o.zr.cell 12;have zf:=λo=>HS7.o.zr.frozen o;have hlz:=HS7.o.zr.lt;have hlg:=HS7.o.op.lt;have ZF:=Hd (((((((((((((HS7.o.zr.set_ 0 (.int .u8 kq.1)).set_ 1 (.int .i64 y0.1)).set_ 2 (.int .i64 y1.1.c1)).set_ 3 (.int .i64 y1.1.r1)).set_ 4 (.int .i64 y1.1.c2)).set_ 5 (.int .i64 y1.1.r2)).set_ 6 (str y2.1)).set_ 7 (.int .u64 y3.1.rd)).set_ 8 (.int .u64 y3.1.wr)).set_ 9 (.int .u64 y3.1.ow)).set_ 10 (.int .u8 y4.1)).set_ 11 (.int .u64 y5.1)).set_ 12 (.int .i64 y6.1));have TF:=Hd (RfTo.set (RfTo.set (RfTo.set (RfTo.set (RfTo.set (RfTo.set (RfTo.set (RfTo.set (RfTo.set (RfTo.set (RfTo.set (RfTo.set (RfTo.set (⟨HS7.o.rd,HS7.o.chg⟩:RfTo p W wc y6.2) jy hzp.symm 0 (.int .u8 kq.1)) jy hzp.symm 1 (.int .i64 y0.1)) jy hzp.symm 2 (.int .i64 y1.1.c1)) jy hzp.symm 3 (.int .i64 y1.1.r1)) jy hzp.symm 4 (.int .i64 y1.1.c2)) jy hzp.symm 5 (.int .i64 y1.1.r2)) jy hzp.symm 6 (str y2.1)) jy hzp.symm 7 (.int .u64 y3.1.rd)) jy hzp.symm 8 (.int .u64 y3.1.wr)) jy hzp.symm 9 (.int .u64 y3.1.ow)) jy hzp.symm 10 (.int .u8 y4.1)) jy hzp.symm 11 (.int .u64 y5.1)) jy hzp.symm 12 (.int .i64 y6.1));have HE:=Hd (show oprG r=(⟨kq.1,y0.1,y1.1,y2.1,y3.1,y4.1,y5.1,y6.1⟩,y6.2) by
  unfold oprG;simp only[HKQ.o,HMQ.o,HM.o,HR0.o,HY0.o,HY1.o,HY2.o,HY3.o,HY4.o,HY5.o,HY6.o])
 go_wp2;obtain ⟨d0,d1,d2,d3,d4,d5⟩:=ZF.o.c6 0 1 2 3 4 5;obtain ⟨d6,d7,d8,d9⟩:=ZF.o.c4 6 7 8 9;obtain ⟨d10,d11,d12⟩:=ZF.o.c3 10 11 12;clear c0 z0 c1 z1 c2 z2 c3 z3 c4 z4 c5 z5 c6 z6 c7 z7 c8 z8 c9 z9 c10 z10 c11 z11 c12 z12 zf;refine jO results78 (v:=.agg (aJ kq.1 y0.1 y1.1.c1 y1.1.r1 y1.1.c2 y1.1.r2 y2.1 y3.1.rd y3.1.wr y3.1.ow y4.1 y5.1 y6.1)) ?_ (by simp (maxDischargeDepth:=9) [jQ,go_sem,d0,d1,d2,d3,d4,d5,d6,d7,d8,d9,d10,d11,d12]);exact ⟨by rw[HE.o];rfl,by rw[HE.o];exact TF.o⟩
end Go.Proofs.YtamcgggmfghljaaGreatDoor
