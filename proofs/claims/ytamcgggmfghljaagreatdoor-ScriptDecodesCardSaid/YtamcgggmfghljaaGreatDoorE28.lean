/- walk -/
import Derived.Test.YtamcgggmfghljaaGreatDoorE27
import Derived.Test.YtamcgggmfghljaaGreatDoorE43
set_option maxRecDepth 100000
set_option maxHeartbeats 8000000
open Go.Proofs.Tryz
namespace Go.Proofs.YtamcgggmfghljaaGreatDoor
open Go.RowKit
variable {b b1:Bool} {n:Int} {k p:Nat} {r:Rd} {α:Type} {v v':Value} {W W1 w':World}
theorem zx1 (n:Nat):I64 (zaj n):=by unfold I64 zaj;omega
theorem z23 (r:Rd):(numR r).1<18446744073709551616:=by
 obtain ⟨l,b⟩:=r
 cases l with
 | nil=>simp[numR]
 | cons c t=>rw[zf3];exact zif _ 0 (by decide)
theorem zco (r:Rd):I64 (intR r).1:=zx1 _
theorem zg0 (r:Rd):U64 (u64R r).1:=⟨by unfold u64R;dsimp only;omega,by have:=z23 r;unfold u64R;dsimp only;omega⟩
theorem zm3 (r:Rd):U8 (u8R r).1:=⟨by unfold u8R;dsimp only;omega,by unfold u8R;dsimp only;omega⟩
theorem znu (r:Rd):OkRef (zbz r).1:=⟨zco _,zco _⟩
theorem zhp (r:Rd):OkRct (zbr r).1:=⟨zco _,zco _,zco _,zco _⟩
theorem zqh (r:Rd):OkRts (zd5 r).1:=⟨zg0 _,zg0 _,zg0 _⟩
theorem zt3 (n:Int) (r:Rd):(za2 n r).1.length+(za2 n r).2.1.length<=r.1.length:=by
 unfold za2;split
 ·simp
 simp only[List.length_take,jp];omega
theorem zm9 (r:Rd):(zdu r).1.length+(zdu r).2.1.length<=r.1.length:=by
 have h1:=zt3 (intR r).1 (intR r).2;have h2:(intR r).2.1.length<=r.1.length:=zac r;unfold zdu;omega
theorem zpy (r:Rd) (h:r.1.length<=1000000):OkEnt (entR r).1/\(entR r).1.input.length<=1000000/\(entB (entR r).1).length+(entR r).2.1.length<=200+r.1.length:=by
 obtain ⟨q,hq⟩:=jN (zdu (zbz r).2);have h1:=zm9 (zbz r).2;have h2:=ze9 r;rw[hq] at h1;rw[zpz,hq];have m1:=zab (zbz r).1.col;have m2:=zab (zbz r).1.row;have m3:=zab q.1.length;refine ⟨⟨znu r,?_⟩,?_,?_⟩
 ·show q.1.length<=_;omega
 ·show q.1.length<=_;omega
 simp only[entB,zb0,zcv,jH];omega
theorem z17 (r:Rd):OkRul (rulR r).1/\(rulB (rulR r).1).length+(rulR r).2.1.length<=200+r.1.length:=by
 refine ⟨⟨zhp _,zqh _⟩,?_⟩;have h:=zin r;obtain ⟨q,hq⟩:=jN (rulR r);rw[hq] at h ⊢;have m1:=zab q.1.rect.c1;have m2:=zab q.1.rect.r1;have m3:=zab q.1.rect.c2;have m4:=zab q.1.rect.r2;have m5:=zab q.1.rights.rd;have m6:=zab q.1.rights.wr;have m7:=zab q.1.rights.ow;simp only[rulB,za7,zce,jH];omega
theorem zrm (b:Bool):(zh7 b).length<=9:=zab _
theorem z3k (r:Rd):OkGrt (grtR r).1/\(grtB (grtR r).1).length+(grtR r).2.1.length<=200+r.1.length:=by
 refine ⟨⟨zhp _,zm3 _,zg0 _,zco _⟩,?_⟩;have h:=ziw r;obtain ⟨q,hq⟩:=jN (grtR r);rw[hq] at h ⊢;have m1:=zab q.1.rect.c1;have m2:=zab q.1.rect.r1;have m3:=zab q.1.rect.c2;have m4:=zab q.1.rect.r2;have m5:=zab q.1.fns;have m6:=zab q.1.to_;have m7:=zab q.1.by_;have m8:=zrm q.1.revoked;simp only[grtB,za7,jH];omega
theorem z3t (r:Rd):OkEvt (evtR r).1/\(evtB (evtR r).1).length+(evtR r).2.1.length<=200+r.1.length:=by
 refine ⟨⟨zco _,zco _,zm3 _,zhp _,zg0 _⟩,?_⟩;have h:=ziz r;obtain ⟨q,hq⟩:=jN (evtR r);rw[hq] at h ⊢;have m1:=zab q.1.rect.c1;have m2:=zab q.1.rect.r1;have m3:=zab q.1.rect.c2;have m4:=zab q.1.rect.r2;have m5:=zab q.1.step;have m6:=zab q.1.to_;have m7:=zab q.1.user;have m8:=zrm q.1.done_;have m9:=zab q.1.kind;simp only[evtB,za7,jH];omega
theorem z2g (r:Rd):OkRls (rlsR r).1/\(rlsB (rlsR r).1).length+(rlsR r).2.1.length<=200+r.1.length:=by
 refine ⟨⟨zco _,znu _,zco _,zm3 _,zhp _,zco _,zg0 _⟩,?_⟩;have h:=zio r;obtain ⟨q,hq⟩:=jN (rlsR r);rw[hq] at h ⊢;have m1:=zab q.1.rect.c1;have m2:=zab q.1.rect.r1;have m3:=zab q.1.rect.c2;have m4:=zab q.1.rect.r2;have m5:=zab q.1.step;have m6:=zab q.1.to_;have m7:=zab q.1.at_.col;have m8:=zab q.1.at_.row;have m9:=zab q.1.node;have m10:=zab q.1.fn;have m11:=zab q.1.grant;simp only[rlsB,za7,zb0,jH];omega
structure OkSt (L:Nat) (s:Opr × Rd):Prop where
 ok:OkOpr s.1
 sum:s.1.input.length+s.2.1.length<=L
theorem nxO_ok (m k L:Nat) (x:Opr) (r:Rd) (hL:L<=1000000) (ok:OkOpr x) (hs:x.input.length+r.1.length<=L) (hk:k=2->x.input=[]):OkSt L (nxO m k (x,r)):=by
 obtain ⟨x1,x2,x3,x4,x5,x6,x7,x8⟩:=ok
 match k,hk with
 | 0,hk=>cases hb:bitR m 0 with
  | false=>rw[zn5 hb];exact ⟨⟨x1,x2,x3,x4,x5,x6,x7,x8⟩,hs⟩
  | true=>rw[zq6 hb];have h1:=zco r;have h2:(intR r).2.1.length<=r.1.length:=zac r;obtain ⟨q,hq⟩:=jN (intR r);rw[hq] at h1 h2 ⊢;exact ⟨⟨x1,h1,x3,x4,x5,x6,x7,x8⟩,by show x.input.length+q.2.1.length<=L;omega⟩
 | 1,hk=>cases hb:bitR m 1 with
  | false=>rw[zn4 hb];exact ⟨⟨x1,x2,x3,x4,x5,x6,x7,x8⟩,hs⟩
  | true=>rw[zq5 hb];have h1:=zhp r;have h2:(zbr r).2.1.length<=r.1.length:=zcq r;obtain ⟨q,hq⟩:=jN (zbr r);rw[hq] at h1 h2 ⊢;exact ⟨⟨x1,x2,h1,x4,x5,x6,x7,x8⟩,by show x.input.length+q.2.1.length<=L;omega⟩
 | 2,hk=>cases hb:bitR m 2 with
  | false=>rw[zn3 hb];exact ⟨⟨x1,x2,x3,x4,x5,x6,x7,x8⟩,hs⟩
  | true=>
   rw[zq4 hb];have h2:=zm9 r;obtain ⟨q,hq⟩:=jN (zdu r);rw[hq] at h2 ⊢;have h1:zp6 q.1:=by unfold zp6;omega
   exact ⟨⟨x1,x2,x3,h1,x5,x6,x7,x8⟩,by show q.1.length+q.2.1.length<=L;omega⟩
 | 3,hk=>cases hb:bitR m 3 with
  | false=>rw[zn2 hb];exact ⟨⟨x1,x2,x3,x4,x5,x6,x7,x8⟩,hs⟩
  | true=>rw[zq3 hb];have h1:=zqh r;have h2:(zd5 r).2.1.length<=r.1.length:=zhf r;obtain ⟨q,hq⟩:=jN (zd5 r);rw[hq] at h1 h2 ⊢;exact ⟨⟨x1,x2,x3,x4,h1,x6,x7,x8⟩,by show x.input.length+q.2.1.length<=L;omega⟩
 | 4,hk=>cases hb:bitR m 4 with
  | false=>rw[zn1 hb];exact ⟨⟨x1,x2,x3,x4,x5,x6,x7,x8⟩,hs⟩
  | true=>rw[zq2 hb];have h1:=zm3 r;have h2:(u8R r).2.1.length<=r.1.length:=zac r;obtain ⟨q,hq⟩:=jN (u8R r);rw[hq] at h1 h2 ⊢;exact ⟨⟨x1,x2,x3,x4,x5,h1,x7,x8⟩,by show x.input.length+q.2.1.length<=L;omega⟩
 | 5,hk=>cases hb:bitR m 5 with
  | false=>rw[zn0 hb];exact ⟨⟨x1,x2,x3,x4,x5,x6,x7,x8⟩,hs⟩
  | true=>rw[zq1 hb];have h1:=zg0 r;have h2:(u64R r).2.1.length<=r.1.length:=zac r;obtain ⟨q,hq⟩:=jN (u64R r);rw[hq] at h1 h2 ⊢;exact ⟨⟨x1,x2,x3,x4,x5,x6,h1,x8⟩,by show x.input.length+q.2.1.length<=L;omega⟩
 | 6,hk=>cases hb:bitR m 6 with
  | false=>rw[znz hb];exact ⟨⟨x1,x2,x3,x4,x5,x6,x7,x8⟩,hs⟩
  | true=>rw[zq0 hb];have h1:=zco r;have h2:(intR r).2.1.length<=r.1.length:=zac r;obtain ⟨q,hq⟩:=jN (intR r);rw[hq] at h1 h2 ⊢;exact ⟨⟨x1,x2,x3,x4,x5,x6,x7,h1⟩,by show x.input.length+q.2.1.length<=L;omega⟩
 | k+7,_=>exact ⟨⟨x1,x2,x3,x4,x5,x6,x7,x8⟩,hs⟩
theorem zi:I64 0:=by constructor <;> decide
theorem zu:U64 0:=by constructor <;> decide
theorem z8:U8 0:=by constructor <;> decide
theorem z0z (kd:Int) (hk:U8 kd) (m:Nat) (r:Rd) (h:r.1.length<=1000000):∀k,OkSt r.1.length (stO kd m r k)
 | 0=>⟨⟨hk,zi,⟨zi,zi,zi,zi⟩,Nat.zero_le _,⟨zu,zu,zu⟩,z8,zu,zi⟩,by show 0+r.1.length<=_;omega⟩
 | k+1=>by
  have ih:=z0z kd hk m r h k;have h2:k=2->(stO kd m r k).1.input=[]:=λe=>by subst e;rfl
  show OkSt _ (nxO m k (stO kd m r k));generalize stO kd m r k=s at ih h2 ⊢;obtain ⟨x,r'⟩:=s;exact nxO_ok m k _ x r' h ih.ok ih.sum h2
theorem zph (r:Rd) (h:r.1.length<=1000000):OkOpr (oprR r).1/\(oprR r).1.input.length<=1000000/\(oprB (oprR r).1).length+(oprR r).2.1.length<=200+r.1.length:=by
 have h1:=zac r;have h2:=zac (numR r).2;have h0:=z0z (u8R r).1 (zm3 r) (numR (u8R r).2).1 (numR (u8R r).2).2 (jx h2 (jx h1 h)) 7;rw[<- zpg] at h0;have hs:=h0.sum;have e:(numR (u8R r).2).2.1.length<=r.1.length:=jx h2 h1;refine ⟨h0.ok,by omega,?_⟩;obtain ⟨q,hq⟩:=jN (oprR r);rw[hq] at h0 hs ⊢;have hq:∀(b:Bool) (l:zaa),(if b=true then l else []).length<=l.length:=λb l=>by cases b <;> simp
 have g1:=zab q.1.kind;have g2:=zab (zdh (oprF q.1));have m1:=zab q.1.user;have m2:=zab q.1.rect.c1;have m3:=zab q.1.rect.r1;have m4:=zab q.1.rect.c2;have m5:=zab q.1.rect.r2;have m6:=zab q.1.input.length;have m7:=zab q.1.rights.rd;have m8:=zab q.1.rights.wr;have m9:=zab q.1.rights.ow;have m10:=zab q.1.fns;have m11:=zab q.1.to_;have m12:=zab q.1.index;have k1:=hq (decide (q.1.user≠0)) (numI q.1.user);have k2:=hq (decide (q.1.rect≠⟨0,0,0,0⟩)) (za7 q.1.rect);have k3:=hq (decide (q.1.input≠ [])) (zcv q.1.input);have k4:=hq (decide (q.1.rights≠⟨0,0,0⟩)) (zce q.1.rights);have k5:=hq (decide (q.1.fns≠0)) (numI q.1.fns);have k6:=hq (decide (q.1.to_≠0)) (numI q.1.to_);have k7:=hq (decide (q.1.index≠0)) (numI q.1.index);have c2:(za7 q.1.rect).length<=36:=by simp only[za7,jH];omega
 have c3:(zcv q.1.input).length<=9+q.1.input.length:=by simp only[zcv,jH];omega
 have c4:(zce q.1.rights).length<=27:=by simp only[zce,jH];omega
 have hB:(oprB q.1).length<=144+q.1.input.length:=by unfold oprB;simp only[jH];unfold oprF at g2 ⊢;simp only[List.flatMap_cons,List.flatMap_nil,jH,List.length_nil];omega
 omega
theorem zra (one:Rd->α × Rd) (P:α->Prop) (f:α->zaa) (h:∀r,r.1.length<=1000000->P (one r).1/\(f (one r).1).length+(one r).2.1.length<=200+r.1.length) (hl:∀r,(one r).2.1.length<=r.1.length):
 ∀(n:Nat) (r:Rd),r.1.length<=1000000->(∀x∈(zam one n r).1,P x)/\((zam one n r).1.flatMap f).length+(zam one n r).2.1.length<=200*n+r.1.length/\(zam one n r).1.length<=n
 | 0,r,_=>⟨λx hx=>(List.not_mem_nil hx).elim,by show 0+r.1.length<=_;omega,Nat.le_refl _⟩
 | n+1,r,hr=>by
  by_cases hb:r.2=true
  ·rw[zci one _ hb];exact ⟨λx hx=>(List.not_mem_nil hx).elim,by show 0+r.1.length<=_;omega,Nat.zero_le _⟩
  obtain ⟨q,hq⟩:=jN (one r);have h1:=h r hr;have h2:=hl r;rw[hq] at h1 h2;obtain ⟨i1,i2,i3⟩:=zra one P f h hl n q.2 (jx h2 hr);rw[zcz one n (by simpa using hb) hq];obtain ⟨z,hz⟩:=jN (zam one n q.2);rw[hz] at i1 i2 i3 ⊢;refine ⟨λx hx=>?_,?_,?_⟩
  ·rcases List.mem_cons.1 hx with rfl | hx
   ·exact h1.1
   exact i1 x hx
  ·show ((q.1::z.1).flatMap f).length+z.2.1.length<=_;rw[List.flatMap_cons,jH];have:=h1.2;omega
  show (q.1::z.1).length<=_;rw[jk];omega
theorem zgh (one:Rd->α × Rd) (P:α->Prop) (f:α->zaa) (h:∀r,r.1.length<=1000000->P (one r).1/\(f (one r).1).length+(one r).2.1.length<=200+r.1.length) (hl:∀r,(one r).2.1.length<=r.1.length)
 (r:Rd) (hr:r.1.length<=65536):(∀x∈(zbk one r).1,P x)/\(zar f (zbk one r).1).length<=14000000/\(zbk one r).1.length<=65536/\(zbk one r).2.1.length<=65536:=by
 have hle:=zfm one hl r;obtain ⟨q,hq⟩:=jN (numR r);have h1:=zac r;rw[hq] at h1;obtain ⟨n,hn⟩:=jN (zaj q.1);obtain ⟨b,hb⟩:=jN (q.2.2||decide (n<0)||decide ((q.2.1.length:Int)<n));have e:=zdw one hq hn hb;have key:(∀x∈(zbk one r).1,P x)/\((zbk one r).1.flatMap f).length<=13999990/\(zbk one r).1.length<=65536:=by
  rw[e];cases b;rotate_left
  ·rw[zci one _ rfl];exact ⟨λx hx=>(List.not_mem_nil hx).elim,Nat.zero_le _,Nat.zero_le _⟩
  simp only[Bool.or_eq_false_iff,decide_eq_false_iff_not] at hb;obtain ⟨i1,i2,i3⟩:=zra one P f h hl n.toNat (q.2.1,false) (by show q.2.1.length<=_;omega);have hi:(q.2.1,false).1.length=q.2.1.length:=rfl;rw[hi] at i2;exact ⟨i1,by omega,by omega⟩
 have hnum:=zab (zbk one r).1.length;refine ⟨key.1,?_,key.2.2,jx hle hr⟩;unfold zar;rw[jH];have:=key.2.1;omega
theorem zqi (s:zaa) (hs:s.length<=65536):FitS (scpR (s,false)).1:=by
 unfold scpR;have hs0:((s,false):Rd).1.length<=65536:=hs;obtain ⟨r0,hr0⟩:=jN ((s,false):Rd);rw[hr0] at hs0 ⊢;have a0:=zco r0;have b0:(intR r0).2.1.length<=65536:=jx (zac r0) hs0;obtain ⟨q0,h0⟩:=jN (intR r0);rw[h0] at a0 b0 ⊢;dsimp only;have a1:=zgh entR (λx=>OkEnt x/\x.input.length<=1000000) entB (λr hr=>⟨⟨(zpy r hr).1,(zpy r hr).2.1⟩,(zpy r hr).2.2⟩) zmn q0.2 b0;obtain ⟨q1,h1⟩:=jN (zbk entR q0.2);rw[h1] at a1 ⊢;have a2:=zgh rulR OkRul rulB (λr _=>z17 r) zin q1.2 a1.2.2.2;obtain ⟨q2,h2⟩:=jN (zbk rulR q1.2);rw[h2] at a2 ⊢;have a3:=zgh grtR OkGrt grtB (λr _=>z3k r) ziw q2.2 a2.2.2.2;obtain ⟨q3,h3⟩:=jN (zbk grtR q2.2);rw[h3] at a3 ⊢;have a4:=zgh evtR OkEvt evtB (λr _=>z3t r) ziz q3.2 a3.2.2.2;obtain ⟨q4,h4⟩:=jN (zbk evtR q3.2);rw[h4] at a4 ⊢;have a5:=zgh rlsR OkRls rlsB (λr _=>z2g r) zio q4.2 a4.2.2.2;obtain ⟨q5,h5⟩:=jN (zbk rlsR q4.2);rw[h5] at a5 ⊢;have a6:=zco q5.2;have b6:(intR q5.2).2.1.length<=65536:=jx (zac q5.2) a5.2.2.2;obtain ⟨q6,h6⟩:=jN (intR q5.2);rw[h6] at a6 b6 ⊢;have a7:=zgh oprR (λx=>OkOpr x/\x.input.length<=1000000) oprB (λr hr=>⟨⟨(zph r hr).1,(zph r hr).2.1⟩,(zph r hr).2.2⟩) zl6 q6.2 b6;obtain ⟨q7,h7⟩:=jN (zbk oprR q6.2);rw[h7] at a7 ⊢;clear h0 h1 h2 h3 h4 h5 h6 h7 hr0;refine ⟨⟨⟨a0,λx hx=>(a1.1 x hx).1,a2.1,a3.1,a4.1,a5.1,a6,?_⟩,λx hx=>(a7.1 x hx).1,?_⟩,λx hx=>(a1.1 x hx).2,λx hx=>(a7.1 x hx).2,?_⟩
 ·exact ⟨jx a1.2.2.1 (by decide),jx a2.2.2.1 (by decide),jx a3.2.2.1 (by decide),jx a4.2.2.1 (by decide),jx a5.2.2.1 (by decide)⟩
 ·exact jx a7.2.2.1 (by decide)
 have n0:=zab q0.1;have n6:=zab q6.1;have l1:=a1.2.1;have l2:=a2.2.1;have l3:=a3.2.1;have l4:=a4.2.1;have l5:=a5.2.1;have l7:=a7.2.1;simp only[scpB,jH];omega
theorem nI0G:numI 0=[0]:=by simp[numI,numB,beB]
theorem nI1G:numI 1=[1,1]:=by simp[numI,numB,beB]
theorem nI3G:numI 3=[1,3]:=by simp[numI,numB,beB]
theorem nI4G:numI 4=[1,4]:=by simp[numI,numB,beB]
theorem nI7G:numI 7=[1,7]:=by simp[numI,numB,beB]
theorem z3d:numI 1024=[2,4,0]:=by simp[numI,numB,beB]
theorem zpo:(scpB zba).length=34:=by simp[scpB,zba,zar,entB,rulB,zb0,zcv,za7,zce,nI0G,nI1G,nI3G,nI4G,nI7G,z3d]
theorem zh4:20<(scpB zba).length/\(scpB zba).length<=65536:=by rw[zpo];exact ⟨by decide,by decide⟩
theorem zwj:scpE zba=0:=by decide+kernel
theorem zwm:encR zba=(scpB zba,0):=by
 unfold encR;rw[zwj,ja (by decide),ja (by have:=zh4.2;omega)]
theorem zwl:FitS zba where
 ok:=
  { book:=
     { users:=by constructor <;> decide
       entries:=λx hx=>by
        simp[zba] at hx;subst hx;exact ⟨⟨by constructor <;> decide,by constructor <;> decide⟩,by unfold zp6;simp⟩
       rules:=λx hx=>by
        simp[zba] at hx;subst hx;exact ⟨⟨by constructor <;> decide,by constructor <;> decide,by constructor <;> decide,by constructor <;> decide⟩,⟨by constructor <;> decide,by constructor <;> decide,by constructor <;> decide⟩⟩
       grants:=λx hx=>by simp[zba] at hx
       log:=λx hx=>by simp[zba] at hx
       releases:=λx hx=>by simp[zba] at hx
       step:=by constructor <;> decide
       lens:=by simp[zba] }
    ops:=λx hx=>by simp[zba] at hx
    len:=by simp[zba] }
 ents:=λx hx=>by
  simp[zba] at hx;subst hx;simp
 oprs:=λx hx=>by simp[zba] at hx
 size:=by have:=zh4.2;omega
theorem zpp (w:World):(convert 59 9 (.slice (some (w,0)) 11 11)).run prog (w.alloc (.cells #[.int .u8 2,.int .u8 7,.int .u8 7,.int .u8 7,.int .u8 0,.int .u8 1,.int .u8 2,.int .u8 3,.int .u8 1,.int .u8 9,.int .u8 0] 5))=.ok (str [2,7,7,7,0,1,2,3,1,9,0]) (w.alloc (.cells #[.int .u8 2,.int .u8 7,.int .u8 7,.int .u8 7,.int .u8 0,.int .u8 1,.int .u8 2,.int .u8 3,.int .u8 1,.int .u8 9,.int .u8 0] 5)):=by
 have hb:Blk (w.alloc (.cells #[.int .u8 2,.int .u8 7,.int .u8 7,.int .u8 7,.int .u8 0,.int .u8 1,.int .u8 2,.int .u8 3,.int .u8 1,.int .u8 9,.int .u8 0] 5)) w.heap.size 5 #[.int .u8 2,.int .u8 7,.int .u8 7,.int .u8 7,.int .u8 0,.int .u8 1,.int .u8 2,.int .u8 3,.int .u8 1,.int .u8 9,.int .u8 0]:=je w _ _;refine run_convert_bytes_back (P:=prog) _ 59 9 5 ⟨w.heap.size,0,none⟩ 11 [2,7,7,7,0,1,2,3,1,9,0] underlying59 underlying5 underlying9 (λj hj=>?_);rw[zhv,hb.cell j]
 match j,hj with
 | 0,_=>rfl
 | 1,_=>rfl
 | 2,_=>rfl
 | 3,_=>rfl
 | 4,_=>rfl
 | 5,_=>rfl
 | 6,_=>rfl
 | 7,_=>rfl
 | 8,_=>rfl
 | 9,_=>rfl
 | 10,_=>rfl
 | j+11,h=>simp at h;omega
theorem zwk (w:World) (hw:Words w):
 Calls prog 10 #[] w λu w'=>u=.returned (.bool true)/\Below w w w':=by
 have HW:=Hd hw;clear hw;have kc:=zpp;have kl:(20:Int)<((scpB zba).length:Int):=by have:=zh4.1;omega
 go_enter func10,ntmps10;go_wp2_with fail;refine (ztn _).mono ?_;rintro u w1 ⟨ve,vr,vg,vl,vx,vo,rfl,hb,hb1⟩;obtain ⟨Ae,ce,rfl,_⟩:=id hb.book.ents;obtain ⟨Ar,cr,rfl,_⟩:=id hb.book.ruls;obtain ⟨Ag,cg,rfl,_⟩:=id hb.book.grts;obtain ⟨Al,cl,rfl,_⟩:=id hb.book.evts;obtain ⟨Ax,cx,rfl,_⟩:=id hb.book.rlss;obtain ⟨Ao,co,rfl,_⟩:=id hb.ops;have HB:=Hd hb;have HB1:=jM (Below w w w1) (nxt hb1);obtain ⟨be,oe,rfl,hbe,re⟩:=hb.book.ents.get 3 zct (i:=0) rfl;have hwb:Words w1:=(HW.o.below (by go_grown)).below hb1;have KS:=Hd (je w1 31 #[zba.book.users,.slice (some (be,oe)) zba.book.entries.length ce,.slice Ar zba.book.rules.length cr,.slice Ag zba.book.grants.length cg,.slice Al zba.book.log.length cl,.slice Ax zba.book.releases.length cx,zba.book.step,.slice Ao zba.ops.length co]);have RE:=Hd re;have HWB:=Hd hwb;have HBE:=Hd hbe;clear hb hb1 kc re hwb hbe;go_wp2_with fail;refine (zt0 zba _ _ _ _ _ _ w1.heap.size _ (by simp) (HB.o.below (by go_grown)) (HWB.o.below (by go_grown)) zwl).mono ?_;rintro u w2 ⟨rfl,hb2⟩;rw[zwm];have KS2:=Hd (KS.o.below_ hb2);have hb3:Below w1 w1 w2:=Below.next_ (by go_grown) hb2;have HB2:=Hd (Below.trans HB1.o (hb3.mono HB1.o.size));have e0:w2.cell? (be,oe)=some (.int .i64 3):=(hb3.cell (p:=(be,oe)) HBE.o).trans (by have:=RE.o 0 _ rfl;simpa using this);have e1:w2.cell? (be,oe+1)=some (.int .i64 4):=(hb3.cell (p:=(be,oe+1)) HBE.o).trans (by have:=RE.o 1 _ rfl;simpa using this);have e2:w2.cell? (be,oe+2)=some (str [57]):=(hb3.cell (p:=(be,oe+2)) HBE.o).trans (by have:=RE.o 2 _ rfl;simpa using this);have ku:zba.book.users=3:=rfl;have kn:(zba.book.entries.length:Int)=1:=rfl;have kn2:zba.book.entries.length=1:=rfl;obtain ⟨s0,s1⟩:=KS2.o.c2 0 1;clear hb2 hb3 KS HB1 HWB HB;go_wp2_with fail;go_ret;exact ⟨rfl,HB2.o⟩
end Go.Proofs.YtamcgggmfghljaaGreatDoor
