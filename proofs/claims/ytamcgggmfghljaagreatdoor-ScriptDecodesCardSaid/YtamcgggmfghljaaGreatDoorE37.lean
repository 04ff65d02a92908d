/- walk -/
import Derived.Test.YtamcgggmfghljaaGreatDoorE24
import Derived.Test.YtamcgggmfghljaaGreatDoorE25
set_option maxRecDepth 100000
set_option maxHeartbeats 8000000
open Go.Proofs.Tryz
namespace Go.Proofs.YtamcgggmfghljaaGreatDoor
open Go.RowKit
variable {i q r:Int} {w w':World}
theorem zt4 (a b c m:Int) (ha:0<=a/\a<18446744073709551616) (hb:0<=b/\b<18446744073709551616) (hc:0<=c/\c<18446744073709551616) (hm:0<=m/\m<18446744073709551616):
 bits .andNot .u64 (bits .or .u64 (bits .or .u64 a b) c) m=0↔bits .andNot .u64 a m=0/\bits .andNot .u64 b m=0/\bits .andNot .u64 c m=0:=by
 obtain ⟨a,rfl⟩:∃n:Nat,a=n:=⟨a.toNat,by omega⟩;obtain ⟨b,rfl⟩:∃n:Nat,b=n:=⟨b.toNat,by omega⟩;obtain ⟨c,rfl⟩:∃n:Nat,c=n:=⟨c.toNat,by omega⟩;obtain ⟨m,rfl⟩:∃n:Nat,m=n:=⟨m.toNat,by omega⟩;have h1:a ||| b<18446744073709551616:=Nat.or_lt_two_pow (n:=64) (by omega) (by omega)
 have h2:a ||| b ||| c<18446744073709551616:=Nat.or_lt_two_pow (n:=64) h1 (by omega)
 rw[Go.u64_or_nat a b (by omega) (by omega),Go.u64_or_nat (a ||| b) c h1 (by omega),Go.u64_andNot_nat _ m h2 (by omega),Go.u64_andNot_nat a m (by omega) (by omega),Go.u64_andNot_nat b m (by omega) (by omega),Go.u64_andNot_nat c m (by omega) (by omega)];generalize 18446744073709551615-m=k;rw[Nat.and_or_distrib_right,Nat.and_or_distrib_right];simp only[Int.natCast_eq_zero,Nat.or_eq_zero_iff,and_assoc]
theorem zrf (n u:Int) (h0:0<=n) (h1:n<=64):hasI (allI n) u=(decide (0<=u)&&decide (u<n)):=by
 unfold hasI;by_cases hu:0<=u;rotate_left
 ·rw[jA hu];simp
 obtain ⟨k,rfl⟩:∃k:Nat,u=k:=⟨u.toNat,by omega⟩;obtain ⟨m,rfl⟩:∃m:Nat,n=m:=⟨n.toNat,by omega⟩;have e1:allI (m:Int)=((2 ^ m-1:Nat):Int):=by
  unfold allI;have b:1<=(2:Nat) ^ m:=Nat.one_le_two_pow;rw[show (m:Int).toNat=m from rfl];have e:(2:Int) ^ m=((2 ^ m:Nat):Int):=by simp
  rw[e];omega
 have e2:(((2 ^ m-1:Nat):Int) / 2 ^ k % 2)=(((2 ^ m-1) / 2 ^ k % 2:Nat):Int):=by simp
 have e3:decide ((2 ^ m-1) / 2 ^ k % 2=1)=decide (k<m):=by have:=Nat.testBit_two_pow_sub_one m k;rw[Nat.testBit_eq_decide_div_mod_eq] at this;exact this
 rw[e1,show (k:Int).toNat=k from rfl,e2,jB hu,Bool.true_and,Bool.true_and];have e4:decide ((((2 ^ m-1) / 2 ^ k % 2:Nat):Int)=1)=decide ((2 ^ m-1) / 2 ^ k % 2=1):=by rw[Bool.eq_iff_iff,decide_eq_true_eq,decide_eq_true_eq];omega
 rw[e4,e3,Bool.eq_iff_iff];simp only[ji,decide_eq_true_eq];omega
theorem zsm (k:Int) (w:World):
 Calls prog 202 #[.agg (aK k)] w λe w'=>e=.returned (.bool (mutB k))/\Below w w w':=by
 by_cases h3:k=3
 ·subst h3;go_enter func202,ntmps202;go_wp2;go_ret;exact ⟨rfl,by go_grown⟩
 by_cases h4:k=4
 ·subst h4;go_enter func202,ntmps202;go_wp2;go_ret;exact ⟨rfl,by go_grown⟩
 by_cases h7:k=7
 ·subst h7;go_enter func202,ntmps202;go_wp2;go_ret;exact ⟨rfl,by go_grown⟩
 by_cases h8:k=8
 ·subst h8;go_enter func202,ntmps202;go_wp2;go_ret;exact ⟨rfl,by go_grown⟩
 by_cases h9:k=9
 ·subst h9;go_enter func202,ntmps202;go_wp2;go_ret;exact ⟨rfl,by go_grown⟩
 have H:=jM (mutB k=false) (by simp[mutB,h3,h4,h7,h8,h9]);have b3:(k==3)=false:=by simpa using h3
 have b4:(k==4)=false:=by simpa using h4
 have b7:(k==7)=false:=by simpa using h7
 have b8:(k==8)=false:=by simpa using h8
 have b9:(k==9)=false:=by simpa using h9
 clear h3 h4 h7 h8 h9;go_enter func202,ntmps202;go_wp2;go_ret;exact ⟨by rw[H.o];rfl,by go_grown⟩
def ChkR (r:Int) (w:World) (e:Ending) (w':World):Prop:=∃i:Int,e=.returned (.tuple #[.int .i64 i,.int .i64 r])/\Below w w w'
theorem zc1 (h:q=r) (hb:Below w w w'):ChkR r w (.returned (.tuple #[.int .i64 i,.int .i64 q])) w':=⟨i,by rw[h],hb⟩
def zr3 (l:List Rul):Prop:=∀x∈l,(0<=x.rights.rd/\x.rights.rd<18446744073709551616)/\(0<=x.rights.wr/\x.rights.wr<18446744073709551616)/\(0<=x.rights.ow/\x.rights.ow<18446744073709551616)
theorem rg_acl (u:Int) (sv:Value) (l:List Rul) (B:Nat) (w:World) (hB:B<=w.heap.size) (hs:Sls cRul w B sv l) (hok:zr3 l):
 Calls prog 115 #[.int .i64 u,sv] w (ChkR (aclE u l) w):=by
 obtain ⟨A,cap,rfl,hc,hm,hr⟩:=id hs;have HS:=Hd hs;have HOK:=Hd hok;clear hs hr hok;unfold maxLen at hm;by_cases hu1:u<1
 ·have HE:=jM (aclE u l=2) (by unfold aclE;rw[jT]);go_enter func115,ntmps115;go_wp2;go_ret2;exact zc1 HE.o.symm (by go_grown)
 by_cases hu2:64<u
 ·have HE:=jM (aclE u l=2) (by unfold aclE;rw[jT]);go_enter func115,ntmps115;go_wp2;go_ret2;exact zc1 HE.o.symm (by go_grown)
 by_cases hl0:l.length=0
 ·have l0:((l.length:Int)==0)=true:=by simp[hl0]
  have HE:=jM (aclE u l=2) (by unfold aclE;rw[jb (.inr (.inr (js hl0)))]);clear hl0;go_enter func115,ntmps115;go_wp2;go_ret2;exact zc1 HE.o.symm (by go_grown)
 have l0:((l.length:Int)==0)=false:=by simpa using hl0
 have hne:l≠ []:=λe=>hl0 (by rw[e];rfl);by_cases h64:64<l.length
 ·have HE:=jM (aclE u l=5) (by unfold aclE;rw[ja (by simp[hne];omega),jb h64]);have l64:(64:Int)<(l.length:Int):=by omega
  clear hne hl0;go_enter func115,ntmps115;go_wp2;go_ret2;exact zc1 HE.o.symm (by go_grown)
 have l64:¬(64:Int)<(l.length:Int):=by omega
 have hx:l[0]?=some (l[0]'(by omega)):=jz (by omega);obtain ⟨b,o,rfl,hb,r⟩:=HS.o.get 7 zdr hx;have HE:=Hd (show aclE u l=if (l[0]'(by omega)).rect≠⟨1,1,1024,1024⟩ then 2 else zc0 (rulE u) l by
  unfold aclE;rw[ja (by simp[hne];omega),ja h64,List.head?_eq_getElem?,hx];simp)
 generalize l[0]'(by omega)=x at *;have r0:w.cell? (b,o)=some (.int .i64 x.rect.c1):=by simpa using r 0 _ rfl
 have r1:w.cell? (b,o+1)=some (.int .i64 x.rect.r1):=by simpa using r 1 _ rfl
 have r2:w.cell? (b,o+2)=some (.int .i64 x.rect.c2):=by simpa using r 2 _ rfl
 have r3:w.cell? (b,o+3)=some (.int .i64 x.rect.r2):=by simpa using r 3 _ rfl
 have hn:∀W,(binOp .neq 43 (.agg x.rect) (.agg #[.int .i64 1,.int .i64 1,.int .i64 1024,.int .i64 1024])).run prog W=.ok (.bool (!decide (x.rect=⟨1,1,1024,1024⟩))) W:=λW=>zv1 x.rect ⟨1,1,1024,1024⟩ W;have hi0:(0:Int)<(l.length:Int):=by omega
 have hi1:0<l.length:=by omega
 clear hx r hne hl0;have hbl:=block_lt_of_cell r0;have HU:=Hd (zmx u (by omega));obtain ⟨q,hq⟩:=jN (!decide (x.rect=⟨1,1,1024,1024⟩));rw[hq] at hn;have HQ:=Hd hq;clear hq;go_enter func115,ntmps115;go_wp2
 go_region_held3 (λW:World=>W.cell? ⟨b,o,none⟩=some (.int .i64 x.rect.c1)/\W.cell? ⟨b,o+1,none⟩=some (.int .i64 x.rect.r1)/\W.cell? ⟨b,o+2,none⟩=some (.int .i64 x.rect.c2)/\W.cell? ⟨b,o+3,none⟩=some (.int .i64 x.rect.r2))
  (first
   | exact ⟨r0,r1,r2,r3⟩
   | exact ⟨(hb1.cell hbl).trans r0,(hb1.cell hbl).trans r1,(hb1.cell hbl).trans r2,(hb1.cell hbl).trans r3⟩)
  (first
   | (go_at_call 176;refine (zvk _).mono ?_;rintro e w1 ⟨rfl,hb1⟩))
 have HB1:=jM (Below w w w1) (jd (jg _ _) (Below.trans ((jg _ _).drew) hb1) jy);clear r0 r1 r2 r3 hb1;cases q;rotate_left
 ·have HE2:=jM (aclE u l=2) (by rw[HE.o,jb (by simpa using HQ.o)]);go_wp2;go_ret2;exact zc1 HE2.o.symm HB1.o
 have HE2:=jM (aclE u l=zc0 (rulE u) l) (by rw[HE.o,ja (by simpa using HQ.o)]);clear hn HE HQ;go_wp2;go_loopw [6,7] (λi _ wr=>∃k:Nat,k<=l.length/\i=.int .i64 k/\Below w w wr/\zc0 (rulE u) l=zc0 (rulE u) (l.drop k)) (λi _ _=>l.length-(intOf i).toNat)
 case atStart=>exact ⟨0,by omega,rfl,HB1.o,by simp⟩
 obtain ⟨k,hk,rfl,hbw,hfe⟩:=hrel;have HF:=Hd hfe;have HBW:=Hd hbw;clear hfe;by_cases hlt:k<l.length;rotate_left
 ·have hi1:¬(k:Int)<(l.length:Int):=by omega
  have HN:=jM (zc0 (rulE u) l=0) (by rw[HF.o,List.drop_of_length_le (by omega)];rfl);go_wp2;go_ret2;exact zc1 (by rw[HE2.o,HN.o]) HBW.o
 have hy:l[k]?=some l[k]:=jz hlt;obtain ⟨b,o,hA,hb2,r⟩:=(HS.o.below (hbw.mono hB)).get 7 zdr hy;have HD:=Hd (zfq (rulE u) hy);have HY:=Hd (HOK.o l[k] (jj hlt));generalize l[k]=y at *;injection hA with hA
 injection hA with hA1 hA2
 subst hA1 hA2;have r0:wr.cell? (b,o+k*7)=some (.int .i64 y.rect.c1):=r 0 _ rfl;have r1:wr.cell? (b,o+k*7+1)=some (.int .i64 y.rect.r1):=r 1 _ rfl;have r2:wr.cell? (b,o+k*7+2)=some (.int .i64 y.rect.c2):=r 2 _ rfl;have r3:wr.cell? (b,o+k*7+3)=some (.int .i64 y.rect.r2):=r 3 _ rfl;have R:=Hd r;have hi0:(0:Int)<=(k:Int):=jw _;have hi1:(k:Int)<(l.length:Int):=by omega
 have hbw2:=block_lt_of_cell r0;clear r hy hbw;go_wp2_with fail;refine (ziq _ _ _ _ _).mono ?_;rintro e w3 ⟨rfl,hb3⟩;have HB3:=Hd (jd HBW.o hb3 HBW.o.size);have r4:w3.cell? (b,o+k*7+4)=some (.int .u64 y.rights.rd):=(hb3.cell (p:=⟨b,_,none⟩) hbw2).trans (R.o 4 _ rfl);have r5:w3.cell? (b,o+k*7+5)=some (.int .u64 y.rights.wr):=(hb3.cell (p:=⟨b,_,none⟩) hbw2).trans (R.o 5 _ rfl);have r6:w3.cell? (b,o+k*7+6)=some (.int .u64 y.rights.ow):=(hb3.cell (p:=⟨b,_,none⟩) hbw2).trans (R.o 6 _ rfl);clear hb3 r0 r1 r2 r3;cases hrc:rctB ⟨y.rect.c1,y.rect.r1,y.rect.c2,y.rect.r2⟩
 ·have HZ:=jM (rulE u y=3) (by unfold rulE;rw[jb (by unfold rctE;rw[hrc];simp)]);clear hrc;go_wp2;go_ret2;exact zc1 (by rw[HE2.o,HF.o,HD.o,HZ.o];rfl) HB3.o
 have HZ:=Hd (show rulE u y=if bits .andNot .u64 y.rights.rd (allI u)=0/\bits .andNot .u64 y.rights.wr (allI u)=0/\bits .andNot .u64 y.rights.ow (allI u)=0 then 0 else 2 by
  unfold rulE;rw[ja (by unfold rctE;rw[hrc];simp)];have hi:=zt4 _ _ _ _ HY.o.1 HY.o.2.1 HY.o.2.2 HU.o;by_cases h:bits .andNot .u64 y.rights.rd (allI u)=0/\bits .andNot .u64 y.rights.wr (allI u)=0/\bits .andNot .u64 y.rights.ow (allI u)=0
  ·rw[jb h,ja (λe=>e (hi.2 h))]
  rw[ja h,jb (λe=>h (hi.1 e))])
 clear hrc;go_wp2_with fail;refine (ze6 y.rights.rd u _ (by omega) (by omega)).mono ?_;rintro e w4 ⟨rfl,rfl⟩;by_cases h1:bits .andNot .u64 y.rights.rd (allI u)=0;rotate_left
 ·have HZ2:=Hd (HZ.o.trans (ja (λh=>h1 h.1)));rw[jA h1];clear h1 HZ;go_wp2;go_ret2;exact zc1 (by rw[HE2.o,HF.o,HD.o,HZ2.o];rfl) (HB3.o.alloc HB3.o.size _)
 rw[jB h1];go_wp2_with fail;refine (ze6 y.rights.wr u _ (by omega) (by omega)).mono ?_;rintro e w4 ⟨rfl,rfl⟩;by_cases h2:bits .andNot .u64 y.rights.wr (allI u)=0;rotate_left
 ·have HZ2:=Hd (HZ.o.trans (ja (λh=>h2 h.2.1)));rw[jA h2];clear h1 h2 HZ;go_wp2;go_ret2;exact zc1 (by rw[HE2.o,HF.o,HD.o,HZ2.o];rfl) (HB3.o.alloc HB3.o.size _)
 rw[jB h2];go_wp2_with fail;refine (ze6 y.rights.ow u _ (by omega) (by omega)).mono ?_;rintro e w4 ⟨rfl,rfl⟩;by_cases h3:bits .andNot .u64 y.rights.ow (allI u)=0;rotate_left
 ·have HZ2:=Hd (HZ.o.trans (ja (λh=>h3 h.2.2)));rw[jA h3];clear h1 h2 h3 HZ;go_wp2;go_ret2;exact zc1 (by rw[HE2.o,HF.o,HD.o,HZ2.o];rfl) (HB3.o.alloc HB3.o.size _)
 rw[jB h3];have HZ2:=Hd (HZ.o.trans (jb ⟨h1,h2,h3⟩));clear h1 h2 h3 HZ;go_wp2;exact ⟨⟨k+1,by omega,by go_num,HB3.o.alloc HB3.o.size _,by rw[HF.o,HD.o,HZ2.o];rfl⟩,by simp[intOf];omega⟩
theorem zu7 (u:Int) (sv:Value) (l:List Grt) (B:Nat) (w:World) (hB:B<=w.heap.size) (hs:Sls cGrt w B sv l):
 Calls prog 116 #[.int .i64 u,sv] w (ChkR (zep u l) w):=by
 obtain ⟨A,cap,rfl,hc,hm,hr⟩:=id hs;have HS:=Hd hs;clear hs hr;unfold maxLen at hm;by_cases hu1:u<1
 ·have HE:=jM (zep u l=2) (by unfold zep;rw[jT]);go_enter func116,ntmps116;go_wp2;go_ret2;exact zc1 HE.o.symm (by go_grown)
 by_cases hu2:64<u
 ·have HE:=jM (zep u l=2) (by unfold zep;rw[jT]);go_enter func116,ntmps116;go_wp2;go_ret2;exact zc1 HE.o.symm (by go_grown)
 by_cases h64:64<l.length
 ·have HE:=jM (zep u l=5) (by unfold zep;rw[jS,jb h64]);have l64:(64:Int)<(l.length:Int):=by omega
  go_enter func116,ntmps116;go_wp2;go_ret2;exact zc1 HE.o.symm (by go_grown)
 have l64:¬(64:Int)<(l.length:Int):=by omega
 have HE:=jM (zep u l=zc0 (grtE u) l) (by unfold zep;rw[jS,ja h64]);have HAL:=Hd (λx=>zrf u x (by omega) (by omega));go_enter func116,ntmps116;go_wp2_with fail;go_loopw [6] (λi wr=>∃k:Nat,k<=l.length/\i=.int .i64 k/\Below w w wr/\zc0 (grtE u) l=zc0 (grtE u) (l.drop k)) (λi _=>l.length-(intOf i).toNat)
 case atStart=>exact ⟨0,by omega,rfl,jg _ _,by simp⟩
 rename World=>wr
 obtain ⟨k,hk,rfl,hbw,hfe⟩:=hrel;have HF:=Hd hfe;have HBW:=Hd hbw;clear hfe;have hi0:(0:Int)<=(k:Int):=jw _;by_cases hlt:k<l.length;rotate_left
 ·have hi1:¬(k:Int)<(l.length:Int):=by omega
  have HN:=jM (zc0 (grtE u) l=0) (by rw[HF.o,List.drop_of_length_le (by omega)];rfl);go_wp2;go_ret2;exact zc1 (by rw[HE.o,HN.o]) HBW.o
 have hy:l[k]?=some l[k]:=jz hlt;obtain ⟨b,o,hA,hb2,r⟩:=(HS.o.below (hbw.mono hB)).get 8 zex hy;have HD:=Hd (zfq (grtE u) hy);generalize l[k]=y at *;subst hA;obtain ⟨r0,r1,r2,r3,r4,r5,r6,r7⟩:=rGrt r;have hi1:(k:Int)<(l.length:Int):=by omega
 have K0:=Hd (je wr 85 y);have HB0:=Hd (HBW.o.alloc HBW.o.size (.cells y 85));clear r hy hbw;go_wp2_with fail;refine (ziq _ _ _ _ _).mono ?_;rintro e w3 ⟨rfl,hb3⟩;have K3:=Hd (K0.o.below_ hb3);have HB3:=Hd (jd HB0.o hb3 HB0.o.size);obtain ⟨q4,q5,q6⟩:=K3.o.c3 4 5 6;clear hb3 r0 r1 r2 r3 r4 r5 r6 r7 K0 HB0;cases hrc:rctB ⟨y.rect.c1,y.rect.r1,y.rect.c2,y.rect.r2⟩
 ·have HZ:=jM (grtE u y=3) (by unfold grtE;rw[jb (by unfold rctE;rw[hrc];simp)]);clear hrc;go_wp2;go_ret2;exact zc1 (by rw[HE.o,HF.o,HD.o,HZ.o];rfl) HB3.o
 have HZ:=Hd (show grtE u y=if y.fns<1\/31<y.fns\/bits .andNot .u64 y.to_ (allI u)≠0\/hasI (allI u) y.by_=false then 2 else 0 by
  unfold grtE;rw[ja (by unfold rctE;rw[hrc];simp)])
 rw[HAL.o] at HZ;clear hrc;by_cases c1:y.fns<1
 ·have HY:=Hd (HZ.o.trans (jb (.inl c1)));go_wp2;go_ret2;exact zc1 (by rw[HE.o,HF.o,HD.o,HY.o];rfl) HB3.o
 by_cases c2:31<y.fns
 ·have HY:=Hd (HZ.o.trans (jb (.inr (.inl c2))));go_wp2;go_ret2;exact zc1 (by rw[HE.o,HF.o,HD.o,HY.o];rfl) HB3.o
 go_wp2_with fail;refine (ze6 y.to_ u _ (by omega) (by omega)).mono ?_;rintro e w4 ⟨rfl,rfl⟩;by_cases c3:bits .andNot .u64 y.to_ (allI u)=0;rotate_left
 ·have HY:=Hd (HZ.o.trans (jb (.inr (.inr (.inl c3)))));rw[jA c3];clear c3 HZ;go_wp2;go_ret2;exact zc1 (by rw[HE.o,HF.o,HD.o,HY.o];rfl) HB3.o
 rw[jB c3];by_cases c4:y.by_<0
 ·have HY:=Hd (HZ.o.trans (jb (.inr (.inr (.inr (by rw[jA (by omega:¬0<=y.by_)];rfl))))));clear c3 HZ;go_wp2;go_ret2;exact zc1 (by rw[HE.o,HF.o,HD.o,HY.o];rfl) HB3.o
 by_cases c5:u<=y.by_
 ·have HY:=Hd (HZ.o.trans (jb (.inr (.inr (.inr (by rw[jA (by omega:¬y.by_<u),Bool.and_false]))))));clear c3 HZ;go_wp2;go_ret2;exact zc1 (by rw[HE.o,HF.o,HD.o,HY.o];rfl) HB3.o
 have HY:=Hd (HZ.o.trans (ja (by rw[jB (by omega:0<=y.by_),jB (by omega:y.by_<u)];simp[c3];omega)));clear c3 HZ;go_wp2;exact ⟨⟨k+1,by omega,by go_num,HB3.o,by rw[HF.o,HD.o,HY.o];rfl⟩,by simp[intOf];omega⟩
theorem zyu (u z:Int) (y:Evt) (w:World) (hu1:1<=u) (hu2:u<=64) (hto:0<=y.to_/\y.to_<18446744073709551616):
 Calls prog 179 #[.int .i64 u,.int .i64 z,.agg y] w λe w'=>e=.returned (.int .i64 (evE u z y))/\Below w w w':=by
 have K0:=Hd (je w 110 y);have HB0:=jM (Below w w (w.alloc (.cells y 110))) (by go_grown);have HZ0:Hid (evE u z y=if y.step<=z then 12 else if mutB y.kind=false\/hasI (allI u) y.user=false then 2 else if rctE y.rect≠0 then 3 else if bits .andNot .u64 y.to_ (allI u)≠0\/hasI y.to_ y.user=false then 2 else 0):=Hd rfl;rw[zrf u _ (by omega) hu2] at HZ0;by_cases c1:y.step<=z
 ·have HY:=Hd (HZ0.o.trans (jb c1));go_enter func179,ntmps179;go_wp2;go_ret;exact ⟨by rw[HY.o];rfl,HB0.o⟩
 have HZ1:=Hd (HZ0.o.trans (ja c1));clear HZ0;go_enter func179,ntmps179;go_wp2_with fail;refine (zsm y.kind _).mono ?_;rintro e w1 ⟨rfl,hb1⟩;have K1:=Hd (K0.o.below_ hb1);have HB1:=Hd (jd HB0.o hb1 HB0.o.size);obtain ⟨q1,q3,q4,q5,q6,q8⟩:=K1.o.c6 1 3 4 5 6 8;clear hb1 K0 HB0;obtain ⟨mb,hmb⟩:=jN (mutB y.kind);rw[hmb] at HZ1 ⊢;clear hmb;cases mb
 ·have HY:=Hd (HZ1.o.trans (jb (.inl rfl)));go_wp2;go_ret;exact ⟨by rw[HY.o];rfl,HB1.o⟩
 by_cases c2:y.user<0
 ·have HY:=Hd (HZ1.o.trans (jb (.inr (by rw[jA (by omega:¬0<=y.user)];rfl))));go_wp2;go_ret;exact ⟨by rw[HY.o];rfl,HB1.o⟩
 by_cases c3:u<=y.user
 ·have HY:=Hd (HZ1.o.trans (jb (.inr (by rw[jA (by omega:¬y.user<u),Bool.and_false]))));go_wp2;go_ret;exact ⟨by rw[HY.o];rfl,HB1.o⟩
 have HZ2:=Hd (HZ1.o.trans (ja (by rw[jB (by omega:0<=y.user),jB (by omega:y.user<u)];simp)));clear HZ1;go_wp2_with fail;refine (ziq _ _ _ _ _).mono ?_;rintro e w2 ⟨rfl,hb2⟩;have K2:=Hd (K1.o.below_ hb2);have HB2:=Hd (jd HB1.o hb2 HB1.o.size);clear q1 q3 q4 q5 q6 q8 hb2 K1 HB1;obtain ⟨q1,q8⟩:=K2.o.c2 1 8;cases hrc:rctB ⟨y.rect.c1,y.rect.r1,y.rect.c2,y.rect.r2⟩
 ·have HY:=Hd (HZ2.o.trans (jb (by unfold rctE;rw[hrc];simp)));clear hrc;go_wp2;go_ret;exact ⟨by rw[HY.o];rfl,HB2.o⟩
 have HZ3:=Hd (HZ2.o.trans (ja (by unfold rctE;rw[hrc];simp)));clear HZ2 hrc;go_wp2_with fail;refine (ze6 y.to_ u _ (by omega) hu2).mono ?_;rintro e w4 ⟨rfl,rfl⟩;by_cases c4:bits .andNot .u64 y.to_ (allI u)=0;rotate_left
 ·have HY:=Hd (HZ3.o.trans (jb (.inl c4)));rw[jA c4];clear c4 HZ3;go_wp2;go_ret;exact ⟨by rw[HY.o];rfl,HB2.o⟩
 rw[jB c4];go_wp2_with fail;refine (rg_has y.to_ y.user _ hto.1 hto.2).mono ?_;rintro e w4 ⟨rfl,rfl⟩;cases hh:hasI y.to_ y.user
 ·have HY:=Hd (HZ3.o.trans (jb (.inr hh)));clear c4 HZ3 hh;go_wp2;go_ret;exact ⟨by rw[HY.o];rfl,HB2.o⟩
 have HY:=Hd (HZ3.o.trans (ja (by rw[hh];simp[c4])));clear c4 HZ3 hh;go_wp2;go_ret;exact ⟨by rw[HY.o];rfl,HB2.o⟩
theorem zsl (u z:Int) (y:Rls) (w:World) (hu1:1<=u) (hu2:u<=64):
 Calls prog 180 #[.int .i64 u,.int .i64 z,.agg y] w λe w'=>e=.returned (.int .i64 (rlE u z y))/\Below w w w':=by
 have K0:=Hd (je w 116 y);have HB0:=jM (Below w w (w.alloc (.cells y 116))) (by go_grown);have HZ0:Hid (rlE u z y=if y.step<z then 12 else if za6 y.at_.col y.at_.row=false\/rctE y.rect≠0 then 3 else if y.node<0\/256<=y.node\/y.fn<46\/50<y.fn\/y.grant<0\/64<=y.grant\/bits .andNot .u64 y.to_ (allI u)≠0 then 2 else 0):=Hd rfl;by_cases c1:y.step<z
 ·have HY:=Hd (HZ0.o.trans (jb c1));go_enter func180,ntmps180;go_wp2;go_ret;exact ⟨by rw[HY.o];rfl,HB0.o⟩
 have HZ1:=Hd (HZ0.o.trans (ja c1));clear HZ0;go_enter func180,ntmps180;go_wp2_with fail;refine (zpd _ _ _).mono ?_;rintro e w1 ⟨rfl,hb1⟩;have K1:=Hd (K0.o.below_ hb1);have HB1:=Hd (jd HB0.o hb1 HB0.o.size);obtain ⟨q3,q4,q5,q6,q7,q8⟩:=K1.o.c6 3 4 5 6 7 8;obtain ⟨q9,q10⟩:=K1.o.c2 9 10;clear hb1 K0 HB0;cases hv:za6 y.at_.col y.at_.row
 ·have HY:=Hd (HZ1.o.trans (jb (.inl hv)));clear hv;go_wp2;go_ret;exact ⟨by rw[HY.o];rfl,HB1.o⟩
 go_wp2_with fail;refine (ziq _ _ _ _ _).mono ?_;rintro e w2 ⟨rfl,hb2⟩;have K2:=Hd (K1.o.below_ hb2);have HB2:=Hd (jd HB1.o hb2 HB1.o.size);clear q3 q4 q5 q6 q7 q8 q9 q10 hb2 K1 HB1;obtain ⟨q3,q4,q9,q10⟩:=K2.o.c4 3 4 9 10;cases hrc:rctB ⟨y.rect.c1,y.rect.r1,y.rect.c2,y.rect.r2⟩
 ·have HY:=Hd (HZ1.o.trans (jb (.inr (by unfold rctE;rw[hrc];simp))));clear hrc hv;go_wp2;go_ret;exact ⟨by rw[HY.o];rfl,HB2.o⟩
 have HZ3:=Hd (HZ1.o.trans (ja (by unfold rctE;rw[hrc,hv];simp)));clear HZ1 hrc hv;by_cases c2:y.node<0
 ·have HY:=Hd (HZ3.o.trans (jb (.inl c2)));go_wp2;go_ret;exact ⟨by rw[HY.o];rfl,HB2.o⟩
 by_cases c3:256<=y.node
 ·have HY:=Hd (HZ3.o.trans (jb (.inr (.inl c3))));go_wp2;go_ret;exact ⟨by rw[HY.o];rfl,HB2.o⟩
 go_wp2_with fail;refine (zpa y.fn _).mono ?_;rintro e w4 ⟨rfl,rfl⟩;by_cases c4:y.fn<46
 ·have HY:=Hd (HZ3.o.trans (jb (.inr (.inr (.inl c4)))));rw[jA (by omega:¬46<=y.fn),Bool.false_and];go_wp2;go_ret;exact ⟨by rw[HY.o];rfl,HB2.o⟩
 by_cases c5:50<y.fn
 ·have HY:=Hd (HZ3.o.trans (jb (.inr (.inr (.inr (.inl c5))))));rw[jA (by omega:¬y.fn<=50),Bool.and_false];go_wp2;go_ret;exact ⟨by rw[HY.o];rfl,HB2.o⟩
 rw[jB (by omega:46<=y.fn),jB (by omega:y.fn<=50),Bool.and_self];by_cases c6:y.grant<0
 ·have HY:=Hd (HZ3.o.trans (jb (.inr (.inr (.inr (.inr (.inl c6)))))));go_wp2;go_ret;exact ⟨by rw[HY.o];rfl,HB2.o⟩
 by_cases c7:64<=y.grant
 ·have HY:=Hd (HZ3.o.trans (jb (.inr (.inr (.inr (.inr (.inr (.inl c7))))))));go_wp2;go_ret;exact ⟨by rw[HY.o];rfl,HB2.o⟩
 go_wp2_with fail;refine (ze6 y.to_ u _ (by omega) hu2).mono ?_;rintro e w4 ⟨rfl,rfl⟩;by_cases c8:bits .andNot .u64 y.to_ (allI u)=0;rotate_left
 ·have HY:=Hd (HZ3.o.trans (jb (.inr (.inr (.inr (.inr (.inr (.inr c8))))))));rw[jA c8];clear c8 HZ3;go_wp2;go_ret;exact ⟨by rw[HY.o];rfl,HB2.o⟩
 rw[jB c8];have HY:=Hd (HZ3.o.trans (ja (by simp[c8];omega)));clear c8 HZ3;go_wp2;go_ret;exact ⟨by rw[HY.o];rfl,HB2.o⟩
theorem zyv (u:Int) (sv sv2:Value) (l:List Evt) (m:List Rls) (B:Nat) (w:World) (hB:B<=w.heap.size) (hs:Sls cEvt w B sv l) (hs2:Sls cRls w B sv2 m) (hto:∀x∈l,0<=x.to_/\x.to_<18446744073709551616):
 Calls prog 117 #[.int .i64 u,sv,sv2] w λe w'=>e=.returned (.int .i64 (audE u l m))/\Below w w w':=by
 obtain ⟨A,cap,rfl,hc,hm,hr⟩:=id hs;obtain ⟨A2,cap2,rfl,hc2,hm2,hr2⟩:=id hs2;have HS:=Hd hs;have HS2:=Hd hs2;have HTO:=Hd hto;clear hs hr hs2 hr2 hto;unfold maxLen at hm hm2;by_cases hu1:u<1
 ·have HE:=jM (audE u l m=2) (by unfold audE;rw[jT]);go_enter func117,ntmps117;go_wp2;go_ret;exact ⟨by rw[HE.o];rfl,by go_grown⟩
 by_cases hu2:64<u
 ·have HE:=jM (audE u l m=2) (by unfold audE;rw[jT]);go_enter func117,ntmps117;go_wp2;go_ret;exact ⟨by rw[HE.o];rfl,by go_grown⟩
 have HE0:=jM (audE u l m=if evsE u (-1) l≠0 then evsE u (-1) l else rlsE u (-1) m) (by unfold audE;rw[jS]);have HU:=jM (1<=u/\u<=64) ⟨by omega,by omega⟩;go_enter func117,ntmps117;go_wp2_with fail;go_loopw [7,8] (λlast i wr=>∃(k:Nat) (z:Int),k<=l.length/\last=.int .i64 z/\i=.int .i64 k/\Below w w wr/\evsE u (-1) l=evsE u z (l.drop k)) (λ_ i _=>l.length-(intOf i).toNat)
 case atStart=>exact ⟨0, -1,by omega,rfl,rfl,jg _ _,by simp⟩
 rename World=>wr
 obtain ⟨k,z,hk,rfl,rfl,hbw,hfe⟩:=hrel;have HF:=Hd hfe;have HBW:=Hd hbw;clear hfe;have hi0:(0:Int)<=(k:Int):=jw _;by_cases hlt:k<l.length;rotate_left
 ·have hi1:¬(k:Int)<(l.length:Int):=by omega
  have HN:=jM (evsE u (-1) l=0) (by rw[HF.o,List.drop_of_length_le (by omega)];rfl);have HE1:=jM (audE u l m=rlsE u (-1) m) (by rw[HE0.o,HN.o];rfl);clear HE0 HF HN;have HE0:=HE1;clear HE1;obtain ⟨wq,hwq⟩:=jN wr;have HBL:=jM (Below w w wq) (hwq▸HBW.o);rw[hwq];clear hwq hbw HBW hk hlt hi0;go_wp2_with fail;clear hi1;go_loopw [7,10] (λlast i wr=>∃(k:Nat) (z:Int),k<=m.length/\last=.int .i64 z/\i=.int .i64 k/\Below w w wr/\rlsE u (-1) m=rlsE u z (m.drop k)) (λ_ i _=>m.length-(intOf i).toNat)
  case atStart=>exact ⟨0, -1,by omega,rfl,rfl,HBL.o,by simp⟩
  rename World=>wr
  obtain ⟨k,z,hk,rfl,rfl,hbw,hfe⟩:=hrel;have HF:=Hd hfe;have HBW:=Hd hbw;clear hfe;have hi0:(0:Int)<=(k:Int):=jw _;by_cases hlt:k<m.length;rotate_left
  ·have hi1:¬(k:Int)<(m.length:Int):=by omega
   have HN:=jM (rlsE u (-1) m=0) (by rw[HF.o,List.drop_of_length_le (by omega)];rfl);go_wp2;go_ret;exact ⟨by rw[HE0.o,HN.o];rfl,HBW.o⟩
  have hy:m[k]?=some m[k]:=jz hlt;obtain ⟨b,o,hA,hb2,r⟩:=(HS2.o.below (hbw.mono hB)).get 11 zds hy;have HD:=Hd (zni u z hy);generalize m[k]=y at *;subst hA;obtain ⟨r0,r1,r2,r3,r4,r5,r6,r7,r8,r9,r10⟩:=rRls r;have hi1:(k:Int)<(m.length:Int):=by omega
  have hbl:=block_lt_of_cell r0;have HC:=jM (Calls prog 180 #[.int .i64 u,.int .i64 z,.agg y] wr λe w'=>e=.returned (.int .i64 (rlE u z y))/\Below wr wr w') (zsl u z y wr HU.o.1 HU.o.2);obtain ⟨e,he⟩:=jN (rlE u z y);rw[he] at HC HD;clear r hy hbw he;go_wp2_with fail;refine HC.o.mono ?_;rintro _ w2 ⟨rfl,hb2'⟩;have HB2:=Hd (jd HBW.o hb2' HBW.o.size);have r0':w2.cell? (b,o+k*11)=some (.int .i64 y.step):=(hb2'.cell (p:=(b,o+k*11)) hbl).trans r0;clear r0 r1 r2 r3 r4 r5 r6 r7 r8 r9 r10 hb2';by_cases h0:e=0
  ·have b0:(e != 0)=false:=by simpa using h0
   have HF2:=jM (rlsE u (-1) m=rlsE u y.step (m.drop (k+1))) (by rw[HF.o,HD.o,ja (by simpa using h0)]);clear h0 HD HF;go_wp2;exact ⟨⟨k+1,y.step,by omega,rfl,by go_num,HB2.o,HF2.o⟩,by simp[intOf];omega⟩
  have b0:(e != 0)=true:=by simpa using h0
  have HE2:=jM (rlsE u (-1) m=e) (by rw[HF.o,HD.o,jb (by simpa using h0)]);have HE3:=jM (audE u l m=e) (by rw[HE0.o,HE2.o]);clear h0 HD HF;go_wp2;go_ret;exact ⟨by rw[HE3.o];rfl,HB2.o⟩
 have hy:l[k]?=some l[k]:=jz hlt;obtain ⟨b,o,hA,hb2,r⟩:=(HS.o.below (hbw.mono hB)).get 9 zdt hy;have HD:=Hd (zol u z hy);have HT:=Hd (HTO.o _ (jj hlt));generalize l[k]=y at *;subst hA;obtain ⟨r0,r1,r2,r3,r4,r5,r6,r7,r8⟩:=rEvt r;have hi1:(k:Int)<(l.length:Int):=by omega
 have hbl:=block_lt_of_cell r0;have HC:=jM (Calls prog 179 #[.int .i64 u,.int .i64 z,.agg y] wr λe w'=>e=.returned (.int .i64 (evE u z y))/\Below wr wr w') (zyu u z y wr HU.o.1 HU.o.2 HT.o);obtain ⟨e,he⟩:=jN (evE u z y);rw[he] at HC HD;clear r hy hbw he;go_wp2_with fail;refine HC.o.mono ?_;rintro _ w2 ⟨rfl,hb2'⟩;have HB2:=Hd (jd HBW.o hb2' HBW.o.size);have r0':w2.cell? (b,o+k*9)=some (.int .i64 y.step):=(hb2'.cell (p:=(b,o+k*9)) hbl).trans r0;clear r0 r1 r2 r3 r4 r5 r6 r7 r8 hb2';by_cases h0:e=0
 ·have b0:(e != 0)=false:=by simpa using h0
  have HF2:=jM (evsE u (-1) l=evsE u y.step (l.drop (k+1))) (by rw[HF.o,HD.o,ja (by simpa using h0)]);clear h0 HD HF;go_wp2;exact ⟨⟨k+1,y.step,by omega,rfl,by go_num,HB2.o,HF2.o⟩,by simp[intOf];omega⟩
 have b0:(e != 0)=true:=by simpa using h0
 have HE2:=jM (evsE u (-1) l=e) (by rw[HF.o,HD.o,jb (by simpa using h0)]);have HE3:=jM (audE u l m=e) (by rw[HE0.o,HE2.o,jb h0]);clear h0 HD HF;go_wp2;go_ret;exact ⟨by rw[HE3.o];rfl,HB2.o⟩
end Go.Proofs.YtamcgggmfghljaaGreatDoor
