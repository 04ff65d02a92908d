/- Layer 19 (reference): rules checked. -/
import Derived.Test.YtamcgggmfghljaaGreatDoorD46
set_option maxRecDepth 100000
set_option maxHeartbeats 8000000
open Go.Proofs.Tryz
namespace Go.Proofs.YtamcgggmfghljaaGreatDoor
open Go.RowKit
theorem zqe (a b c m:Int) (ha:0≤a∧a<18446744073709551616) (hb:0≤b∧b<18446744073709551616) (hc:0≤c∧c<18446744073709551616) (hm:0≤m∧m<18446744073709551616):
 bits .andNot .u64 (bits .or .u64 (bits .or .u64 a b) c) m=0↔bits .andNot .u64 a m=0∧bits .andNot .u64 b m=0∧bits .andNot .u64 c m=0:=by
 obtain ⟨a,rfl⟩:∃n:Nat,a=n:=⟨a.toNat,by omega⟩
 obtain ⟨b,rfl⟩:∃n:Nat,b=n:=⟨b.toNat,by omega⟩
 obtain ⟨c,rfl⟩:∃n:Nat,c=n:=⟨c.toNat,by omega⟩
 obtain ⟨m,rfl⟩:∃n:Nat,m=n:=⟨m.toNat,by omega⟩
 have h1:a ||| b<18446744073709551616:=Nat.or_lt_two_pow (n:=64) (by omega) (by omega)
 have h2:a ||| b ||| c<18446744073709551616:=Nat.or_lt_two_pow (n:=64) h1 (by omega)
 rw [Go.u64_or_nat a b (by omega) (by omega),Go.u64_or_nat (a ||| b) c h1 (by omega),Go.u64_andNot_nat _ m h2 (by omega),Go.u64_andNot_nat a m (by omega) (by omega),Go.u64_andNot_nat b m (by omega) (by omega),Go.u64_andNot_nat c m (by omega) (by omega)]
 generalize 18446744073709551615-m=k
 rw [Nat.and_or_distrib_right,Nat.and_or_distrib_right]
 simp only [Int.natCast_eq_zero,Nat.or_eq_zero_iff,and_assoc]
theorem zny (n u:Int) (h0:0≤n) (h1:n≤64):hasI (allI n) u=(decide (0≤u)&&decide (u<n)):=by
 unfold hasI
 by_cases hu:0≤u
 rotate_left
 ·rw [decide_eq_false hu]
  simp
 obtain ⟨k,rfl⟩:∃k:Nat,u=k:=⟨u.toNat,by omega⟩
 obtain ⟨m,rfl⟩:∃m:Nat,n=m:=⟨n.toNat,by omega⟩
 have e1:allI (m:Int)=((2 ^ m-1:Nat):Int):=by
  unfold allI
  have b:1≤(2:Nat) ^ m:=Nat.one_le_two_pow
  rw [show (m:Int).toNat=m from rfl]
  have e:(2:Int) ^ m=((2 ^ m:Nat):Int):=by simp
  rw [e]
  omega
 have e2:(((2 ^ m-1:Nat):Int) / 2 ^ k % 2)=(((2 ^ m-1) / 2 ^ k % 2:Nat):Int):=by simp
 have e3:decide ((2 ^ m-1) / 2 ^ k % 2=1)=decide (k<m):=by
  have:=Nat.testBit_two_pow_sub_one m k
  rw [Nat.testBit_eq_decide_div_mod_eq] at this
  exact this
 rw [e1,show (k:Int).toNat=k from rfl,e2,decide_eq_true hu,Bool.true_and,Bool.true_and]
 have e4:decide ((((2 ^ m-1) / 2 ^ k % 2:Nat):Int)=1)=decide ((2 ^ m-1) / 2 ^ k % 2=1):=by
  rw [Bool.eq_iff_iff,decide_eq_true_eq,decide_eq_true_eq]
  omega
 rw [e4,e3,Bool.eq_iff_iff]
 simp only [Bool.and_eq_true,decide_eq_true_eq]
 omega
theorem zoy (k:Int) (w:World):
 Calls prog 202 #[.agg #[.int .u8 k,.int .i64 0,.int .i64 0,.int .i64 0,.int .i64 0,.int .i64 0,str [],.int .u64 0,.int .u64 0,.int .u64 0,.int .u8 0,.int .u64 0,.int .i64 0]] w fun e w'=>e=.returned (.bool (mutB k))∧Below w.heap.size w w':=by
 by_cases h3:k=3
 ·subst h3
  go_enter func202,ntmps202
  go_wp2
  go_ret
  exact ⟨rfl,by go_grown⟩
 by_cases h4:k=4
 ·subst h4
  go_enter func202,ntmps202
  go_wp2
  go_ret
  exact ⟨rfl,by go_grown⟩
 by_cases h7:k=7
 ·subst h7
  go_enter func202,ntmps202
  go_wp2
  go_ret
  exact ⟨rfl,by go_grown⟩
 by_cases h8:k=8
 ·subst h8
  go_enter func202,ntmps202
  go_wp2
  go_ret
  exact ⟨rfl,by go_grown⟩
 by_cases h9:k=9
 ·subst h9
  go_enter func202,ntmps202
  go_wp2
  go_ret
  exact ⟨rfl,by go_grown⟩
 have H:=Hd (show mutB k=false by simp [mutB,h3,h4,h7,h8,h9])
 have b3:(k==3)=false:=by simpa using h3
 have b4:(k==4)=false:=by simpa using h4
 have b7:(k==7)=false:=by simpa using h7
 have b8:(k==8)=false:=by simpa using h8
 have b9:(k==9)=false:=by simpa using h9
 clear h3 h4 h7 h8 h9
 go_enter func202,ntmps202
 go_wp2
 go_ret
 exact ⟨by rw [H.out];rfl,by go_grown⟩
def ChkR (r:Int) (w:World) (e:Ending) (w':World):Prop:=∃i:Int,e=.returned (.tuple #[.int .i64 i,.int .i64 r])∧Below w.heap.size w w'
theorem zch {r q i:Int} {w w':World} (h:q=r) (hb:Below w.heap.size w w'):ChkR r w (.returned (.tuple #[.int .i64 i,.int .i64 q])) w':=⟨i,by rw [h],hb⟩
def zoj (l:List Rul):Prop:=∀x∈l,(0≤x.rights.rd∧x.rights.rd<18446744073709551616)∧(0≤x.rights.wr∧x.rights.wr<18446744073709551616)∧(0≤x.rights.ow∧x.rights.ow<18446744073709551616)
theorem rg_acl (u:Int) (sv:Value) (l:List Rul) (B:Nat) (w:World) (hB:B≤w.heap.size) (hs:Sls cRul w B sv l) (hok:zoj l):
 Calls prog 115 #[.int .i64 u,sv] w (ChkR (aclE u l) w):=by
 obtain ⟨A,cap,rfl,hc,hm,hr⟩:=id hs
 have HS:=Hd hs
 have HOK:=Hd hok
 clear hs hr hok
 unfold maxLen at hm
 by_cases hu1:u<1
 ·have HE:=Hd (show aclE u l=2 by unfold aclE;rw [if_pos (by omega)])
  go_enter func115,ntmps115
  go_wp2
  go_ret2
  exact zch HE.out.symm (by go_grown)
 by_cases hu2:64<u
 ·have HE:=Hd (show aclE u l=2 by unfold aclE;rw [if_pos (by omega)])
  go_enter func115,ntmps115
  go_wp2
  go_ret2
  exact zch HE.out.symm (by go_grown)
 by_cases hl0:l.length=0
 ·have l0:((l.length:Int)==0)=true:=by simp [hl0]
  have HE:=Hd (show aclE u l=2 by unfold aclE;rw [if_pos (.inr (.inr (List.eq_nil_of_length_eq_zero hl0)))])
  clear hl0
  go_enter func115,ntmps115
  go_wp2
  go_ret2
  exact zch HE.out.symm (by go_grown)
 have l0:((l.length:Int)==0)=false:=by simpa using hl0
 have hne:l≠ []:=fun e=>hl0 (by rw [e];rfl)
 by_cases h64:64<l.length
 ·have HE:=Hd (show aclE u l=5 by unfold aclE;rw [if_neg (by simp [hne];omega),if_pos h64])
  have l64:(64:Int)<(l.length:Int):=by omega
  clear hne hl0
  go_enter func115,ntmps115
  go_wp2
  go_ret2
  exact zch HE.out.symm (by go_grown)
 have l64:¬(64:Int)<(l.length:Int):=by omega
 have hx:l[0]?=some (l[0]'(by omega)):=List.getElem?_eq_getElem (by omega)
 obtain ⟨b,o,rfl,hb,r⟩:=HS.out.get 7 zcu hx
 have HE:=Hd (show aclE u l=if (l[0]'(by omega)).rect≠⟨1,1,1024,1024⟩ then 2 else zcg (rulE u) l by
  unfold aclE
  rw [if_neg (by simp [hne];omega),if_neg h64,List.head?_eq_getElem?,hx]
  simp)
 generalize l[0]'(by omega)=x at *
 have r0:w.cell? ⟨b,o,none⟩=some (.int .i64 x.rect.c1):=by simpa using r 0 _ rfl
 have r1:w.cell? ⟨b,o+1,none⟩=some (.int .i64 x.rect.r1):=by simpa using r 1 _ rfl
 have r2:w.cell? ⟨b,o+2,none⟩=some (.int .i64 x.rect.c2):=by simpa using r 2 _ rfl
 have r3:w.cell? ⟨b,o+3,none⟩=some (.int .i64 x.rect.r2):=by simpa using r 3 _ rfl
 have hn:∀W,(binOp .neq 43 (.agg #[.int .i64 x.rect.c1,.int .i64 x.rect.r1,.int .i64 x.rect.c2,.int .i64 x.rect.r2]) (.agg #[.int .i64 1,.int .i64 1,.int .i64 1024,.int .i64 1024])).run prog W=.ok (.bool (!decide (x.rect=⟨1,1,1024,1024⟩))) W:=fun W=>zrr x.rect ⟨1,1,1024,1024⟩ W
 have hi0:(0:Int)<(l.length:Int):=by omega
 have hi1:0<l.length:=by omega
 clear hx r hne hl0
 have hbl:=block_lt_of_cell r0
 have HU:=Hd (zkh u (by omega))
 obtain ⟨q,hq⟩:∃q,(!decide (x.rect=⟨1,1,1024,1024⟩))=q:=⟨_,rfl⟩
 rw [hq] at hn
 have HQ:=Hd hq
 clear hq
 go_enter func115,ntmps115
 go_wp2
 go_region_held3 (fun W:World=>W.cell? ⟨b,o,none⟩=some (.int .i64 x.rect.c1)∧W.cell? ⟨b,o+1,none⟩=some (.int .i64 x.rect.r1)∧W.cell? ⟨b,o+2,none⟩=some (.int .i64 x.rect.c2)∧W.cell? ⟨b,o+3,none⟩=some (.int .i64 x.rect.r2))
  (first
   | exact ⟨r0,r1,r2,r3⟩
   | exact ⟨(hb1.cell hbl).trans r0,(hb1.cell hbl).trans r1,(hb1.cell hbl).trans r2,(hb1.cell hbl).trans r3⟩)
  (first
   | (go_at_call 176;refine (zrd _).mono ?_;rintro e w1 ⟨rfl,hb1⟩))
 have HB1:=Hd (show Below w.heap.size w w1 from Below.next (Below.refl _ _) (Below.trans ((Below.refl _ _).drew) hb1) (Nat.le_refl _))
 clear r0 r1 r2 r3 hb1
 cases q
 rotate_left
 ·have HE2:=Hd (show aclE u l=2 by rw [HE.out,if_pos (by simpa using HQ.out)])
  go_wp2
  go_ret2
  exact zch HE2.out.symm HB1.out
 have HE2:=Hd (show aclE u l=zcg (rulE u) l by rw [HE.out,if_neg (by simpa using HQ.out)])
 clear hn HE HQ
 go_wp2
 go_loopw [6,7] (fun i _ wr=>∃k:Nat,k≤l.length∧i=.int .i64 k∧Below w.heap.size w wr∧zcg (rulE u) l=zcg (rulE u) (l.drop k)) (fun i _ _=>l.length-(intOf i).toNat)
 case atStart=>exact ⟨0,by omega,rfl,HB1.out,by simp⟩
 obtain ⟨k,hk,rfl,hbw,hfe⟩:=hrel
 have HF:=Hd hfe
 have HBW:=Hd hbw
 clear hfe
 by_cases hlt:k<l.length
 rotate_left
 ·have hi1:¬(k:Int)<(l.length:Int):=by omega
  have HN:=Hd (show zcg (rulE u) l=0 by rw [HF.out,List.drop_of_length_le (by omega)];rfl)
  go_wp2
  go_ret2
  exact zch (by rw [HE2.out,HN.out]) HBW.out
 have hy:l[k]?=some l[k]:=List.getElem?_eq_getElem hlt
 obtain ⟨b,o,hA,hb2,r⟩:=(HS.out.below (hbw.mono hB)).get 7 zcu hy
 have HD:=Hd (zej (rulE u) hy)
 have HY:=Hd (HOK.out l[k] (List.getElem_mem hlt))
 generalize l[k]=y at *
 injection hA with hA
 injection hA with hA1 hA2
 subst hA1 hA2
 have r0:wr.cell? ⟨b,o+k*7,none⟩=some (.int .i64 y.rect.c1):=r 0 _ rfl
 have r1:wr.cell? ⟨b,o+k*7+1,none⟩=some (.int .i64 y.rect.r1):=r 1 _ rfl
 have r2:wr.cell? ⟨b,o+k*7+2,none⟩=some (.int .i64 y.rect.c2):=r 2 _ rfl
 have r3:wr.cell? ⟨b,o+k*7+3,none⟩=some (.int .i64 y.rect.r2):=r 3 _ rfl
 have R:=Hd r
 have hi0:(0:Int)≤(k:Int):=Int.natCast_nonneg _
 have hi1:(k:Int)<(l.length:Int):=by omega
 have hbw2:=block_lt_of_cell r0
 clear r hy hbw
 go_wp2_with fail
 refine (zgt _ _ _ _ _).mono ?_
 rintro e w3 ⟨rfl,hb3⟩
 have HB3:=Hd (Below.next HBW.out hb3 HBW.out.size)
 have r4:w3.cell? ⟨b,o+k*7+4,none⟩=some (.int .u64 y.rights.rd):=(hb3.cell (p:=⟨b,_,none⟩) hbw2).trans (R.out 4 _ rfl)
 have r5:w3.cell? ⟨b,o+k*7+5,none⟩=some (.int .u64 y.rights.wr):=(hb3.cell (p:=⟨b,_,none⟩) hbw2).trans (R.out 5 _ rfl)
 have r6:w3.cell? ⟨b,o+k*7+6,none⟩=some (.int .u64 y.rights.ow):=(hb3.cell (p:=⟨b,_,none⟩) hbw2).trans (R.out 6 _ rfl)
 clear hb3 r0 r1 r2 r3
 cases hrc:rctB ⟨y.rect.c1,y.rect.r1,y.rect.c2,y.rect.r2⟩
 ·have HZ:=Hd (show rulE u y=3 by unfold rulE;rw [if_pos (by unfold rctE;rw [hrc];simp)])
  clear hrc
  go_wp2
  go_ret2
  exact zch (by rw [HE2.out,HF.out,HD.out,HZ.out];rfl) HB3.out
 have HZ:=Hd (show rulE u y=if bits .andNot .u64 y.rights.rd (allI u)=0∧bits .andNot .u64 y.rights.wr (allI u)=0∧bits .andNot .u64 y.rights.ow (allI u)=0 then 0 else 2 by
  unfold rulE
  rw [if_neg (by unfold rctE;rw [hrc];simp)]
  have hi:=zqe _ _ _ _ HY.out.1 HY.out.2.1 HY.out.2.2 HU.out
  by_cases h:bits .andNot .u64 y.rights.rd (allI u)=0∧bits .andNot .u64 y.rights.wr (allI u)=0∧bits .andNot .u64 y.rights.ow (allI u)=0
  ·rw [if_pos h,if_neg (fun e=>e (hi.2 h))]
  rw [if_neg h,if_pos (fun e=>h (hi.1 e))])
 clear hrc
 go_wp2_with fail
 refine (zd9 y.rights.rd u _ (by omega) (by omega)).mono ?_
 rintro e w4 ⟨rfl,rfl⟩
 by_cases h1:bits .andNot .u64 y.rights.rd (allI u)=0
 rotate_left
 ·have HZ2:=Hd (HZ.out.trans (if_neg (fun h=>h1 h.1)))
  rw [decide_eq_false h1]
  clear h1 HZ
  go_wp2
  go_ret2
  exact zch (by rw [HE2.out,HF.out,HD.out,HZ2.out];rfl) (HB3.out.alloc HB3.out.size _)
 rw [decide_eq_true h1]
 go_wp2_with fail
 refine (zd9 y.rights.wr u _ (by omega) (by omega)).mono ?_
 rintro e w4 ⟨rfl,rfl⟩
 by_cases h2:bits .andNot .u64 y.rights.wr (allI u)=0
 rotate_left
 ·have HZ2:=Hd (HZ.out.trans (if_neg (fun h=>h2 h.2.1)))
  rw [decide_eq_false h2]
  clear h1 h2 HZ
  go_wp2
  go_ret2
  exact zch (by rw [HE2.out,HF.out,HD.out,HZ2.out];rfl) (HB3.out.alloc HB3.out.size _)
 rw [decide_eq_true h2]
 go_wp2_with fail
 refine (zd9 y.rights.ow u _ (by omega) (by omega)).mono ?_
 rintro e w4 ⟨rfl,rfl⟩
 by_cases h3:bits .andNot .u64 y.rights.ow (allI u)=0
 rotate_left
 ·have HZ2:=Hd (HZ.out.trans (if_neg (fun h=>h3 h.2.2)))
  rw [decide_eq_false h3]
  clear h1 h2 h3 HZ
  go_wp2
  go_ret2
  exact zch (by rw [HE2.out,HF.out,HD.out,HZ2.out];rfl) (HB3.out.alloc HB3.out.size _)
 rw [decide_eq_true h3]
 have HZ2:=Hd (HZ.out.trans (if_pos ⟨h1,h2,h3⟩))
 clear h1 h2 h3 HZ
 go_wp2
 exact ⟨⟨k+1,by omega,by go_num,HB3.out.alloc HB3.out.size _,by rw [HF.out,HD.out,HZ2.out];rfl⟩,by simp [intOf];omega⟩
theorem zq6 (u:Int) (sv:Value) (l:List Grt) (B:Nat) (w:World) (hB:B≤w.heap.size) (hs:Sls cGrt w B sv l):
 Calls prog 116 #[.int .i64 u,sv] w (ChkR (zdx u l) w):=by
 obtain ⟨A,cap,rfl,hc,hm,hr⟩:=id hs
 have HS:=Hd hs
 clear hs hr
 unfold maxLen at hm
 by_cases hu1:u<1
 ·have HE:=Hd (show zdx u l=2 by unfold zdx;rw [if_pos (by omega)])
  go_enter func116,ntmps116
  go_wp2
  go_ret2
  exact zch HE.out.symm (by go_grown)
 by_cases hu2:64<u
 ·have HE:=Hd (show zdx u l=2 by unfold zdx;rw [if_pos (by omega)])
  go_enter func116,ntmps116
  go_wp2
  go_ret2
  exact zch HE.out.symm (by go_grown)
 by_cases h64:64<l.length
 ·have HE:=Hd (show zdx u l=5 by unfold zdx;rw [if_neg (by omega),if_pos h64])
  have l64:(64:Int)<(l.length:Int):=by omega
  go_enter func116,ntmps116
  go_wp2
  go_ret2
  exact zch HE.out.symm (by go_grown)
 have l64:¬(64:Int)<(l.length:Int):=by omega
 have HE:=Hd (show zdx u l=zcg (grtE u) l by unfold zdx;rw [if_neg (by omega),if_neg h64])
 have HAL:=Hd (fun x=>zny u x (by omega) (by omega))
 go_enter func116,ntmps116
 go_wp2_with fail
 go_loopw [6] (fun i wr=>∃k:Nat,k≤l.length∧i=.int .i64 k∧Below w.heap.size w wr∧zcg (grtE u) l=zcg (grtE u) (l.drop k)) (fun i _=>l.length-(intOf i).toNat)
 case atStart=>exact ⟨0,by omega,rfl,Below.refl _ _,by simp⟩
 rename World=>wr
 obtain ⟨k,hk,rfl,hbw,hfe⟩:=hrel
 have HF:=Hd hfe
 have HBW:=Hd hbw
 clear hfe
 have hi0:(0:Int)≤(k:Int):=Int.natCast_nonneg _
 by_cases hlt:k<l.length
 rotate_left
 ·have hi1:¬(k:Int)<(l.length:Int):=by omega
  have HN:=Hd (show zcg (grtE u) l=0 by rw [HF.out,List.drop_of_length_le (by omega)];rfl)
  go_wp2
  go_ret2
  exact zch (by rw [HE.out,HN.out]) HBW.out
 have hy:l[k]?=some l[k]:=List.getElem?_eq_getElem hlt
 obtain ⟨b,o,hA,hb2,r⟩:=(HS.out.below (hbw.mono hB)).get 8 zdm hy
 have HD:=Hd (zej (grtE u) hy)
 generalize l[k]=y at *
 subst hA
 have r0:wr.cell? ⟨b,o+k*8,none⟩=some (.int .i64 y.rect.c1):=r 0 _ rfl
 have r1:wr.cell? ⟨b,o+k*8+1,none⟩=some (.int .i64 y.rect.r1):=r 1 _ rfl
 have r2:wr.cell? ⟨b,o+k*8+2,none⟩=some (.int .i64 y.rect.c2):=r 2 _ rfl
 have r3:wr.cell? ⟨b,o+k*8+3,none⟩=some (.int .i64 y.rect.r2):=r 3 _ rfl
 have r4:wr.cell? ⟨b,o+k*8+4,none⟩=some (.int .u8 y.fns):=r 4 _ rfl
 have r5:wr.cell? ⟨b,o+k*8+5,none⟩=some (.int .u64 y.to_):=r 5 _ rfl
 have r6:wr.cell? ⟨b,o+k*8+6,none⟩=some (.int .i64 y.by_):=r 6 _ rfl
 have r7:wr.cell? ⟨b,o+k*8+7,none⟩=some (.bool y.revoked):=r 7 _ rfl
 have hi1:(k:Int)<(l.length:Int):=by omega
 have K0:=Hd (Blk.new wr 85 #[.int .i64 y.rect.c1,.int .i64 y.rect.r1,.int .i64 y.rect.c2,.int .i64 y.rect.r2,.int .u8 y.fns,.int .u64 y.to_,.int .i64 y.by_,.bool y.revoked])
 have HB0:=Hd (HBW.out.alloc HBW.out.size (.cells #[.int .i64 y.rect.c1,.int .i64 y.rect.r1,.int .i64 y.rect.c2,.int .i64 y.rect.r2,.int .u8 y.fns,.int .u64 y.to_,.int .i64 y.by_,.bool y.revoked] 85))
 clear r hy hbw
 go_wp2_with fail
 refine (zgt _ _ _ _ _).mono ?_
 rintro e w3 ⟨rfl,hb3⟩
 have K3:=Hd (K0.out.below_ hb3)
 have HB3:=Hd (Below.next HB0.out hb3 HB0.out.size)
 have q4:w3.cell? ⟨wr.heap.size,4,none⟩=some (.int .u8 y.fns):=K3.out.cell 4
 have q5:w3.cell? ⟨wr.heap.size,5,none⟩=some (.int .u64 y.to_):=K3.out.cell 5
 have q6:w3.cell? ⟨wr.heap.size,6,none⟩=some (.int .i64 y.by_):=K3.out.cell 6
 clear hb3 r0 r1 r2 r3 r4 r5 r6 r7 K0 HB0
 cases hrc:rctB ⟨y.rect.c1,y.rect.r1,y.rect.c2,y.rect.r2⟩
 ·have HZ:=Hd (show grtE u y=3 by unfold grtE;rw [if_pos (by unfold rctE;rw [hrc];simp)])
  clear hrc
  go_wp2
  go_ret2
  exact zch (by rw [HE.out,HF.out,HD.out,HZ.out];rfl) HB3.out
 have HZ:=Hd (show grtE u y=if y.fns<1∨31<y.fns∨bits .andNot .u64 y.to_ (allI u)≠0∨hasI (allI u) y.by_=false then 2 else 0 by
  unfold grtE
  rw [if_neg (by unfold rctE;rw [hrc];simp)])
 rw [HAL.out] at HZ
 clear hrc
 by_cases c1:y.fns<1
 ·have HY:=Hd (HZ.out.trans (if_pos (.inl c1)))
  go_wp2
  go_ret2
  exact zch (by rw [HE.out,HF.out,HD.out,HY.out];rfl) HB3.out
 by_cases c2:31<y.fns
 ·have HY:=Hd (HZ.out.trans (if_pos (.inr (.inl c2))))
  go_wp2
  go_ret2
  exact zch (by rw [HE.out,HF.out,HD.out,HY.out];rfl) HB3.out
 go_wp2_with fail
 refine (zd9 y.to_ u _ (by omega) (by omega)).mono ?_
 rintro e w4 ⟨rfl,rfl⟩
 by_cases c3:bits .andNot .u64 y.to_ (allI u)=0
 rotate_left
 ·have HY:=Hd (HZ.out.trans (if_pos (.inr (.inr (.inl c3)))))
  rw [decide_eq_false c3]
  clear c3 HZ
  go_wp2
  go_ret2
  exact zch (by rw [HE.out,HF.out,HD.out,HY.out];rfl) HB3.out
 rw [decide_eq_true c3]
 by_cases c4:y.by_<0
 ·have HY:=Hd (HZ.out.trans (if_pos (.inr (.inr (.inr (by rw [decide_eq_false (by omega:¬0≤y.by_)];rfl))))))
  clear c3 HZ
  go_wp2
  go_ret2
  exact zch (by rw [HE.out,HF.out,HD.out,HY.out];rfl) HB3.out
 by_cases c5:u≤y.by_
 ·have HY:=Hd (HZ.out.trans (if_pos (.inr (.inr (.inr (by rw [decide_eq_false (by omega:¬y.by_<u),Bool.and_false]))))))
  clear c3 HZ
  go_wp2
  go_ret2
  exact zch (by rw [HE.out,HF.out,HD.out,HY.out];rfl) HB3.out
 have HY:=Hd (HZ.out.trans (if_neg (by rw [decide_eq_true (by omega:0≤y.by_),decide_eq_true (by omega:y.by_<u)];simp [c3];omega)))
 clear c3 HZ
 go_wp2
 exact ⟨⟨k+1,by omega,by go_num,HB3.out,by rw [HF.out,HD.out,HY.out];rfl⟩,by simp [intOf];omega⟩
theorem zue (u z:Int) (y:Evt) (w:World) (hu1:1≤u) (hu2:u≤64) (hto:0≤y.to_∧y.to_<18446744073709551616):
 Calls prog 179 #[.int .i64 u,.int .i64 z,.agg #[.int .i64 y.step,.int .i64 y.user,.int .u8 y.kind,.int .i64 y.rect.c1,.int .i64 y.rect.r1,.int .i64 y.rect.c2,.int .i64 y.rect.r2,.bool y.done_,.int .u64 y.to_]] w fun e w'=>e=.returned (.int .i64 (evE u z y))∧Below w.heap.size w w':=by
 have K0:=Hd (Blk.new w 110 #[.int .i64 y.step,.int .i64 y.user,.int .u8 y.kind,.int .i64 y.rect.c1,.int .i64 y.rect.r1,.int .i64 y.rect.c2,.int .i64 y.rect.r2,.bool y.done_,.int .u64 y.to_])
 have HB0:=Hd (show Below w.heap.size w (w.alloc (.cells #[.int .i64 y.step,.int .i64 y.user,.int .u8 y.kind,.int .i64 y.rect.c1,.int .i64 y.rect.r1,.int .i64 y.rect.c2,.int .i64 y.rect.r2,.bool y.done_,.int .u64 y.to_] 110)) by go_grown)
 have HZ0:Hid (evE u z y=if y.step≤z then 12 else if mutB y.kind=false∨hasI (allI u) y.user=false then 2 else if rctE y.rect≠0 then 3 else if bits .andNot .u64 y.to_ (allI u)≠0∨hasI y.to_ y.user=false then 2 else 0):=Hd rfl
 rw [zny u _ (by omega) hu2] at HZ0
 by_cases c1:y.step≤z
 ·have HY:=Hd (HZ0.out.trans (if_pos c1))
  go_enter func179,ntmps179
  go_wp2
  go_ret
  exact ⟨by rw [HY.out];rfl,HB0.out⟩
 have HZ1:=Hd (HZ0.out.trans (if_neg c1))
 clear HZ0
 go_enter func179,ntmps179
 go_wp2_with fail
 refine (zoy y.kind _).mono ?_
 rintro e w1 ⟨rfl,hb1⟩
 have K1:=Hd (K0.out.below_ hb1)
 have HB1:=Hd (Below.next HB0.out hb1 HB0.out.size)
 have q1:w1.cell? ⟨w.heap.size,1,none⟩=some (.int .i64 y.user):=K1.out.cell 1
 have q3:w1.cell? ⟨w.heap.size,3,none⟩=some (.int .i64 y.rect.c1):=K1.out.cell 3
 have q4:w1.cell? ⟨w.heap.size,4,none⟩=some (.int .i64 y.rect.r1):=K1.out.cell 4
 have q5:w1.cell? ⟨w.heap.size,5,none⟩=some (.int .i64 y.rect.c2):=K1.out.cell 5
 have q6:w1.cell? ⟨w.heap.size,6,none⟩=some (.int .i64 y.rect.r2):=K1.out.cell 6
 have q8:w1.cell? ⟨w.heap.size,8,none⟩=some (.int .u64 y.to_):=K1.out.cell 8
 clear hb1 K0 HB0
 obtain ⟨mb,hmb⟩:∃m,mutB y.kind=m:=⟨_,rfl⟩
 rw [hmb] at HZ1 ⊢
 clear hmb
 cases mb
 ·have HY:=Hd (HZ1.out.trans (if_pos (.inl rfl)))
  go_wp2
  go_ret
  exact ⟨by rw [HY.out];rfl,HB1.out⟩
 by_cases c2:y.user<0
 ·have HY:=Hd (HZ1.out.trans (if_pos (.inr (by rw [decide_eq_false (by omega:¬0≤y.user)];rfl))))
  go_wp2
  go_ret
  exact ⟨by rw [HY.out];rfl,HB1.out⟩
 by_cases c3:u≤y.user
 ·have HY:=Hd (HZ1.out.trans (if_pos (.inr (by rw [decide_eq_false (by omega:¬y.user<u),Bool.and_false]))))
  go_wp2
  go_ret
  exact ⟨by rw [HY.out];rfl,HB1.out⟩
 have HZ2:=Hd (HZ1.out.trans (if_neg (by rw [decide_eq_true (by omega:0≤y.user),decide_eq_true (by omega:y.user<u)];simp)))
 clear HZ1
 go_wp2_with fail
 refine (zgt _ _ _ _ _).mono ?_
 rintro e w2 ⟨rfl,hb2⟩
 have K2:=Hd (K1.out.below_ hb2)
 have HB2:=Hd (Below.next HB1.out hb2 HB1.out.size)
 clear q1 q3 q4 q5 q6 q8 hb2 K1 HB1
 have q1:w2.cell? ⟨w.heap.size,1,none⟩=some (.int .i64 y.user):=K2.out.cell 1
 have q8:w2.cell? ⟨w.heap.size,8,none⟩=some (.int .u64 y.to_):=K2.out.cell 8
 cases hrc:rctB ⟨y.rect.c1,y.rect.r1,y.rect.c2,y.rect.r2⟩
 ·have HY:=Hd (HZ2.out.trans (if_pos (by unfold rctE;rw [hrc];simp)))
  clear hrc
  go_wp2
  go_ret
  exact ⟨by rw [HY.out];rfl,HB2.out⟩
 have HZ3:=Hd (HZ2.out.trans (if_neg (by unfold rctE;rw [hrc];simp)))
 clear HZ2 hrc
 go_wp2_with fail
 refine (zd9 y.to_ u _ (by omega) hu2).mono ?_
 rintro e w4 ⟨rfl,rfl⟩
 by_cases c4:bits .andNot .u64 y.to_ (allI u)=0
 rotate_left
 ·have HY:=Hd (HZ3.out.trans (if_pos (.inl c4)))
  rw [decide_eq_false c4]
  clear c4 HZ3
  go_wp2
  go_ret
  exact ⟨by rw [HY.out];rfl,HB2.out⟩
 rw [decide_eq_true c4]
 go_wp2_with fail
 refine (rg_has y.to_ y.user _ hto.1 hto.2).mono ?_
 rintro e w4 ⟨rfl,rfl⟩
 cases hh:hasI y.to_ y.user
 ·have HY:=Hd (HZ3.out.trans (if_pos (.inr hh)))
  clear c4 HZ3 hh
  go_wp2
  go_ret
  exact ⟨by rw [HY.out];rfl,HB2.out⟩
 have HY:=Hd (HZ3.out.trans (if_neg (by rw [hh];simp [c4])))
 clear c4 HZ3 hh
 go_wp2
 go_ret
 exact ⟨by rw [HY.out];rfl,HB2.out⟩
theorem zox (u z:Int) (y:Rls) (w:World) (hu1:1≤u) (hu2:u≤64):
 Calls prog 180 #[.int .i64 u,.int .i64 z,.agg #[.int .i64 y.step,.int .i64 y.at_.col,.int .i64 y.at_.row,.int .i64 y.node,.int .u8 y.fn,.int .i64 y.rect.c1,.int .i64 y.rect.r1,.int .i64 y.rect.c2,.int .i64 y.rect.r2,.int .i64 y.grant,.int .u64 y.to_]] w fun e w'=>e=.returned (.int .i64 (rlE u z y))∧Below w.heap.size w w':=by
 have K0:=Hd (Blk.new w 116 #[.int .i64 y.step,.int .i64 y.at_.col,.int .i64 y.at_.row,.int .i64 y.node,.int .u8 y.fn,.int .i64 y.rect.c1,.int .i64 y.rect.r1,.int .i64 y.rect.c2,.int .i64 y.rect.r2,.int .i64 y.grant,.int .u64 y.to_])
 have HB0:=Hd (show Below w.heap.size w (w.alloc (.cells #[.int .i64 y.step,.int .i64 y.at_.col,.int .i64 y.at_.row,.int .i64 y.node,.int .u8 y.fn,.int .i64 y.rect.c1,.int .i64 y.rect.r1,.int .i64 y.rect.c2,.int .i64 y.rect.r2,.int .i64 y.grant,.int .u64 y.to_] 116)) by go_grown)
 have HZ0:Hid (rlE u z y=if y.step<z then 12 else if za1 y.at_.col y.at_.row=false∨rctE y.rect≠0 then 3 else if y.node<0∨256≤y.node∨y.fn<46∨50<y.fn∨y.grant<0∨64≤y.grant∨bits .andNot .u64 y.to_ (allI u)≠0 then 2 else 0):=Hd rfl
 by_cases c1:y.step<z
 ·have HY:=Hd (HZ0.out.trans (if_pos c1))
  go_enter func180,ntmps180
  go_wp2
  go_ret
  exact ⟨by rw [HY.out];rfl,HB0.out⟩
 have HZ1:=Hd (HZ0.out.trans (if_neg c1))
 clear HZ0
 go_enter func180,ntmps180
 go_wp2_with fail
 refine (zmc _ _ _).mono ?_
 rintro e w1 ⟨rfl,hb1⟩
 have K1:=Hd (K0.out.below_ hb1)
 have HB1:=Hd (Below.next HB0.out hb1 HB0.out.size)
 have q3:w1.cell? ⟨w.heap.size,3,none⟩=some (.int .i64 y.node):=K1.out.cell 3
 have q4:w1.cell? ⟨w.heap.size,4,none⟩=some (.int .u8 y.fn):=K1.out.cell 4
 have q5:w1.cell? ⟨w.heap.size,5,none⟩=some (.int .i64 y.rect.c1):=K1.out.cell 5
 have q6:w1.cell? ⟨w.heap.size,6,none⟩=some (.int .i64 y.rect.r1):=K1.out.cell 6
 have q7:w1.cell? ⟨w.heap.size,7,none⟩=some (.int .i64 y.rect.c2):=K1.out.cell 7
 have q8:w1.cell? ⟨w.heap.size,8,none⟩=some (.int .i64 y.rect.r2):=K1.out.cell 8
 have q9:w1.cell? ⟨w.heap.size,9,none⟩=some (.int .i64 y.grant):=K1.out.cell 9
 have q10:w1.cell? ⟨w.heap.size,10,none⟩=some (.int .u64 y.to_):=K1.out.cell 10
 clear hb1 K0 HB0
 cases hv:za1 y.at_.col y.at_.row
 ·have HY:=Hd (HZ1.out.trans (if_pos (.inl hv)))
  clear hv
  go_wp2
  go_ret
  exact ⟨by rw [HY.out];rfl,HB1.out⟩
 go_wp2_with fail
 refine (zgt _ _ _ _ _).mono ?_
 rintro e w2 ⟨rfl,hb2⟩
 have K2:=Hd (K1.out.below_ hb2)
 have HB2:=Hd (Below.next HB1.out hb2 HB1.out.size)
 clear q3 q4 q5 q6 q7 q8 q9 q10 hb2 K1 HB1
 have q3:w2.cell? ⟨w.heap.size,3,none⟩=some (.int .i64 y.node):=K2.out.cell 3
 have q4:w2.cell? ⟨w.heap.size,4,none⟩=some (.int .u8 y.fn):=K2.out.cell 4
 have q9:w2.cell? ⟨w.heap.size,9,none⟩=some (.int .i64 y.grant):=K2.out.cell 9
 have q10:w2.cell? ⟨w.heap.size,10,none⟩=some (.int .u64 y.to_):=K2.out.cell 10
 cases hrc:rctB ⟨y.rect.c1,y.rect.r1,y.rect.c2,y.rect.r2⟩
 ·have HY:=Hd (HZ1.out.trans (if_pos (.inr (by unfold rctE;rw [hrc];simp))))
  clear hrc hv
  go_wp2
  go_ret
  exact ⟨by rw [HY.out];rfl,HB2.out⟩
 have HZ3:=Hd (HZ1.out.trans (if_neg (by unfold rctE;rw [hrc,hv];simp)))
 clear HZ1 hrc hv
 by_cases c2:y.node<0
 ·have HY:=Hd (HZ3.out.trans (if_pos (.inl c2)))
  go_wp2
  go_ret
  exact ⟨by rw [HY.out];rfl,HB2.out⟩
 by_cases c3:256≤y.node
 ·have HY:=Hd (HZ3.out.trans (if_pos (.inr (.inl c3))))
  go_wp2
  go_ret
  exact ⟨by rw [HY.out];rfl,HB2.out⟩
 go_wp2_with fail
 refine (zl9 y.fn _).mono ?_
 rintro e w4 ⟨rfl,rfl⟩
 by_cases c4:y.fn<46
 ·have HY:=Hd (HZ3.out.trans (if_pos (.inr (.inr (.inl c4)))))
  rw [decide_eq_false (by omega:¬46≤y.fn),Bool.false_and]
  go_wp2
  go_ret
  exact ⟨by rw [HY.out];rfl,HB2.out⟩
 by_cases c5:50<y.fn
 ·have HY:=Hd (HZ3.out.trans (if_pos (.inr (.inr (.inr (.inl c5))))))
  rw [decide_eq_false (by omega:¬y.fn≤50),Bool.and_false]
  go_wp2
  go_ret
  exact ⟨by rw [HY.out];rfl,HB2.out⟩
 rw [decide_eq_true (by omega:46≤y.fn),decide_eq_true (by omega:y.fn≤50),Bool.and_self]
 by_cases c6:y.grant<0
 ·have HY:=Hd (HZ3.out.trans (if_pos (.inr (.inr (.inr (.inr (.inl c6)))))))
  go_wp2
  go_ret
  exact ⟨by rw [HY.out];rfl,HB2.out⟩
 by_cases c7:64≤y.grant
 ·have HY:=Hd (HZ3.out.trans (if_pos (.inr (.inr (.inr (.inr (.inr (.inl c7))))))))
  go_wp2
  go_ret
  exact ⟨by rw [HY.out];rfl,HB2.out⟩
 go_wp2_with fail
 refine (zd9 y.to_ u _ (by omega) hu2).mono ?_
 rintro e w4 ⟨rfl,rfl⟩
 by_cases c8:bits .andNot .u64 y.to_ (allI u)=0
 rotate_left
 ·have HY:=Hd (HZ3.out.trans (if_pos (.inr (.inr (.inr (.inr (.inr (.inr c8))))))))
  rw [decide_eq_false c8]
  clear c8 HZ3
  go_wp2
  go_ret
  exact ⟨by rw [HY.out];rfl,HB2.out⟩
 rw [decide_eq_true c8]
 have HY:=Hd (HZ3.out.trans (if_neg (by simp [c8];omega)))
 clear c8 HZ3
 go_wp2
 go_ret
 exact ⟨by rw [HY.out];rfl,HB2.out⟩
theorem zuf (u:Int) (sv sv2:Value) (l:List Evt) (m:List Rls) (B:Nat) (w:World) (hB:B≤w.heap.size) (hs:Sls cEvt w B sv l) (hs2:Sls cRls w B sv2 m) (hto:∀x∈l,0≤x.to_∧x.to_<18446744073709551616):
 Calls prog 117 #[.int .i64 u,sv,sv2] w fun e w'=>e=.returned (.int .i64 (audE u l m))∧Below w.heap.size w w':=by
 obtain ⟨A,cap,rfl,hc,hm,hr⟩:=id hs
 obtain ⟨A2,cap2,rfl,hc2,hm2,hr2⟩:=id hs2
 have HS:=Hd hs
 have HS2:=Hd hs2
 have HTO:=Hd hto
 clear hs hr hs2 hr2 hto
 unfold maxLen at hm hm2
 by_cases hu1:u<1
 ·have HE:=Hd (show audE u l m=2 by unfold audE;rw [if_pos (by omega)])
  go_enter func117,ntmps117
  go_wp2
  go_ret
  exact ⟨by rw [HE.out];rfl,by go_grown⟩
 by_cases hu2:64<u
 ·have HE:=Hd (show audE u l m=2 by unfold audE;rw [if_pos (by omega)])
  go_enter func117,ntmps117
  go_wp2
  go_ret
  exact ⟨by rw [HE.out];rfl,by go_grown⟩
 have HE0:=Hd (show audE u l m=if evsE u (-1) l≠0 then evsE u (-1) l else rlsE u (-1) m by unfold audE;rw [if_neg (by omega)])
 have HU:=Hd (show 1≤u∧u≤64 from ⟨by omega,by omega⟩)
 go_enter func117,ntmps117
 go_wp2_with fail
 go_loopw [7,8] (fun last i wr=>∃(k:Nat) (z:Int),k≤l.length∧last=.int .i64 z∧i=.int .i64 k∧Below w.heap.size w wr∧evsE u (-1) l=evsE u z (l.drop k)) (fun _ i _=>l.length-(intOf i).toNat)
 case atStart=>exact ⟨0, -1,by omega,rfl,rfl,Below.refl _ _,by simp⟩
 rename World=>wr
 obtain ⟨k,z,hk,rfl,rfl,hbw,hfe⟩:=hrel
 have HF:=Hd hfe
 have HBW:=Hd hbw
 clear hfe
 have hi0:(0:Int)≤(k:Int):=Int.natCast_nonneg _
 by_cases hlt:k<l.length
 rotate_left
 ·have hi1:¬(k:Int)<(l.length:Int):=by omega
  have HN:=Hd (show evsE u (-1) l=0 by rw [HF.out,List.drop_of_length_le (by omega)];rfl)
  have HE1:=Hd (show audE u l m=rlsE u (-1) m by rw [HE0.out,HN.out];rfl)
  clear HE0 HF HN
  have HE0:=HE1
  clear HE1
  obtain ⟨wq,hwq⟩:∃W,wr=W:=⟨_,rfl⟩
  have HBL:=Hd (show Below w.heap.size w wq from hwq▸HBW.out)
  rw [hwq]
  clear hwq hbw HBW hk hlt hi0
  go_wp2_with fail
  clear hi1
  go_loopw [7,10] (fun last i wr=>∃(k:Nat) (z:Int),k≤m.length∧last=.int .i64 z∧i=.int .i64 k∧Below w.heap.size w wr∧rlsE u (-1) m=rlsE u z (m.drop k)) (fun _ i _=>m.length-(intOf i).toNat)
  case atStart=>exact ⟨0, -1,by omega,rfl,rfl,HBL.out,by simp⟩
  rename World=>wr
  obtain ⟨k,z,hk,rfl,rfl,hbw,hfe⟩:=hrel
  have HF:=Hd hfe
  have HBW:=Hd hbw
  clear hfe
  have hi0:(0:Int)≤(k:Int):=Int.natCast_nonneg _
  by_cases hlt:k<m.length
  rotate_left
  ·have hi1:¬(k:Int)<(m.length:Int):=by omega
   have HN:=Hd (show rlsE u (-1) m=0 by rw [HF.out,List.drop_of_length_le (by omega)];rfl)
   go_wp2
   go_ret
   exact ⟨by rw [HE0.out,HN.out];rfl,HBW.out⟩
  have hy:m[k]?=some m[k]:=List.getElem?_eq_getElem hlt
  obtain ⟨b,o,hA,hb2,r⟩:=(HS2.out.below (hbw.mono hB)).get 11 zcv hy
  have HD:=Hd (zky u z hy)
  generalize m[k]=y at *
  subst hA
  have r0:wr.cell? ⟨b,o+k*11,none⟩=some (.int .i64 y.step):=r 0 _ rfl
  have r1:wr.cell? ⟨b,o+k*11+1,none⟩=some (.int .i64 y.at_.col):=r 1 _ rfl
  have r2:wr.cell? ⟨b,o+k*11+2,none⟩=some (.int .i64 y.at_.row):=r 2 _ rfl
  have r3:wr.cell? ⟨b,o+k*11+3,none⟩=some (.int .i64 y.node):=r 3 _ rfl
  have r4:wr.cell? ⟨b,o+k*11+4,none⟩=some (.int .u8 y.fn):=r 4 _ rfl
  have r5:wr.cell? ⟨b,o+k*11+5,none⟩=some (.int .i64 y.rect.c1):=r 5 _ rfl
  have r6:wr.cell? ⟨b,o+k*11+6,none⟩=some (.int .i64 y.rect.r1):=r 6 _ rfl
  have r7:wr.cell? ⟨b,o+k*11+7,none⟩=some (.int .i64 y.rect.c2):=r 7 _ rfl
  have r8:wr.cell? ⟨b,o+k*11+8,none⟩=some (.int .i64 y.rect.r2):=r 8 _ rfl
  have r9:wr.cell? ⟨b,o+k*11+9,none⟩=some (.int .i64 y.grant):=r 9 _ rfl
  have r10:wr.cell? ⟨b,o+k*11+10,none⟩=some (.int .u64 y.to_):=r 10 _ rfl
  have hi1:(k:Int)<(m.length:Int):=by omega
  have hbl:=block_lt_of_cell r0
  have HC:=Hd (show Calls prog 180 #[.int .i64 u,.int .i64 z,.agg #[.int .i64 y.step,.int .i64 y.at_.col,.int .i64 y.at_.row,.int .i64 y.node,.int .u8 y.fn,.int .i64 y.rect.c1,.int .i64 y.rect.r1,.int .i64 y.rect.c2,.int .i64 y.rect.r2,.int .i64 y.grant,.int .u64 y.to_]] wr fun e w'=>e=.returned (.int .i64 (rlE u z y))∧Below wr.heap.size wr w' from zox u z y wr HU.out.1 HU.out.2)
  obtain ⟨e,he⟩:∃e,rlE u z y=e:=⟨_,rfl⟩
  rw [he] at HC HD
  clear r hy hbw he
  go_wp2_with fail
  refine HC.out.mono ?_
  rintro _ w2 ⟨rfl,hb2'⟩
  have HB2:=Hd (Below.next HBW.out hb2' HBW.out.size)
  have r0':w2.cell? ⟨b,o+k*11,none⟩=some (.int .i64 y.step):=(hb2'.cell (p:=⟨b,o+k*11,none⟩) hbl).trans r0
  clear r0 r1 r2 r3 r4 r5 r6 r7 r8 r9 r10 hb2'
  by_cases h0:e=0
  ·have b0:(e != 0)=false:=by simpa using h0
   have HF2:=Hd (show rlsE u (-1) m=rlsE u y.step (m.drop (k+1)) by rw [HF.out,HD.out,if_neg (by simpa using h0)])
   clear h0 HD HF
   go_wp2
   exact ⟨⟨k+1,y.step,by omega,rfl,by go_num,HB2.out,HF2.out⟩,by simp [intOf];omega⟩
  have b0:(e != 0)=true:=by simpa using h0
  have HE2:=Hd (show rlsE u (-1) m=e by rw [HF.out,HD.out,if_pos (by simpa using h0)])
  have HE3:=Hd (show audE u l m=e by rw [HE0.out,HE2.out])
  clear h0 HD HF
  go_wp2
  go_ret
  exact ⟨by rw [HE3.out];rfl,HB2.out⟩
 have hy:l[k]?=some l[k]:=List.getElem?_eq_getElem hlt
 obtain ⟨b,o,hA,hb2,r⟩:=(HS.out.below (hbw.mono hB)).get 9 zcw hy
 have HD:=Hd (zlt u z hy)
 have HT:=Hd (HTO.out _ (List.getElem_mem hlt))
 generalize l[k]=y at *
 subst hA
 have r0:wr.cell? ⟨b,o+k*9,none⟩=some (.int .i64 y.step):=r 0 _ rfl
 have r1:wr.cell? ⟨b,o+k*9+1,none⟩=some (.int .i64 y.user):=r 1 _ rfl
 have r2:wr.cell? ⟨b,o+k*9+2,none⟩=some (.int .u8 y.kind):=r 2 _ rfl
 have r3:wr.cell? ⟨b,o+k*9+3,none⟩=some (.int .i64 y.rect.c1):=r 3 _ rfl
 have r4:wr.cell? ⟨b,o+k*9+4,none⟩=some (.int .i64 y.rect.r1):=r 4 _ rfl
 have r5:wr.cell? ⟨b,o+k*9+5,none⟩=some (.int .i64 y.rect.c2):=r 5 _ rfl
 have r6:wr.cell? ⟨b,o+k*9+6,none⟩=some (.int .i64 y.rect.r2):=r 6 _ rfl
 have r7:wr.cell? ⟨b,o+k*9+7,none⟩=some (.bool y.done_):=r 7 _ rfl
 have r8:wr.cell? ⟨b,o+k*9+8,none⟩=some (.int .u64 y.to_):=r 8 _ rfl
 have hi1:(k:Int)<(l.length:Int):=by omega
 have hbl:=block_lt_of_cell r0
 have HC:=Hd (show Calls prog 179 #[.int .i64 u,.int .i64 z,.agg #[.int .i64 y.step,.int .i64 y.user,.int .u8 y.kind,.int .i64 y.rect.c1,.int .i64 y.rect.r1,.int .i64 y.rect.c2,.int .i64 y.rect.r2,.bool y.done_,.int .u64 y.to_]] wr fun e w'=>e=.returned (.int .i64 (evE u z y))∧Below wr.heap.size wr w' from zue u z y wr HU.out.1 HU.out.2 HT.out)
 obtain ⟨e,he⟩:∃e,evE u z y=e:=⟨_,rfl⟩
 rw [he] at HC HD
 clear r hy hbw he
 go_wp2_with fail
 refine HC.out.mono ?_
 rintro _ w2 ⟨rfl,hb2'⟩
 have HB2:=Hd (Below.next HBW.out hb2' HBW.out.size)
 have r0':w2.cell? ⟨b,o+k*9,none⟩=some (.int .i64 y.step):=(hb2'.cell (p:=⟨b,o+k*9,none⟩) hbl).trans r0
 clear r0 r1 r2 r3 r4 r5 r6 r7 r8 hb2'
 by_cases h0:e=0
 ·have b0:(e != 0)=false:=by simpa using h0
  have HF2:=Hd (show evsE u (-1) l=evsE u y.step (l.drop (k+1)) by rw [HF.out,HD.out,if_neg (by simpa using h0)])
  clear h0 HD HF
  go_wp2
  exact ⟨⟨k+1,y.step,by omega,rfl,by go_num,HB2.out,HF2.out⟩,by simp [intOf];omega⟩
 have b0:(e != 0)=true:=by simpa using h0
 have HE2:=Hd (show evsE u (-1) l=e by rw [HF.out,HD.out,if_pos (by simpa using h0)])
 have HE3:=Hd (show audE u l m=e by rw [HE0.out,HE2.out,if_pos h0])
 clear h0 HD HF
 go_wp2
 go_ret
 exact ⟨by rw [HE3.out];rfl,HB2.out⟩
theorem zau {n:Int} (h:okV (.int .i64 n)):I64 n:=by
 simp [okV,Lit.wf,IntKind.min,IntKind.max,IntKind.bits,IntKind.signed] at h
 unfold I64
 omega
theorem zd2 {n:Int} (h:okV (.int .u64 n)):U64 n:=by
 simp [okV,Lit.wf,IntKind.min,IntKind.max,IntKind.bits,IntKind.signed] at h
 unfold U64
 omega
theorem zlc {n:Int} (h:okV (.int .u8 n)):U8 n:=by
 simp [okV,Lit.wf,IntKind.min,IntKind.max,IntKind.bits,IntKind.signed] at h
 unfold U8
 omega
theorem zro {s:zaa} (h:okV (str s)):ztm s:=by
 have h2:(⟨s.toArray⟩:ByteArray).size≤maxLen:=h
 simp only [ByteArray.size,List.size_toArray] at h2
 unfold ztm maxLen at *
 omega
theorem okS.scp {s:Scp} (h:okS s) (hl:zds s=false):OkScp s:=by
 obtain ⟨k1,k2⟩:=zfh hl
 unfold sumS at k1
 refine ⟨⟨zau h.users,fun x hx=>?_,fun x hx=>?_,fun x hx=>?_,fun x hx=>?_,fun x hx=>?_,zau h.step,by omega,by omega,by omega,by omega,by omega⟩,fun x hx=>?_,by omega⟩
 ·have g:=h.ents x hx
  exact ⟨⟨zau (g _ (by simp [cEnt])),zau (g _ (by simp [cEnt]))⟩,zro (g _ (by simp [cEnt]))⟩
 ·have g:=h.ruls x hx
  exact ⟨⟨zau (g _ (by simp [cRul])),zau (g _ (by simp [cRul])),zau (g _ (by simp [cRul])),zau (g _ (by simp [cRul]))⟩,⟨zd2 (g _ (by simp [cRul])),zd2 (g _ (by simp [cRul])),zd2 (g _ (by simp [cRul]))⟩⟩
 ·have g:=h.grts x hx
  exact ⟨⟨zau (g _ (by simp [cGrt])),zau (g _ (by simp [cGrt])),zau (g _ (by simp [cGrt])),zau (g _ (by simp [cGrt]))⟩,zlc (g _ (by simp [cGrt])),zd2 (g _ (by simp [cGrt])),zau (g _ (by simp [cGrt]))⟩
 ·have g:=h.evts x hx
  exact ⟨zau (g _ (by simp [cEvt])),zau (g _ (by simp [cEvt])),zlc (g _ (by simp [cEvt])),⟨zau (g _ (by simp [cEvt])),zau (g _ (by simp [cEvt])),zau (g _ (by simp [cEvt])),zau (g _ (by simp [cEvt]))⟩,zd2 (g _ (by simp [cEvt]))⟩
 ·have g:=h.rlss x hx
  exact ⟨zau (g _ (by simp [cRls])),⟨zau (g _ (by simp [cRls])),zau (g _ (by simp [cRls]))⟩,zau (g _ (by simp [cRls])),zlc (g _ (by simp [cRls])),⟨zau (g _ (by simp [cRls])),zau (g _ (by simp [cRls])),zau (g _ (by simp [cRls])),zau (g _ (by simp [cRls]))⟩,zau (g _ (by simp [cRls])),zd2 (g _ (by simp [cRls]))⟩
 have g:=h.oprs x hx
 exact ⟨zlc (g _ (by simp [cOpr])),zau (g _ (by simp [cOpr])),⟨zau (g _ (by simp [cOpr])),zau (g _ (by simp [cOpr])),zau (g _ (by simp [cOpr])),zau (g _ (by simp [cOpr]))⟩,zro (g _ (by simp [cOpr])),⟨zd2 (g _ (by simp [cOpr])),zd2 (g _ (by simp [cOpr])),zd2 (g _ (by simp [cOpr]))⟩,zlc (g _ (by simp [cOpr])),zd2 (g _ (by simp [cOpr])),zau (g _ (by simp [cOpr]))⟩
theorem zsm {α:Type} (f:α→zaa) (C:Nat):∀(l:List α),(∀x∈l,(f x).length≤C)→(l.flatMap f).length≤C*l.length
 | [],_=>by simp
 | x::l,h=>by
  have h1:=h x (by simp)
  have h2:=zsm f C l (fun y hy=>h y (by simp [hy]))
  rw [List.flatMap_cons,List.length_append,List.length_cons,Nat.mul_add]
  omega
theorem zga {α:Type} (f:α→zaa) (C N:Nat) (l:List α) (h:∀x∈l,(f x).length≤C) (hl:l.length≤N):(zap f l).length≤9+C*N:=by
 have h1:=zsm f C l h
 have h2:=zab l.length
 have h3:C*l.length≤C*N:=Nat.mul_le_mul_left C hl
 unfold zap
 rw [List.length_append]
 omega
theorem zyk (x:Opr):(oprB x).length≤144+x.input.length:=by
 have hq:∀(b:Bool) (l:zaa),(if b=true then l else []).length≤l.length:=fun b l=>by cases b <;> simp
 have g1:=zab x.kind
 have g2:=zab (zc9 (oprF x))
 have m1:=zab x.user
 have m2:=zab x.rect.c1
 have m3:=zab x.rect.r1
 have m4:=zab x.rect.c2
 have m5:=zab x.rect.r2
 have m6:=zab x.input.length
 have m7:=zab x.rights.rd
 have m8:=zab x.rights.wr
 have m9:=zab x.rights.ow
 have m10:=zab x.fns
 have m11:=zab x.to_
 have m12:=zab x.index
 have k1:=hq (decide (x.user≠0)) (numI x.user)
 have k2:=hq (decide (x.rect≠⟨0,0,0,0⟩)) (za7 x.rect)
 have k3:=hq (decide (x.input≠ [])) (zcy x.input)
 have k4:=hq (decide (x.rights≠⟨0,0,0⟩)) (zcb x.rights)
 have k5:=hq (decide (x.fns≠0)) (numI x.fns)
 have k6:=hq (decide (x.to_≠0)) (numI x.to_)
 have k7:=hq (decide (x.index≠0)) (numI x.index)
 have c2:(za7 x.rect).length≤36:=by simp only [za7,List.length_append];omega
 have c3:(zcy x.input).length≤9+x.input.length:=by simp only [zcy,List.length_append];omega
 have c4:(zcb x.rights).length≤27:=by simp only [zcb,List.length_append];omega
 unfold oprB
 simp only [List.length_append]
 unfold oprF at g2 ⊢
 simp only [List.flatMap_cons,List.flatMap_nil,List.length_append,List.length_nil]
 omega
theorem zl5 {s:Scp} (h:zds s=false):(∀x∈s.book.entries,x.input.length≤600)∧(∀x∈s.ops,x.input.length≤600):=by
 unfold zds at h
 simp only [Bool.or_eq_false_iff,List.any_eq_false,decide_eq_true_eq] at h
 exact ⟨fun x hx=>by have:=h.1.2 x hx;omega,fun x hx=>by have:=h.2 x hx;omega⟩
theorem zso {s:Scp} (h:okS s) (hl:zds s=false):FitS s:=by
 obtain ⟨k1,k2⟩:=zfh hl
 obtain ⟨e1,e2⟩:=zl5 hl
 unfold sumS at k1
 refine ⟨h.scp hl,fun x hx=>by have:=e1 x hx;omega,fun x hx=>by have:=e2 x hx;omega,?_⟩
 have n0:=zab s.book.users
 have n6:=zab s.book.step
 have l1:=zga entB 627 160 s.book.entries (fun x hx=>by
  have:=e1 x hx
  have m1:=zab x.at_.col
  have m2:=zab x.at_.row
  have m3:=zab x.input.length
  simp only [entB,zbz,zcy,List.length_append];omega) (by omega)
 have l2:=zga rulB 63 160 s.book.rules (fun x hx=>by
  have m1:=zab x.rect.c1
  have m2:=zab x.rect.r1
  have m3:=zab x.rect.c2
  have m4:=zab x.rect.r2
  have m5:=zab x.rights.rd
  have m6:=zab x.rights.wr
  have m7:=zab x.rights.ow
  simp only [rulB,za7,zcb,List.length_append];omega) (by omega)
 have l3:=zga grtB 72 160 s.book.grants (fun x hx=>by
  have m1:=zab x.rect.c1
  have m2:=zab x.rect.r1
  have m3:=zab x.rect.c2
  have m4:=zab x.rect.r2
  have m5:=zab x.fns
  have m6:=zab x.to_
  have m7:=zab x.by_
  have m8:=zn5 x.revoked
  simp only [grtB,za7,List.length_append];omega) (by omega)
 have l4:=zga evtB 81 160 s.book.log (fun x hx=>by
  have m1:=zab x.rect.c1
  have m2:=zab x.rect.r1
  have m3:=zab x.rect.c2
  have m4:=zab x.rect.r2
  have m5:=zab x.step
  have m6:=zab x.to_
  have m7:=zab x.user
  have m8:=zn5 x.done_
  have m9:=zab x.kind
  simp only [evtB,za7,List.length_append];omega) (by omega)
 have l5:=zga rlsB 99 160 s.book.releases (fun x hx=>by
  have m1:=zab x.rect.c1
  have m2:=zab x.rect.r1
  have m3:=zab x.rect.c2
  have m4:=zab x.rect.r2
  have m5:=zab x.step
  have m6:=zab x.to_
  have m7:=zab x.at_.col
  have m8:=zab x.at_.row
  have m9:=zab x.node
  have m10:=zab x.fn
  have m11:=zab x.grant
  simp only [rlsB,za7,zbz,List.length_append];omega) (by omega)
 have l7:=zga oprB 744 4101 s.ops (fun x hx=>by have:=e2 x hx;have:=zyk x;omega) k2
 simp only [scpB,List.length_append]
 omega
theorem RdScp.more {w:World} {B B':Nat} {s:Scp} {e r g l x o:Value} (h:RdScp w B s e r g l x o) (hB:B≤B'):RdScp w B' s e r g l x o:=
 ⟨⟨h.book.ents.more hB,h.book.ruls.more hB,h.book.grts.more hB,h.book.evts.more hB,h.book.rlss.more hB⟩,h.ops.more hB⟩
theorem RdScp.drewN {w:World} {B:Nat} {s:Scp} {e r g l x o:Value} (h:RdScp w B s e r g l x o) (n:Nat):RdScp (w.drewN n) B s e r g l x o:=h.below (Below.drewN_ (Below.refl _ _) n)
theorem RdScp.drew {w:World} {B:Nat} {s:Scp} {e r g l x o:Value} (h:RdScp w B s e r g l x o):RdScp w.drew B s e r g l x o:=h.drewN 1
theorem zx9 {w:World} {base:Nat} {s:Scp} {e r g l x o:Value} (h:SlsN cEnt base w e s.book.entries∧SlsN cRul base w r s.book.rules∧SlsN cGrt base w g s.book.grants∧SlsN cEvt base w l s.book.log∧SlsN cRls base w x s.book.releases∧SlsN cOpr base w o s.ops):RdScp w w.heap.size s e r g l x o:=
 ⟨⟨h.1.1,h.2.1.1,h.2.2.1.1,h.2.2.2.1.1,h.2.2.2.2.1.1⟩,h.2.2.2.2.2.1⟩
theorem zt5 {s:Scp} (h:zds s=false):Short s.book∧s.ops.length≤8192:=by
 have:=zfh h
 unfold sumS at this
 exact ⟨⟨by omega,by omega,by omega,by omega,by omega⟩,by omega⟩
end Go.Proofs.YtamcgggmfghljaaGreatDoor
