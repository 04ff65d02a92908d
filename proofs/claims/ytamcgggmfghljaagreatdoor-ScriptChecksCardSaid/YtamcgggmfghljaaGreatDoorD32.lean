/- Layer 18 (program): the set of all users; a user in a set. -/
import Derived.Test.YtamcgggmfghljaaGreatDoorD25
import Derived.Test.YtamcgggmfghljaaGreatDoorD29
import Derived.Test.YtamcgggmfghljaaGreatDoorD31
set_option maxRecDepth 100000
set_option maxHeartbeats 8000000
open Go.Proofs.Tryz
namespace Go.Proofs.YtamcgggmfghljaaGreatDoor
open Go.RowKit
def allI (n:Int):Int:=2 ^ n.toNat-1
def hasI (s u:Int):Bool:=decide (0≤u)&&decide (u<64)&&decide (s / 2 ^ u.toNat % 2=1)
theorem zw2 (n:Int) (h1:n≤64):(1:Int)≤2 ^ n.toNat∧(2:Int) ^ n.toNat≤18446744073709551616:=by
 have a:(2:Nat) ^ n.toNat≤2 ^ 64:=Nat.pow_le_pow_right (by decide) (by omega)
 have b:1≤(2:Nat) ^ n.toNat:=Nat.one_le_two_pow
 have e:(2:Int) ^ n.toNat=((2 ^ n.toNat:Nat):Int):=by simp
 rw [e]
 omega
theorem zwt (n:Int) (h1:n≤64):IntKind.u64.wrap (IntKind.u64.wrap (2 ^ n.toNat)-1)=allI n:=by
 have h:=zw2 n h1
 rw [IntKind.wrap_u64,IntKind.wrap_u64]
 unfold allI
 omega
theorem zkh (n:Int) (h1:n≤64):0≤allI n∧allI n<18446744073709551616:=by
 have h:=zw2 n h1
 unfold allI
 omega
theorem zze (x:Int) (h0:0≤x) (h1:x<18446744073709551616):(bits .and .u64 x 1==1)=decide (x % 2=1):=by
 rw [u64_and x 1 h0 h1 (by decide) (by decide),show (1:Int).toNat=1 from rfl,nat_mask1]
 by_cases h:x % 2=1
 ·have:((x.toNat % 2:Nat):Int)=1:=by omega
  simp [this,h]
 have:((x.toNat % 2:Nat):Int)=0:=by omega
 simp [this,h]
theorem shr_bd (s:Int) (k:Nat) (h0:0≤s) (h1:s<18446744073709551616):0≤s / 2 ^ k∧s / 2 ^ k<18446744073709551616:=by
 have hp:(0:Int)<2 ^ k:=Int.pow_pos (by decide)
 exact ⟨Int.ediv_nonneg h0 (Int.le_of_lt hp),Int.lt_of_le_of_lt (Int.ediv_le_self _ h0) h1⟩
theorem zea {a b:Bool} (h:a=b):Ending.returned (.bool a)=.returned (.bool b):=by rw [h]
theorem ztf (n:Int) (w:World) (h:n<0∨64<n):
 Calls prog 170 #[.int .i64 n] w fun e w'=>e=.returned (.tuple #[.int .u64 0,.int .i64 3])∧w=w':=by
 by_cases h1:n<0
 all_goals
  go_enter func170,ntmps170
  go_wp2
  go_ret2
  exact ⟨rfl,rfl⟩
theorem zgi (n:Int) (w:World) (h0:0≤n) (h1:n≤64):
 Calls prog 170 #[.int .i64 n] w fun e w'=>e=.returned (.tuple #[.int .u64 (allI n),.int .i64 0])∧w=w':=by
 have H:=Hd (zwt n h1)
 go_enter func170,ntmps170
 go_wp2
 go_ret2
 exact ⟨by rw [H.out];rfl,rfl⟩
theorem zge (s u:Int) (w:World) (s0:0≤s) (s1:s<18446744073709551616):
 Calls prog 173 #[.int .u64 s,.int .i64 u] w fun e w'=>e=.returned (.bool (hasI s u))∧w=w':=by
 have hb:=shr_bd s u.toNat s0 s1
 have H:=Hd (zze _ hb.1 hb.2)
 clear hb s0 s1
 by_cases h0:0≤u
 ·by_cases h1:u<64
  ·have HH:=Hd (show hasI s u=decide (s / 2 ^ u.toNat % 2=1) by simp [hasI,h0,h1])
   go_enter func173,ntmps173
   go_wp2
   go_ret
   exact ⟨zea (by rw [HH.out,H.out]),rfl⟩
  have HH:=Hd (show hasI s u=false by simp [hasI,h1])
  go_enter func173,ntmps173
  go_wp2
  go_ret
  exact ⟨zea (by rw [HH.out]),rfl⟩
 have HH:=Hd (show hasI s u=false by simp [hasI,h0])
 go_enter func173,ntmps173
 go_wp2
 go_ret
 exact ⟨zea (by rw [HH.out]),rfl⟩
def rulE (u:Int) (x:Rul):Int:=
 if rctE x.rect≠0 then 3 else if bits .andNot .u64 (bits .or .u64 (bits .or .u64 x.rights.rd x.rights.wr) x.rights.ow) (allI u)≠0 then 2 else 0
def zcg {α:Type} (f:α→Int):List α→Int
 | []=>0
 | x::l=>if f x≠0 then f x else zcg f l
def aclE (u:Int) (l:List Rul):Int:=
 if u<1∨64<u∨l=[] then 2 else if 64<l.length then 5 else if (l.head?.map (·.rect))≠some ⟨1,1,1024,1024⟩ then 2 else zcg (rulE u) l
theorem zej {α:Type} (f:α→Int) {l:List α} {k:Nat} {x:α} (h:l[k]?=some x):zcg f (l.drop k)=if f x≠0 then f x else zcg f (l.drop (k+1)):=by
 have hk:=(List.getElem?_eq_some_iff.1 h).1
 rw [List.drop_eq_getElem_cons hk]
 have:l[k]=x:=by rw [List.getElem?_eq_getElem hk] at h;simpa using h
 rw [this]
 rfl
theorem zrr (x y:Rct) (w:World):(binOp .neq 43 (.agg (cRct x).toArray) (.agg (cRct y).toArray)).run prog w=.ok (.bool (!decide (x=y))) w:=by
 obtain ⟨a,b,c,d⟩:=x
 obtain ⟨a',b',c',d'⟩:=y
 simp [go_sem,cRct]
 by_cases q0:a=a'
 ·by_cases q1:b=b'
  ·by_cases q2:c=c'
   ·by_cases q3:d=d'
    ·simp [q0,q1,q2,q3]
    simp [q0,q1,q2,q3]
   simp [q0,q1,q2]
  simp [q0,q1]
 simp [q0]
theorem ztl (u:Int) (sv:Value) (l:List Rul) (B:Nat) (w:World) (hB:B≤w.heap.size) (hs:Sls cRul w B sv l):
 Calls prog 111 #[.int .i64 u,sv] w fun e w'=>∃i,e=.returned (.tuple #[.int .i64 i,.int .i64 (aclE u l)])∧Below w.heap.size w w':=by
 obtain ⟨A,cap,rfl,hc,hm,hr⟩:=id hs
 have HS:=Hd hs
 clear hs hr
 unfold maxLen at hm
 by_cases hu:u<0∨64<u
 ·have HE:=Hd (show aclE u l=2 by unfold aclE;rw [if_pos (by omega)])
  go_enter func111,ntmps111
  go_wp2_with fail
  refine (ztf u _ hu).mono ?_
  rintro e w1 ⟨rfl,rfl⟩
  go_wp2
  go_ret2
  exact ⟨_,by rw [HE.out];rfl,by go_grown⟩
 skip
 go_enter func111,ntmps111
 go_wp2_with fail
 refine (zgi u _ (by omega) (by omega)).mono ?_
 rintro e w1 ⟨rfl,rfl⟩
 by_cases h0:u=0
 ·subst h0
  have HE:=Hd (show aclE 0 l=2 by unfold aclE;rw [if_pos (by omega)])
  go_wp2
  go_ret2
  exact ⟨_,by rw [HE.out];rfl,by go_grown⟩
 have u0:(u==0)=false:=by simpa using h0
 by_cases hl0:l.length=0
 ·have l0:((l.length:Int)==0)=true:=by simp [hl0]
  have HE:=Hd (show aclE u l=2 by unfold aclE;rw [if_pos (.inr (.inr (List.eq_nil_of_length_eq_zero hl0)))])
  clear hl0
  go_wp2
  go_ret2
  exact ⟨_,by rw [HE.out];rfl,by go_grown⟩
 have l0:((l.length:Int)==0)=false:=by simpa using hl0
 have hne:l≠ []:=fun e=>hl0 (by rw [e];rfl)
 by_cases h64:64<l.length
 ·have HE:=Hd (show aclE u l=5 by unfold aclE;rw [if_neg (by simp [hne];omega),if_pos h64])
  clear hne hl0
  go_wp2
  go_ret2
  exact ⟨_,by rw [HE.out];rfl,by go_grown⟩
 have hx:l[0]?=some (l[0]'(by omega)):=List.getElem?_eq_getElem (by omega)
 obtain ⟨b,o,rfl,hb,r⟩:=HS.out.get 7 zcu hx
 have HE:=Hd (show aclE u l=if (l[0]'(by omega)).rect≠⟨1,1,1024,1024⟩ then 2 else zcg (rulE u) l by
  unfold aclE
  rw [if_neg (by simp [hne];omega),if_neg h64,List.head?_eq_getElem?,hx]
  simp)
 generalize l[0]'(by omega)=x at *
 have r0:w.cell? ⟨b,o,none⟩=some (.int .i64 x.rect.c1):=by simpa using r 0 _ rfl
 have r1:w.cell? ⟨b,o+1,none⟩=some (.int .i64 x.rect.r1):=by simpa using r 1 _ rfl
 have r2:w.cell? ⟨b,o+2,none⟩=some (.int .i64 x.rect.c2):=by simpa using r 2 _ rfl
 have r3:w.cell? ⟨b,o+3,none⟩=some (.int .i64 x.rect.r2):=by simpa using r 3 _ rfl
 have hn:∀W,(binOp .neq 43 (.agg #[.int .i64 x.rect.c1,.int .i64 x.rect.r1,.int .i64 x.rect.c2,.int .i64 x.rect.r2]) (.agg #[.int .i64 1,.int .i64 1,.int .i64 1024,.int .i64 1024])).run prog W=.ok (.bool (!decide (x.rect=⟨1,1,1024,1024⟩))) W:=fun W=>zrr x.rect ⟨1,1,1024,1024⟩ W
 have hi0:(0:Int)<(l.length:Int):=by omega
 have hi1:0<l.length:=by omega
 clear hx r hne hl0
 have hbl:=block_lt_of_cell r0
 by_cases hxs:x.rect=⟨1,1,1024,1024⟩
 rotate_left
 ·have hd:decide (x.rect=⟨1,1,1024,1024⟩)=false:=by simpa using hxs
  rw [hd] at hn
  have HX:=Hd hxs
  clear hd hxs
  go_wp2
  go_region_held3 (fun W:World=>W.cell? ⟨b,o,none⟩=some (.int .i64 x.rect.c1)∧W.cell? ⟨b,o+1,none⟩=some (.int .i64 x.rect.r1)∧W.cell? ⟨b,o+2,none⟩=some (.int .i64 x.rect.c2)∧W.cell? ⟨b,o+3,none⟩=some (.int .i64 x.rect.r2))
   (first
    | exact ⟨r0,r1,r2,r3⟩
    | exact ⟨(hb1.cell hbl).trans r0,(hb1.cell hbl).trans r1,(hb1.cell hbl).trans r2,(hb1.cell hbl).trans r3⟩)
   (first
    | (go_at_call 171;refine (zl1 _).mono ?_;rintro e w1 ⟨rfl,hb1⟩))
  go_wp2
  go_ret2
  exact ⟨_,by rw [HE.out,if_pos HX.out];rfl,(Below.refl w.heap.size w).drew.trans hb1⟩
 have hd:decide (x.rect=⟨1,1,1024,1024⟩)=true:=by simpa using hxs
 rw [hd] at hn
 have HX:=Hd hxs
 clear hd hxs
 go_wp2
 go_region_held3 (fun W:World=>W.cell? ⟨b,o,none⟩=some (.int .i64 x.rect.c1)∧W.cell? ⟨b,o+1,none⟩=some (.int .i64 x.rect.r1)∧W.cell? ⟨b,o+2,none⟩=some (.int .i64 x.rect.c2)∧W.cell? ⟨b,o+3,none⟩=some (.int .i64 x.rect.r2))
  (first
   | exact ⟨r0,r1,r2,r3⟩
   | exact ⟨(hb1.cell hbl).trans r0,(hb1.cell hbl).trans r1,(hb1.cell hbl).trans r2,(hb1.cell hbl).trans r3⟩)
  (first
   | (go_at_call 171;refine (zl1 _).mono ?_;rintro e w1 ⟨rfl,hb1⟩))
 go_wp2
 have HB1:=Hd ((Below.refl w.heap.size w).drew.trans hb1)
 clear r0 r1 r2 r3 hn hi0 hi1 hb1
 go_loopw [39] (fun i wr=>∃k:Nat,k≤l.length∧i=.int .i64 k∧Below w.heap.size w wr∧zcg (rulE u) l=zcg (rulE u) (l.drop k)) (fun i _=>l.length-(intOf i).toNat)
 case atStart=>exact ⟨0,by omega,rfl,HB1.out,by simp⟩
 obtain ⟨k,hk,rfl,hbw,hfe⟩:=hrel
 have HF:=Hd hfe
 have HBW:=Hd hbw
 clear hfe
 by_cases hlt:k<l.length
 rotate_left
 ·go_wp2
  go_ret2
  refine ⟨0,?_,HBW.out⟩
  rw [HE.out,if_neg (by simpa using HX.out),HF.out,List.drop_eq_nil_of_le (by omega)]
  rfl
 have hy:l[k]?=some l[k]:=List.getElem?_eq_getElem hlt
 obtain ⟨b2,o2,hA,hb2,r⟩:=(HS.out.below (hbw.mono hB)).get 7 zcu hy
 have HD:=Hd (zej (rulE u) hy)
 generalize l[k]=y at *
 obtain ⟨rfl,rfl⟩:b=b2∧o=o2:=by simpa using hA
 have r0:wr.cell? ⟨b,o+k*7,none⟩=some (.int .i64 y.rect.c1):=r 0 _ rfl
 have r1:wr.cell? ⟨b,o+k*7+1,none⟩=some (.int .i64 y.rect.r1):=r 1 _ rfl
 have r2:wr.cell? ⟨b,o+k*7+2,none⟩=some (.int .i64 y.rect.c2):=r 2 _ rfl
 have r3:wr.cell? ⟨b,o+k*7+3,none⟩=some (.int .i64 y.rect.r2):=r 3 _ rfl
 have r4:wr.cell? ⟨b,o+k*7+4,none⟩=some (.int .u64 y.rights.rd):=r 4 _ rfl
 have r5:wr.cell? ⟨b,o+k*7+5,none⟩=some (.int .u64 y.rights.wr):=r 5 _ rfl
 have r6:wr.cell? ⟨b,o+k*7+6,none⟩=some (.int .u64 y.rights.ow):=r 6 _ rfl
 have hi0:(0:Int)≤(k:Int):=Int.natCast_nonneg _
 have hi1:(k:Int)<(l.length:Int):=by omega
 clear r hy hA hbw
 go_wp2_with fail
 refine (zc4 _ _ _ _ _).mono ?_
 rintro e w3 ⟨rfl,hb3⟩
 have q4:w3.cell? ⟨wr.heap.size,4,none⟩=some (.int .u64 y.rights.rd):=(hb3.cell (p:=⟨wr.heap.size,4,none⟩) (by simp)).trans (by go_simp)
 have q5:w3.cell? ⟨wr.heap.size,5,none⟩=some (.int .u64 y.rights.wr):=(hb3.cell (p:=⟨wr.heap.size,5,none⟩) (by simp)).trans (by go_simp)
 have q6:w3.cell? ⟨wr.heap.size,6,none⟩=some (.int .u64 y.rights.ow):=(hb3.cell (p:=⟨wr.heap.size,6,none⟩) (by simp)).trans (by go_simp)
 have HB3:=Hd (Below.trans (HBW.out.alloc HBW.out.size _) (hb3.mono (by have:=HBW.out.size;simp;omega)))
 clear hb3 r0 r1 r2 r3 r4 r5 r6
 by_cases hre:rctE ⟨y.rect.c1,y.rect.r1,y.rect.c2,y.rect.r2⟩=0
 ·rw [hre]
  by_cases hbt:bits .andNot .u64 (bits .or .u64 (bits .or .u64 y.rights.rd y.rights.wr) y.rights.ow) (allI u)=0
  ·have HY:=Hd (show rulE u y=0 by unfold rulE;rw [if_neg (by simpa using hre),if_neg (by simpa using hbt)])
   have t1:(bits .andNot .u64 (bits .or .u64 (bits .or .u64 y.rights.rd y.rights.wr) y.rights.ow) (allI u) != 0)=false:=by simpa using hbt
   clear hbt hre
   go_wp2
   exact ⟨⟨k+1,by omega,by go_num,HB3.out,by rw [HF.out,HD.out,HY.out];rfl⟩,by simp [intOf];omega⟩
  have HY:=Hd (show rulE u y=2 by unfold rulE;rw [if_neg (by simpa using hre),if_pos (by simpa using hbt)])
  have t1:(bits .andNot .u64 (bits .or .u64 (bits .or .u64 y.rights.rd y.rights.wr) y.rights.ow) (allI u) != 0)=true:=by simpa using hbt
  clear hbt hre
  go_wp2
  go_ret2
  refine ⟨k,?_,HB3.out⟩
  rw [HE.out,if_neg (by simpa using HX.out),HF.out,HD.out,HY.out]
  rfl
 have HY:=Hd (show rulE u y=3 by unfold rulE;rw [if_pos (by simpa using hre)])
 have t1:(rctE ⟨y.rect.c1,y.rect.r1,y.rect.c2,y.rect.r2⟩ != 0)=true:=by simpa using hre
 clear hre
 go_wp2
 go_ret2
 refine ⟨k,?_,HB3.out⟩
 rw [HE.out,if_neg (by simpa using HX.out),HF.out,HD.out,HY.out]
 rfl
def grtE (u:Int) (x:Grt):Int:=
 if rctE x.rect≠0 then 3 else if x.fns<1∨31<x.fns∨bits .andNot .u64 x.to_ (allI u)≠0∨hasI (allI u) x.by_=false then 2 else 0
def zdx (u:Int) (l:List Grt):Int:=if u<1∨64<u then 2 else if 64<l.length then 5 else zcg (grtE u) l
theorem zmn (u:Int) (sv:Value) (l:List Grt) (B:Nat) (w:World) (hB:B≤w.heap.size) (hs:Sls cGrt w B sv l):
 Calls prog 112 #[.int .i64 u,sv] w fun e w'=>∃i,e=.returned (.tuple #[.int .i64 i,.int .i64 (zdx u l)])∧Below w.heap.size w w':=by
 obtain ⟨A,cap,rfl,hc,hm,hr⟩:=id hs
 have HS:=Hd hs
 clear hs hr
 unfold maxLen at hm
 by_cases hu:u<0∨64<u
 ·have HE:=Hd (show zdx u l=2 by unfold zdx;rw [if_pos (by omega)])
  go_enter func112,ntmps112
  go_wp2_with fail
  refine (ztf u _ hu).mono ?_
  rintro e w1 ⟨rfl,rfl⟩
  go_wp2
  go_ret2
  exact ⟨_,by rw [HE.out];rfl,by go_grown⟩
 by_cases h0:u=0
 ·subst h0
  have HE:=Hd (show zdx 0 l=2 by unfold zdx;rw [if_pos (by omega)])
  go_enter func112,ntmps112
  go_wp2_with fail
  refine (zgi 0 _ (by omega) (by omega)).mono ?_
  rintro e w1 ⟨rfl,rfl⟩
  go_wp2
  go_ret2
  exact ⟨_,by rw [HE.out];rfl,by go_grown⟩
 have u0:(u==0)=false:=by simpa using h0
 by_cases h64:64<l.length
 ·have HE:=Hd (show zdx u l=5 by unfold zdx;rw [if_neg (by omega),if_pos h64])
  have l64:(64:Int)<(l.length:Int):=by omega
  go_enter func112,ntmps112
  go_wp2_with fail
  refine (zgi u _ (by omega) (by omega)).mono ?_
  rintro e w1 ⟨rfl,rfl⟩
  go_wp2
  go_ret2
  exact ⟨_,by rw [HE.out];rfl,by go_grown⟩
 have HE:=Hd (show zdx u l=zcg (grtE u) l by unfold zdx;rw [if_neg (by omega),if_neg h64])
 have HU:=Hd (zkh u (by omega))
 have l64:¬(64:Int)<(l.length:Int):=by omega
 go_enter func112,ntmps112
 go_wp2_with fail
 refine (zgi u _ (by omega) (by omega)).mono ?_
 rintro e w1 ⟨rfl,rfl⟩
 go_wp2_with fail
 go_loopw [25] (fun i wr=>∃k:Nat,k≤l.length∧i=.int .i64 k∧Below w.heap.size w wr∧zcg (grtE u) l=zcg (grtE u) (l.drop k)) (fun i _=>l.length-(intOf i).toNat)
 case atStart=>exact ⟨0,by omega,rfl,by go_grown,by simp⟩
 obtain ⟨k,hk,rfl,hbw,hfe⟩:=hrel
 have HF:=Hd hfe
 have HBW:=Hd hbw
 clear hfe
 by_cases hlt:k<l.length
 rotate_left
 ·go_wp2
  go_ret2
  refine ⟨0,?_,HBW.out⟩
  rw [HE.out,HF.out,List.drop_eq_nil_of_le (by omega)]
  rfl
 have hy:l[k]?=some l[k]:=List.getElem?_eq_getElem hlt
 obtain ⟨b,o,hA,hb2,r⟩:=(HS.out.below (hbw.mono hB)).get 8 zdm hy
 have HD:=Hd (zej (grtE u) hy)
 generalize l[k]=y at *
 subst hA
 have r0:wr.cell? ⟨b,o+k*8,none⟩=some (.int .i64 y.rect.c1):=r 0 _ rfl
 have r1:wr.cell? ⟨b,o+k*8+1,none⟩=some (.int .i64 y.rect.r1):=r 1 _ rfl
 have r2:wr.cell? ⟨b,o+k*8+2,none⟩=some (.int .i64 y.rect.c2):=r 2 _ rfl
 have r3:wr.cell? ⟨b,o+k*8+3,none⟩=some (.int .i64 y.rect.r2):=r 3 _ rfl
 have r4:wr.cell? ⟨b,o+k*8+4,none⟩=some (.int .u8 y.fns):=r 4 _ rfl
 have r5:wr.cell? ⟨b,o+k*8+5,none⟩=some (.int .u64 y.to_):=r 5 _ rfl
 have r6:wr.cell? ⟨b,o+k*8+6,none⟩=some (.int .i64 y.by_):=r 6 _ rfl
 have r7:wr.cell? ⟨b,o+k*8+7,none⟩=some (.bool y.revoked):=r 7 _ rfl
 have hi0:(0:Int)≤(k:Int):=Int.natCast_nonneg _
 have hi1:(k:Int)<(l.length:Int):=by omega
 clear r hy hbw
 go_wp2_with fail
 refine (zc4 _ _ _ _ _).mono ?_
 rintro e w3 ⟨rfl,hb3⟩
 have q4:w3.cell? ⟨wr.heap.size,4,none⟩=some (.int .u8 y.fns):=(hb3.cell (p:=⟨wr.heap.size,4,none⟩) (by simp)).trans (by go_simp)
 have q5:w3.cell? ⟨wr.heap.size,5,none⟩=some (.int .u64 y.to_):=(hb3.cell (p:=⟨wr.heap.size,5,none⟩) (by simp)).trans (by go_simp)
 have q6:w3.cell? ⟨wr.heap.size,6,none⟩=some (.int .i64 y.by_):=(hb3.cell (p:=⟨wr.heap.size,6,none⟩) (by simp)).trans (by go_simp)
 have HB3:=Hd (Below.trans (HBW.out.alloc HBW.out.size _) (hb3.mono (by have:=HBW.out.size;simp;omega)))
 clear hb3 r0 r1 r2 r3 r4 r5 r6 r7
 by_cases hre:rctE ⟨y.rect.c1,y.rect.r1,y.rect.c2,y.rect.r2⟩=0
 rotate_left
 ·have HY:=Hd (show grtE u y=3 by unfold grtE;rw [if_pos (by simpa using hre)])
  have t1:(rctE ⟨y.rect.c1,y.rect.r1,y.rect.c2,y.rect.r2⟩ != 0)=true:=by simpa using hre
  clear hre
  go_wp2
  go_ret2
  refine ⟨k,?_,HB3.out⟩
  rw [HE.out,HF.out,HD.out,HY.out]
  rfl
 rw [hre]
 by_cases c1:y.fns<1
 ·have HY:=Hd (show grtE u y=2 by unfold grtE;rw [if_neg (by simpa using hre),if_pos (.inl c1)])
  clear hre
  go_wp2
  go_ret2
  refine ⟨k,?_,HB3.out⟩
  rw [HE.out,HF.out,HD.out,HY.out]
  rfl
 by_cases c2:31<y.fns
 ·have HY:=Hd (show grtE u y=2 by unfold grtE;rw [if_neg (by simpa using hre),if_pos (.inr (.inl c2))])
  clear hre
  go_wp2
  go_ret2
  refine ⟨k,?_,HB3.out⟩
  rw [HE.out,HF.out,HD.out,HY.out]
  rfl
 by_cases c3:bits .andNot .u64 y.to_ (allI u)=0
 rotate_left
 ·have HY:=Hd (show grtE u y=2 by unfold grtE;rw [if_neg (by simpa using hre),if_pos (.inr (.inr (.inl c3)))])
  have t3:(bits .andNot .u64 y.to_ (allI u) != 0)=true:=by simpa using c3
  clear hre c3
  go_wp2
  go_ret2
  refine ⟨k,?_,HB3.out⟩
  rw [HE.out,HF.out,HD.out,HY.out]
  rfl
 have t3:(bits .andNot .u64 y.to_ (allI u) != 0)=false:=by simpa using c3
 cases c4:hasI (allI u) y.by_ with
 | true=>
  have HY:=Hd (show grtE u y=0 by unfold grtE;rw [if_neg (by simpa using hre),if_neg (by rw [c4];simp [c3];omega)])
  clear hre c3
  go_wp2_with fail
  refine (zge _ _ _ HU.out.1 HU.out.2).mono ?_
  rintro e w4 ⟨rfl,rfl⟩
  rw [c4]
  go_wp2
  exact ⟨⟨k+1,by omega,by go_num,HB3.out,by rw [HF.out,HD.out,HY.out];rfl⟩,by simp [intOf];omega⟩
 | false=>
  have HY:=Hd (show grtE u y=2 by unfold grtE;rw [if_neg (by simpa using hre),if_pos (.inr (.inr (.inr c4)))])
  clear hre c3
  go_wp2_with fail
  refine (zge _ _ _ HU.out.1 HU.out.2).mono ?_
  rintro e w4 ⟨rfl,rfl⟩
  rw [c4]
  go_wp2
  go_ret2
  refine ⟨k,?_,HB3.out⟩
  rw [HE.out,HF.out,HD.out,HY.out]
  rfl
structure AllOk (e:Int) (f:Nat):Prop where
 sign:RunS 284 one1 e f .sign
 pct:RunS 307 one1 e f .pct
 prim:RunS 325 one1 e f .prim
 level:∀k,1≤k→k≤4→RunS 251 (lev1 k) e f (.level k)
 call:ztn e f
 arg:∀fn n,1≤fn→fn≤50→n≤2000→RunS 356 (arg1 fn n) e f (.arg fn n)
theorem zws (e:Int):AllOk e 0 where
 sign:=fun p ov st W h hn hf=>by simp only [zbd] at hf;omega
 pct:=fun p ov st W h hn hf=>by simp only [zbd] at hf;omega
 prim:=fun p ov st W h hn hf=>by simp only [zbd] at hf;omega
 level:=fun k h1 h4 p ov st W h hn hf=>by simp only [zbd] at hf;omega
 call:=fun t p ov st W h hn hf=>by omega
 arg:=fun fn n h1 h2 h3 p ov st W h hn hf=>by simp only [zbd] at hf;omega
theorem zxe (e:Int):∀f,∀f'≤f,AllOk e f'
 | 0,f',h=>by
  obtain rfl:f'=0:=by omega
  exact zws e
 | f+1,f',h=>by
  have ih:=zxe e f
  rcases Nat.lt_or_ge f f' with hlt | hge
  rotate_left
  ·exact ih f' hge
  obtain rfl:f'=f+1:=by omega
  have a:=ih f (Nat.le_refl _)
  have hfo:=zi0 e f (a.level 1 (by omega) (by omega))
  exact
   {
    sign:=zxu e f a.sign a.pct
    pct:=pct_ok e f a.prim
    prim:=zyc e f hfo a.call
    level:=fun k h1 h4=>by
     rcases Nat.lt_or_ge k 4 with hk | hk
     ·exact zr7 e f k h1 hk (fun f' hf'=>(ih f' hf').level (k+1) (by omega) (by omega))
     exact zpu e f k h1 (by omega) (fun f' hf'=>(ih f' hf').sign)
    call:=zzc e f (fun f' fn n hf' h1 h2 h3=>(ih f' hf').arg fn n h1 h2 h3)
    arg:=fun fn n h1 h2 h3=>arg_ok e f fn n h1 h2 h3 hfo }
theorem zu1 (e:Int) (f:Nat):RunS 224 one1 e f (.level 1):=zi0 e f ((zxe e f f (Nat.le_refl _)).level 1 (by omega) (by omega))
theorem zvi (s:Scp) (e r g l x o:Value) (B:Nat) (w:World) (hB:B≤w.heap.size) (hb:RdScp w B s e r g l x o) (hr:Reach s):
 Calls prog 9 #[vScp s e r g l x o] w fun u w'=>u=.returned (.bool (zds s))∧Below w.heap.size w w':=by
 by_cases P1:(160:Int)<(s.book.entries.length:Int)+(s.book.rules.length:Int)+(s.book.grants.length:Int)+(s.book.log.length:Int)+(s.book.releases.length:Int)
 ·exact long_1 s e r g l x o B w hB hb hr P1
 by_cases P2:(300:Int)<(s.ops.length:Int)
 ·by_cases P3:(4096:Int)<(s.ops.length:Int)
  ·by_cases P4:(4101:Int)<(s.ops.length:Int)
   ·exact long_2 s e r g l x o B w hB hb hr P1 P2 P3 P4
   exact long_4 s e r g l x o B w hB hb hr P1 P2 P3 P4
  exact long_3 s e r g l x o B w hB hb hr P1 P2 P3
 exact long_5 s e r g l x o B w hB hb hr P1 P2
theorem zfh {s:Scp} (h:zds s=false):sumS s.book≤160∧s.ops.length≤4101:=by
 unfold zds zfv at h
 simp only [Bool.or_eq_false_iff,Bool.and_eq_false_iff,decide_eq_false_iff_not] at h
 omega
end Go.Proofs.YtamcgggmfghljaaGreatDoor
