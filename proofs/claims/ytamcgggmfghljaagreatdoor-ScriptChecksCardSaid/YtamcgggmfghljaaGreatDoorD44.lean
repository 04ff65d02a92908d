/- Layer 30 (program): logs checked (printed by tools/gen_chk.py). -/
import Derived.Test.YtamcgggmfghljaaGreatDoorD32
set_option maxRecDepth 100000
set_option maxHeartbeats 8000000
open Go.Proofs.Tryz
namespace Go.Proofs.YtamcgggmfghljaaGreatDoor
open Go.RowKit
def mutB (k:Int):Bool:=decide (k=3)||decide (k=4)||decide (k=7)||decide (k=8)||decide (k=9)
def evE (u z:Int) (x:Evt):Int:=
 if x.step≤z then 12 else if mutB x.kind=false∨hasI (allI u) x.user=false then 2 else if rctE x.rect≠0 then 3
 else if bits .andNot .u64 x.to_ (allI u)≠0∨hasI x.to_ x.user=false then 2 else 0
def rlE (u z:Int) (x:Rls):Int:=
 if x.step<z then 12 else if za1 x.at_.col x.at_.row=false∨rctE x.rect≠0 then 3
 else if x.node<0∨256≤x.node∨x.fn<46∨50<x.fn∨x.grant<0∨64≤x.grant∨bits .andNot .u64 x.to_ (allI u)≠0 then 2 else 0
def evsE (u:Int):Int→List Evt→Int
 | _,[]=>0
 | z,x::l=>if evE u z x≠0 then evE u z x else evsE u x.step l
def rlsE (u:Int):Int→List Rls→Int
 | _,[]=>0
 | z,x::l=>if rlE u z x≠0 then rlE u z x else rlsE u x.step l
def audE (u:Int) (l:List Evt) (m:List Rls):Int:=if u<1∨64<u then 2 else if evsE u (-1) l≠0 then evsE u (-1) l else rlsE u (-1) m
theorem zlt (u z:Int) {l:List Evt} {k:Nat} {x:Evt} (h:l[k]?=some x):evsE u z (l.drop k)=if evE u z x≠0 then evE u z x else evsE u x.step (l.drop (k+1)):=by
 have hk:=(List.getElem?_eq_some_iff.1 h).1
 rw [List.drop_eq_getElem_cons hk]
 have:l[k]=x:=by rw [List.getElem?_eq_getElem hk] at h;simpa using h
 rw [this]
 rfl
theorem zky (u z:Int) {l:List Rls} {k:Nat} {x:Rls} (h:l[k]?=some x):rlsE u z (l.drop k)=if rlE u z x≠0 then rlE u z x else rlsE u x.step (l.drop (k+1)):=by
 have hk:=(List.getElem?_eq_some_iff.1 h).1
 rw [List.drop_eq_getElem_cons hk]
 have:l[k]=x:=by rw [List.getElem?_eq_getElem hk] at h;simpa using h
 rw [this]
 rfl
theorem zph (k:Int) (w:World):
 Calls prog 174 #[.agg #[.int .u8 k,.int .i64 0,.int .i64 0,.int .i64 0,.int .i64 0,.int .i64 0,str [],.int .u64 0,.int .u64 0,.int .u64 0,.int .u8 0,.int .u64 0,.int .i64 0]] w fun e w'=>e=.returned (.bool (mutB k))∧Below w.heap.size w w':=by
 by_cases h3:k=3
 ·subst h3
  go_enter func174,ntmps174
  go_wp2
  go_ret
  exact ⟨rfl,by go_grown⟩
 by_cases h4:k=4
 ·subst h4
  go_enter func174,ntmps174
  go_wp2
  go_ret
  exact ⟨rfl,by go_grown⟩
 by_cases h7:k=7
 ·subst h7
  go_enter func174,ntmps174
  go_wp2
  go_ret
  exact ⟨rfl,by go_grown⟩
 by_cases h8:k=8
 ·subst h8
  go_enter func174,ntmps174
  go_wp2
  go_ret
  exact ⟨rfl,by go_grown⟩
 by_cases h9:k=9
 ·subst h9
  go_enter func174,ntmps174
  go_wp2
  go_ret
  exact ⟨rfl,by go_grown⟩
 have b3:(k==3)=false:=by simpa using h3
 have b4:(k==4)=false:=by simpa using h4
 have b7:(k==7)=false:=by simpa using h7
 have b8:(k==8)=false:=by simpa using h8
 have b9:(k==9)=false:=by simpa using h9
 have HM:=Hd (show mutB k=false by simp [mutB,h3,h4,h7,h8,h9])
 clear h3 h4 h7 h8 h9
 go_enter func174,ntmps174
 go_wp2
 go_ret
 exact ⟨by rw [HM.out];rfl,by go_grown⟩
theorem zm0 (u:Int) (sv sv2:Value) (l:List Evt) (m:List Rls) (B:Nat) (w:World) (hB:B≤w.heap.size) (hs:Sls cEvt w B sv l) (hs2:Sls cRls w B sv2 m) (hto:∀x∈l,0≤x.to_∧x.to_<18446744073709551616):
 Calls prog 113 #[.int .i64 u,sv,sv2] w fun e w'=>e=.returned (.int .i64 (audE u l m))∧Below w.heap.size w w':=by
 obtain ⟨A,cap,rfl,hc,hm,hr⟩:=id hs
 obtain ⟨A2,cap2,rfl,hc2,hm2,hr2⟩:=id hs2
 have HS:=Hd hs
 have HS2:=Hd hs2
 have HTO:=Hd hto
 clear hs hr hs2 hr2 hto
 unfold maxLen at hm hm2
 by_cases hu:u<0∨64<u
 ·have HE:=Hd (show audE u l m=2 by unfold audE;rw [if_pos (by omega)])
  go_enter func113,ntmps113
  go_wp2_with fail
  refine (ztf u _ hu).mono ?_
  rintro e w1 ⟨rfl,rfl⟩
  go_wp2
  go_ret
  exact ⟨by rw [HE.out];rfl,by go_grown⟩
 by_cases h0:u=0
 ·subst h0
  have HE:=Hd (show audE 0 l m=2 by unfold audE;rw [if_pos (by omega)])
  go_enter func113,ntmps113
  go_wp2_with fail
  refine (zgi 0 _ (by omega) (by omega)).mono ?_
  rintro e w1 ⟨rfl,rfl⟩
  go_wp2
  go_ret
  exact ⟨by rw [HE.out];rfl,by go_grown⟩
 have u0:(u==0)=false:=by simpa using h0
 have HE0:=Hd (show audE u l m=if evsE u (-1) l≠0 then evsE u (-1) l else rlsE u (-1) m by unfold audE;rw [if_neg (by omega)])
 have HU:=Hd (zkh u (by omega))
 go_enter func113,ntmps113
 go_wp2_with fail
 refine (zgi u _ (by omega) (by omega)).mono ?_
 rintro e w1 ⟨rfl,rfl⟩
 clear hu
 go_wp2_with fail
 go_loopw [9,27] (fun last i wr=>∃(k:Nat) (z:Int),k≤l.length∧last=.int .i64 z∧i=.int .i64 k∧Below w.heap.size w wr∧evsE u (-1) l=evsE u z (l.drop k)) (fun _ i _=>l.length-(intOf i).toNat)
 case atStart=>exact ⟨0, -1,by omega,rfl,rfl,by go_grown,by simp⟩
 obtain ⟨k,z,hk,rfl,rfl,hbw,hfe⟩:=hrel
 have HF:=Hd hfe
 have HBW:=Hd hbw
 clear hfe
 by_cases hlt:k<l.length
 ·have hy:l[k]?=some l[k]:=List.getElem?_eq_getElem hlt
  obtain ⟨b,o,hA,hb2,r⟩:=(HS.out.below (hbw.mono hB)).get 9 zcw hy
  have HD:=Hd (zlt u z hy)
  have HT:=Hd (HTO.out l[k] (List.getElem_mem hlt))
  generalize l[k]=y at *
  subst hA
  have HE:Hid (evE u z y≠0→audE u l m=evE u z y):=Hd (fun h=>by
   have e1:evsE u (-1) l=evE u z y:=by rw [HF.out,HD.out,if_pos h]
   rw [HE0.out,e1,if_pos h])
  have r0:wr.cell? ⟨b,o+k*9,none⟩=some (.int .i64 y.step):=r 0 _ rfl
  have r1:wr.cell? ⟨b,o+k*9+1,none⟩=some (.int .i64 y.user):=r 1 _ rfl
  have r2:wr.cell? ⟨b,o+k*9+2,none⟩=some (.int .u8 y.kind):=r 2 _ rfl
  have r3:wr.cell? ⟨b,o+k*9+3,none⟩=some (.int .i64 y.rect.c1):=r 3 _ rfl
  have r4:wr.cell? ⟨b,o+k*9+4,none⟩=some (.int .i64 y.rect.r1):=r 4 _ rfl
  have r5:wr.cell? ⟨b,o+k*9+5,none⟩=some (.int .i64 y.rect.c2):=r 5 _ rfl
  have r6:wr.cell? ⟨b,o+k*9+6,none⟩=some (.int .i64 y.rect.r2):=r 6 _ rfl
  have r7:wr.cell? ⟨b,o+k*9+7,none⟩=some (.bool y.done_):=r 7 _ rfl
  have r8:wr.cell? ⟨b,o+k*9+8,none⟩=some (.int .u64 y.to_):=r 8 _ rfl
  have K0:=Hd (Blk.new wr 110 (cEvt y).toArray)
  have HB0:=Hd (show Below w.heap.size w (wr.alloc (.cells (cEvt y).toArray 110)) from HBW.out.alloc HBW.out.size _)
  rw [show (cEvt y).toArray=#[.int .i64 y.step,.int .i64 y.user,.int .u8 y.kind,.int .i64 y.rect.c1,.int .i64 y.rect.r1,.int .i64 y.rect.c2,.int .i64 y.rect.r2,.bool y.done_,.int .u64 y.to_] from rfl] at K0 HB0
  have hi0:(0:Int)≤(k:Int):=Int.natCast_nonneg _
  have hi1:(k:Int)<(l.length:Int):=by omega
  clear r hy hbw
  by_cases c1:y.step≤z
  ·have HY:=Hd (show evE u z y=12 by unfold evE;rw [if_pos c1])
   go_wp2
   go_ret
   exact ⟨by rw [HE.out (by rw [HY.out];decide),HY.out];rfl,HB0.out⟩
  go_wp2_with fail
  refine (zph y.kind _).mono ?_
  rintro e w3 ⟨rfl,hb3⟩
  have K3:=Hd (K0.out.below_ hb3)
  have HB3:=Hd (Below.next HB0.out hb3 HB0.out.size)
  clear hb3 r0 r1 r2 r3 r4 r5 r6 r7 r8
  have q1:w3.cell? ⟨wr.heap.size,1,none⟩=some (.int .i64 y.user):=K3.out.cell 1
  have q3:w3.cell? ⟨wr.heap.size,3,none⟩=some (.int .i64 y.rect.c1):=K3.out.cell 3
  have q4:w3.cell? ⟨wr.heap.size,4,none⟩=some (.int .i64 y.rect.r1):=K3.out.cell 4
  have q5:w3.cell? ⟨wr.heap.size,5,none⟩=some (.int .i64 y.rect.c2):=K3.out.cell 5
  have q6:w3.cell? ⟨wr.heap.size,6,none⟩=some (.int .i64 y.rect.r2):=K3.out.cell 6
  cases c2:mutB y.kind with
  | false=>
   have HY:=Hd (show evE u z y=2 by unfold evE;rw [if_neg (by omega),if_pos (.inl c2)])
   go_wp2
   go_ret
   exact ⟨by rw [HE.out (by rw [HY.out];decide),HY.out];rfl,HB3.out⟩
  | true=>
  cases c3:hasI (allI u) y.user with
  | false=>
   have HY:=Hd (show evE u z y=2 by unfold evE;rw [if_neg (by omega),if_pos (.inr c3)])
   go_wp2_with fail
   refine (zge _ _ _ HU.out.1 HU.out.2).mono ?_
   rintro e w4 ⟨rfl,rfl⟩
   rw [c3]
   go_wp2
   go_ret
   exact ⟨by rw [HE.out (by rw [HY.out];decide),HY.out];rfl,HB3.out⟩
  | true=>
  go_wp2_with fail
  refine (zge _ _ _ HU.out.1 HU.out.2).mono ?_
  rintro e w4 ⟨rfl,rfl⟩
  rw [c3]
  go_wp2_with fail
  refine (zc4 _ _ _ _ _).mono ?_
  rintro e w4 ⟨rfl,hb4⟩
  have K4:=Hd (K3.out.below_ hb4)
  have HB4:=Hd (Below.next HB3.out hb4 HB3.out.size)
  clear hb4 q1 q3 q4 q5 q6
  by_cases hre:rctE ⟨y.rect.c1,y.rect.r1,y.rect.c2,y.rect.r2⟩=0
  rotate_left
  ·have HY:=Hd (show evE u z y=3 by unfold evE;rw [if_neg (by omega),if_neg (by rw [c2,c3];simp),if_pos (by simpa using hre)])
   have t1:(rctE ⟨y.rect.c1,y.rect.r1,y.rect.c2,y.rect.r2⟩ != 0)=true:=by simpa using hre
   clear hre
   go_wp2
   go_ret
   exact ⟨by rw [HE.out (by rw [HY.out];decide),HY.out];rfl,HB4.out⟩
  rw [hre]
  have q0:w4.cell? ⟨wr.heap.size,0,none⟩=some (.int .i64 y.step):=K4.out.cell 0
  have q1:w4.cell? ⟨wr.heap.size,1,none⟩=some (.int .i64 y.user):=K4.out.cell 1
  have q8:w4.cell? ⟨wr.heap.size,8,none⟩=some (.int .u64 y.to_):=K4.out.cell 8
  by_cases c4:bits .andNot .u64 y.to_ (allI u)=0
  rotate_left
  ·have HY:=Hd (show evE u z y=2 by unfold evE;rw [if_neg (by omega),if_neg (by rw [c2,c3];simp),if_neg (by simpa using hre),if_pos (.inl c4)])
   have t3:(bits .andNot .u64 y.to_ (allI u) != 0)=true:=by simpa using c4
   clear hre c4
   go_wp2
   go_ret
   exact ⟨by rw [HE.out (by rw [HY.out];decide),HY.out];rfl,HB4.out⟩
  have t3:(bits .andNot .u64 y.to_ (allI u) != 0)=false:=by simpa using c4
  cases c5:hasI y.to_ y.user with
  | false=>
   have HY:=Hd (show evE u z y=2 by unfold evE;rw [if_neg (by omega),if_neg (by rw [c2,c3];simp),if_neg (by simpa using hre),if_pos (.inr c5)])
   clear hre c4
   go_wp2_with fail
   refine (zge _ _ _ HT.out.1 HT.out.2).mono ?_
   rintro e w5 ⟨rfl,rfl⟩
   rw [c5]
   go_wp2
   go_ret
   exact ⟨by rw [HE.out (by rw [HY.out];decide),HY.out];rfl,HB4.out⟩
  | true=>
  have HY:=Hd (show evE u z y=0 by unfold evE;rw [if_neg (by omega),if_neg (by rw [c2,c3];simp),if_neg (by simpa using hre),if_neg (by rw [c5];simp [c4])])
  clear hre c4
  go_wp2_with fail
  refine (zge _ _ _ HT.out.1 HT.out.2).mono ?_
  rintro e w5 ⟨rfl,rfl⟩
  rw [c5]
  go_wp2
  exact ⟨⟨k+1,y.step,by omega,rfl,by go_num,HB4.out,by rw [HF.out,HD.out,HY.out];rfl⟩,by simp [intOf];omega⟩
 have HE:=Hd (show audE u l m=rlsE u (-1) m by
  rw [HE0.out,HF.out,List.drop_eq_nil_of_le (by omega)]
  rfl)
 clear HF HE0 hbw
 go_wp2_with fail
 go_loopw [9,73] (fun last i wr=>∃(k:Nat) (z:Int),k≤m.length∧last=.int .i64 z∧i=.int .i64 k∧Below w.heap.size w wr∧rlsE u (-1) m=rlsE u z (m.drop k)) (fun _ i _=>m.length-(intOf i).toNat)
 case atStart=>exact ⟨0, -1,by omega,rfl,rfl,HBW.out,by simp⟩
 obtain ⟨k2,z,hk2,rfl,rfl,hbw,hfe⟩:=hrel
 have HF:=Hd hfe
 clear HBW
 have HBW:=Hd hbw
 clear hfe
 by_cases hlt2:k2<m.length
 rotate_left
 ·go_wp2
  go_ret
  refine ⟨?_,HBW.out⟩
  rw [HE.out,HF.out,List.drop_eq_nil_of_le (by omega)]
  rfl
 have hy:m[k2]?=some m[k2]:=List.getElem?_eq_getElem hlt2
 obtain ⟨b,o,hA,hb2,r⟩:=(HS2.out.below (hbw.mono hB)).get 11 zcv hy
 have HD:=Hd (zky u z hy)
 generalize m[k2]=y at *
 subst hA
 have HE1:Hid (rlE u z y≠0→audE u l m=rlE u z y):=Hd (fun h=>by rw [HE.out,HF.out,HD.out,if_pos h])
 have r0:wr.cell? ⟨b,o+k2*11,none⟩=some (.int .i64 y.step):=r 0 _ rfl
 have r1:wr.cell? ⟨b,o+k2*11+1,none⟩=some (.int .i64 y.at_.col):=r 1 _ rfl
 have r2:wr.cell? ⟨b,o+k2*11+2,none⟩=some (.int .i64 y.at_.row):=r 2 _ rfl
 have r3:wr.cell? ⟨b,o+k2*11+3,none⟩=some (.int .i64 y.node):=r 3 _ rfl
 have r4:wr.cell? ⟨b,o+k2*11+4,none⟩=some (.int .u8 y.fn):=r 4 _ rfl
 have r5:wr.cell? ⟨b,o+k2*11+5,none⟩=some (.int .i64 y.rect.c1):=r 5 _ rfl
 have r6:wr.cell? ⟨b,o+k2*11+6,none⟩=some (.int .i64 y.rect.r1):=r 6 _ rfl
 have r7:wr.cell? ⟨b,o+k2*11+7,none⟩=some (.int .i64 y.rect.c2):=r 7 _ rfl
 have r8:wr.cell? ⟨b,o+k2*11+8,none⟩=some (.int .i64 y.rect.r2):=r 8 _ rfl
 have r9:wr.cell? ⟨b,o+k2*11+9,none⟩=some (.int .i64 y.grant):=r 9 _ rfl
 have r10:wr.cell? ⟨b,o+k2*11+10,none⟩=some (.int .u64 y.to_):=r 10 _ rfl
 have K0:=Hd (Blk.new wr 116 (cRls y).toArray)
 have HB0:=Hd (show Below w.heap.size w (wr.alloc (.cells (cRls y).toArray 116)) from HBW.out.alloc HBW.out.size _)
 rw [show (cRls y).toArray=#[.int .i64 y.step,.int .i64 y.at_.col,.int .i64 y.at_.row,.int .i64 y.node,.int .u8 y.fn,.int .i64 y.rect.c1,.int .i64 y.rect.r1,.int .i64 y.rect.c2,.int .i64 y.rect.r2,.int .i64 y.grant,.int .u64 y.to_] from rfl] at K0 HB0
 have hi0:(0:Int)≤(k2:Int):=Int.natCast_nonneg _
 have hi1:(k2:Int)<(m.length:Int):=by omega
 clear r hy hbw
 by_cases c1:y.step<z
 ·have HY:=Hd (show rlE u z y=12 by unfold rlE;rw [if_pos c1])
  go_wp2
  go_ret
  exact ⟨by rw [HE1.out (by rw [HY.out];decide),HY.out];rfl,HB0.out⟩
 go_wp2_with fail
 refine (zef _ _ _).mono ?_
 rintro e w3 ⟨rfl,hb3⟩
 have K3:=Hd (K0.out.below_ hb3)
 have HB3:=Hd (Below.next HB0.out hb3 HB0.out.size)
 clear hb3 r0 r1 r2 r3 r4 r5 r6 r7 r8 r9 r10
 have q5:w3.cell? ⟨wr.heap.size,5,none⟩=some (.int .i64 y.rect.c1):=K3.out.cell 5
 have q6:w3.cell? ⟨wr.heap.size,6,none⟩=some (.int .i64 y.rect.r1):=K3.out.cell 6
 have q7:w3.cell? ⟨wr.heap.size,7,none⟩=some (.int .i64 y.rect.c2):=K3.out.cell 7
 have q8:w3.cell? ⟨wr.heap.size,8,none⟩=some (.int .i64 y.rect.r2):=K3.out.cell 8
 cases c2:za1 y.at_.col y.at_.row with
 | false=>
  have HY:=Hd (show rlE u z y=3 by unfold rlE;rw [if_neg (by omega),if_pos (.inl c2)])
  go_wp2
  go_ret
  exact ⟨by rw [HE1.out (by rw [HY.out];decide),HY.out];rfl,HB3.out⟩
 | true=>
 go_wp2_with fail
 refine (zc4 _ _ _ _ _).mono ?_
 rintro e w4 ⟨rfl,hb4⟩
 have K4:=Hd (K3.out.below_ hb4)
 have HB4:=Hd (Below.next HB3.out hb4 HB3.out.size)
 clear hb4 q5 q6 q7 q8
 by_cases hre:rctE ⟨y.rect.c1,y.rect.r1,y.rect.c2,y.rect.r2⟩=0
 rotate_left
 ·have HY:=Hd (show rlE u z y=3 by unfold rlE;rw [if_neg (by omega),if_pos (.inr (by simpa using hre))])
  have t1:(rctE ⟨y.rect.c1,y.rect.r1,y.rect.c2,y.rect.r2⟩ != 0)=true:=by simpa using hre
  clear hre
  go_wp2
  go_ret
  exact ⟨by rw [HE1.out (by rw [HY.out];decide),HY.out];rfl,HB4.out⟩
 rw [hre]
 have HN:=Hd (show ¬(za1 y.at_.col y.at_.row=false∨rctE y.rect≠0) by rw [c2];simpa using hre)
 clear hre
 have q0:w4.cell? ⟨wr.heap.size,0,none⟩=some (.int .i64 y.step):=K4.out.cell 0
 have q3:w4.cell? ⟨wr.heap.size,3,none⟩=some (.int .i64 y.node):=K4.out.cell 3
 have q4:w4.cell? ⟨wr.heap.size,4,none⟩=some (.int .u8 y.fn):=K4.out.cell 4
 have q9:w4.cell? ⟨wr.heap.size,9,none⟩=some (.int .i64 y.grant):=K4.out.cell 9
 have q10:w4.cell? ⟨wr.heap.size,10,none⟩=some (.int .u64 y.to_):=K4.out.cell 10
 by_cases d1:y.node<0
 ·have HY:=Hd (show rlE u z y=2 by unfold rlE;rw [if_neg (by omega),if_neg HN.out,if_pos (.inl d1)])
  go_wp2
  go_ret
  exact ⟨by rw [HE1.out (by rw [HY.out];decide),HY.out];rfl,HB4.out⟩
 by_cases d2:256≤y.node
 ·have HY:=Hd (show rlE u z y=2 by unfold rlE;rw [if_neg (by omega),if_neg HN.out,if_pos (.inr (.inl d2))])
  go_wp2
  go_ret
  exact ⟨by rw [HE1.out (by rw [HY.out];decide),HY.out];rfl,HB4.out⟩
 by_cases d3:y.fn<46
 ·have HY:=Hd (show rlE u z y=2 by unfold rlE;rw [if_neg (by omega),if_neg HN.out,if_pos (.inr (.inr (.inl d3)))])
  go_wp2
  go_ret
  exact ⟨by rw [HE1.out (by rw [HY.out];decide),HY.out];rfl,HB4.out⟩
 by_cases d4:50<y.fn
 ·have HY:=Hd (show rlE u z y=2 by unfold rlE;rw [if_neg (by omega),if_neg HN.out,if_pos (.inr (.inr (.inr (.inl d4))))])
  go_wp2
  go_ret
  exact ⟨by rw [HE1.out (by rw [HY.out];decide),HY.out];rfl,HB4.out⟩
 by_cases d5:y.grant<0
 ·have HY:=Hd (show rlE u z y=2 by unfold rlE;rw [if_neg (by omega),if_neg HN.out,if_pos (.inr (.inr (.inr (.inr (.inl d5)))))])
  go_wp2
  go_ret
  exact ⟨by rw [HE1.out (by rw [HY.out];decide),HY.out];rfl,HB4.out⟩
 by_cases d6:64≤y.grant
 ·have HY:=Hd (show rlE u z y=2 by unfold rlE;rw [if_neg (by omega),if_neg HN.out,if_pos (.inr (.inr (.inr (.inr (.inr (.inl d6))))))])
  go_wp2
  go_ret
  exact ⟨by rw [HE1.out (by rw [HY.out];decide),HY.out];rfl,HB4.out⟩
 by_cases d7:bits .andNot .u64 y.to_ (allI u)≠0
 ·have HY:=Hd (show rlE u z y=2 by unfold rlE;rw [if_neg (by omega),if_neg HN.out,if_pos (.inr (.inr (.inr (.inr (.inr (.inr (d7)))))))])
  have t3:(bits .andNot .u64 y.to_ (allI u) != 0)=true:=by simpa using d7
  clear d7
  go_wp2
  go_ret
  exact ⟨by rw [HE1.out (by rw [HY.out];decide),HY.out];rfl,HB4.out⟩
 have HY:=Hd (show rlE u z y=0 by unfold rlE;rw [if_neg (by omega),if_neg HN.out,if_neg (by rw [not_or,not_or,not_or,not_or,not_or,not_or];exact ⟨by omega,by omega,by omega,by omega,by omega,by omega,d7⟩)])
 have t3:(bits .andNot .u64 y.to_ (allI u) != 0)=false:=by simpa using d7
 clear d7
 go_wp2
 exact ⟨⟨k2+1,y.step,by omega,rfl,by go_num,HB4.out,by rw [HF.out,HD.out,HY.out];rfl⟩,by simp [intOf];omega⟩
end Go.Proofs.YtamcgggmfghljaaGreatDoor
