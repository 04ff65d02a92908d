/- Layer 4 (program): printable strings; strings that are texts. -/
import Derived.WalkSmall
import Derived.Lib.OthersKept
import Derived.Test.YtamcgggmfghljaaGreatDoorD3
import Derived.Test.YtamcgggmfghljaaGreatDoorD4
set_option maxRecDepth 100000
set_option maxHeartbeats 8000000
open Go.Proofs.Tryz
namespace Go.Proofs.YtamcgggmfghljaaGreatDoor
open Go.RowKit
theorem pr_2 (c:Nat) (w:World):
 Calls prog 194 #[.int .i32 c] w fun u w'=>u=.returned (.bool (decide (c=0)))∧w=w':=by
 by_cases h:c=0
 ·have h1:((c:Int)==0)=true:=by simp [h]
  have H:=Hd h
  clear h
  go_enter func194,ntmps194
  go_wp2
  go_ret
  exact ⟨by simp [H.out],rfl⟩
 have h1:((c:Int)==0)=false:=by simpa using h
 have H:=Hd h
 clear h
 go_enter func194,ntmps194
 go_wp2
 go_ret
 exact ⟨by simp [H.out],rfl⟩
theorem zv2 (s:zaa) (w:World) (_hs:s.length≤1000000) (ha:∀c∈s,c.toNat<128):
 Calls prog 210 #[str s,.func (.func 194) #[] #[],.bool true] w fun u w'=>∃i,u=.returned (.int .i64 i)∧decide (i<0)=s.all (fun c=>c.toNat≠0)∧Below w.heap.size w w':=by
 have hk0:(w.iter ⟨s.toArray⟩ 0).heap[w.heap.size]?=some (.stringIter ⟨s.toArray⟩ 0):=World.iter_heap w _ 0
 have hb0:Below w.heap.size w (w.iter ⟨s.toArray⟩ 0):=(Below.refl _ w).alloc (Nat.le_refl _) _
 have hsz:(⟨s.toArray⟩:ByteArray).size=s.length:=by show s.toArray.size=_;simp
 have HA:=Hd ha
 have HS:=Hd hsz
 clear ha hsz
 go_enter func210,ntmps210
 go_wp2
 go_loopw [7] (fun _ wr=>∃pos:Nat,pos≤s.length∧wr.heap[w.heap.size]?=some (.stringIter ⟨s.toArray⟩ pos)∧(s.take pos).all (fun c=>c.toNat≠0)=true∧Below w.heap.size w wr)
  (fun _ wr=>s.length-wr.iterPos w.heap.size)
 case atStart=>exact ⟨0,Nat.zero_le _,hk0,by simp,hb0⟩
 obtain ⟨pos,hps,hk,hall,hnx⟩:=hrel
 clear hk0 hb0
 have hsz:=HS.out
 have HAL:=Hd hall
 have HNX:=Hd hnx
 clear hall
 by_cases hp:pos<s.length
 rotate_left
 ·have hnext:∀ty,(Instr.next (.pointer (some ⟨w.heap.size,0,none⟩)) true ty).run prog wr=.ok (.tuple #[.bool false]) wr:=fun ty=>Lib.run_next_end_at wr w.heap.size ⟨s.toArray⟩ pos ty hk (by omega)
  clear hsz hk hnx
  go_wp2
  go_ret
  refine ⟨_,rfl,?_,HNX.out⟩
  have:=HAL.out
  rw [List.take_of_length_le (by omega)] at this
  rw [this]
  rfl
 have hx:s[pos]?=some s[pos]:=List.getElem?_eq_getElem hp
 have hm:=HA.out _ (List.getElem_mem hp)
 have htk:s.take (pos+1)=s.take pos++ [s[pos]]:=by rw [List.take_succ_eq_append_getElem hp]
 have HT:=Hd htk
 have hp':pos<(⟨s.toArray⟩:ByteArray).size:=by omega
 have h128:((⟨s.toArray⟩:ByteArray)[pos]'hp').toNat<128:=hm
 have hnext:∀ty,(Instr.next (.pointer (some ⟨w.heap.size,0,none⟩)) true ty).run prog wr=.ok (.tuple #[.bool true,.int .i64 pos,.int .i32 ((s[pos]'hp).toNat)]) (wr.iterAt w.heap.size ⟨s.toArray⟩ (pos+1)):=fun ty=>Lib.run_next_ascii_at wr w.heap.size ⟨s.toArray⟩ pos ty hk hp' h128
 have hk1:=Lib.iterAt_heap wr w.heap.size ⟨s.toArray⟩ pos (pos+1) hk
 have hnx1:Below w.heap.size w (wr.iterAt w.heap.size ⟨s.toArray⟩ (pos+1)):=Lib.below_iterAt hnx (Nat.le_refl _) _ (pos+1)
 have hmu:wr.iterPos w.heap.size=pos:=by simp [World.iterPos,hk]
 have HX:=Hd hx
 have HMU:=Hd hmu
 have HK1:=Hd hk1
 have HN1:=Hd hnx1
 clear hnx hk hx htk hm h128 hmu hk1 hnx1 hp' hsz
 generalize wr.iterAt w.heap.size ⟨s.toArray⟩ (pos+1)=W1 at *
 generalize s[pos]=c at *
 go_wp2_with fail
 refine (pr_2 _ _).mono ?_
 rintro e w2 ⟨rfl,rfl⟩
 by_cases hc:c.toNat=0
 ·rw [decide_eq_true hc]
  go_wp2
  go_ret
  refine ⟨_,rfl,?_,HN1.out⟩
  rw [decide_eq_false (by omega)]
  symm
  rw [List.all_eq_false]
  exact ⟨c,List.mem_of_getElem? HX.out,by simp [hc]⟩
 rw [decide_eq_false hc]
 go_wp2
 refine ⟨⟨pos+1,by omega,HK1.out,?_,HN1.out⟩,?_⟩
 ·rw [HT.out,List.all_append,HAL.out]
  simpa using hc
 rw [HMU.out,show W1.iterPos w.heap.size=pos+1 by have:=HK1.out;simp [World.iterPos,this]]
 omega
def prB (s:zaa):Bool:=s.all fun c=>decide (32≤c.toNat)&&decide (c.toNat≤126)
theorem pr_all (s:zaa):(s.map prC).all (fun c=>decide (c.toNat≠0))=prB s:=by
 unfold prB
 rw [List.all_map]
 congr 1
 funext c
 simp only [Function.comp,prC]
 split
 ·rename_i h
  rcases h with h | h
  ·simp;omega
  simp;omega
 rename_i h
 simp;omega
theorem zuz (s:zaa):∀c∈s.map prC,c.toNat<128:=by
 intro c hc
 obtain ⟨d,_,rfl⟩:=List.mem_map.1 hc
 unfold prC
 split <;> decide
theorem zyd (w:World):zzj (.func (.func 193) #[] #[]) prC w:=⟨_,_,rfl,fun args w=>by simp [go_sem],fun c w _=>pr_1 c w⟩
theorem zsf (s:zaa) (w:World) (hs:s.length≤1000000) (ha:∀c∈s,c.toNat<128):
 Calls prog 191 #[str s,.func (.func 194) #[] #[]] w fun u w'=>∃i,u=.returned (.int .i64 i)∧decide (i<0)=s.all (fun c=>c.toNat≠0)∧Below w.heap.size w w':=by
 have HA:=Hd ha
 clear ha
 go_enter func191,ntmps191
 go_wp2_with fail
 refine (zv2 s _ hs HA.out).mono ?_
 rintro e w1 ⟨i,rfl,hi,hb⟩
 have HI:=Hd hi
 clear hi
 go_wp2
 go_ret
 exact ⟨i,rfl,HI.out,hb⟩
theorem zfp (s:zaa) (w:World) (hs:s.length≤1000000):
 Calls prog 144 #[str s] w fun u w'=>u=.returned (.bool (prB s))∧Below w.heap.size w w':=by
 have HM:=Hd (zyd w)
 go_enter func144,ntmps144
 go_wp2_with fail
 refine (zh3 s _ prC _ hs HM.out).mono ?_
 rintro e w1 ⟨g,cap,cs,rfl,hr,hg,hc,hb⟩
 have hcv:=run_convert_bytes_back (P:=prog) w1 59 9 5 ⟨g,0,none⟩ cap (s.map prC) rfl rfl rfl (fun j hj=>by
  have hj':j<s.length:=by simpa using hj
  have h1:=hc j _ (List.getElem?_eq_getElem hj')
  rw [zf2,hr.cell,h1]
  simp)
 rw [List.length_map] at hcv
 have HB:=Hd hb
 clear hr hg hc hb
 go_wp2_with fail
 refine (zsf (s.map prC) _ (by simpa using hs) (zuz s)).mono ?_
 rintro e w2 ⟨i,rfl,hi,hb⟩
 rw [pr_all] at hi
 have HI:=Hd hi
 have HB2:=Hd (Below.next_ HB.out hb)
 clear hi hb
 go_wp2
 go_ret
 exact ⟨by rw [← HI.out];rfl,HB2.out⟩
def txtE (s:zaa):Int:=if 256<s.length then 5 else if prB s then 0 else 4
theorem zhv (s:zaa) (w:World) (hs:s.length≤140737488355328):
 Calls prog 56 #[str s] w fun u w'=>u=.returned (.int .i64 (txtE s))∧Below w.heap.size w w':=by
 by_cases hl:256<s.length
 ·have H:=Hd (show txtE s=5 by unfold txtE;rw [if_pos hl])
  go_enter func56,ntmps56
  go_wp2
  go_ret
  exact ⟨by rw [H.out];rfl,by go_grown⟩
 have H:=Hd (show txtE s=if prB s then 0 else 4 by unfold txtE;rw [if_neg hl])
 go_enter func56,ntmps56
 go_wp2_with fail
 refine (zfp s _ (by omega)).mono ?_
 rintro e w1 ⟨rfl,hb⟩
 cases hp:prB s
 ·go_wp2
  go_ret
  exact ⟨by rw [H.out,hp];rfl,hb⟩
 go_wp2
 go_ret
 exact ⟨by rw [H.out,hp];rfl,hb⟩
theorem zj0 (v u:Value) (l m:List Rls) (B1 B2:Nat) (w:World) (hv:Sls cRls w B1 v l) (hu:Sls cRls w B2 u m):
 Calls prog 122 #[v,u] w fun e w'=>e=.returned (.bool (decide (l=m)))∧Same w w':=by
 obtain ⟨A1,cap1,rfl,hc1,hm1,hr1⟩:=id hv
 obtain ⟨A2,cap2,rfl,hc2,hm2,hr2⟩:=id hu
 have HV:=Hd hv
 have HU:=Hd hu
 clear hr1 hr2 hv hu
 unfold maxLen at hm1 hm2
 by_cases hl:l.length=m.length
 rotate_left
 ·have h0:((l.length:Int) != (m.length:Int))=true:=by simpa using fun e=>hl (by omega)
  have h1:(l.length != m.length)=true:=by simpa using hl
  have hne:¬l=m:=fun e=>hl (by rw [e])
  have HN:=Hd hne
  clear hne
  go_enter func122,ntmps122
  go_wp2
  go_ret
  exact ⟨by simp [HN.out],Same.refl _⟩
 have h0:((l.length:Int) != (m.length:Int))=false:=by simp [hl]
 have h1:(l.length != m.length)=false:=by simp [hl]
 have HL:=Hd hl
 clear hl
 go_enter func122,ntmps122
 go_wp2
 go_loopw [5] (fun i wr=>∃k:Nat,k≤l.length∧i=.int .i64 k∧l.take k=m.take k∧Same w wr) (fun i _=>l.length-(intOf i).toNat)
 case atStart=>exact ⟨0,by omega,rfl,by simp,Same.refl _⟩
 obtain ⟨k,hk,rfl,he,hs⟩:=hrel
 have HE:=Hd he
 clear he
 by_cases hlt:k<l.length
 rotate_left
 ·go_wp2
  go_ret
  have h1:k=l.length:=by omega
  have h2:=HE.out
  rw [h1,List.take_length,HL.out,List.take_length] at h2
  exact ⟨by simp [h2],hs⟩
 have hx:l[k]?=some l[k]:=List.getElem?_eq_getElem hlt
 have hlt2:k<m.length:=by rw [← HL.out];exact hlt
 have hy:m[k]?=some m[k]:=List.getElem?_eq_getElem hlt2
 obtain ⟨b1,o1,rfl,_,r1⟩:=(HV.out.same hs).get 11 zcv hx
 obtain ⟨b2,o2,rfl,_,r2⟩:=(HU.out.same hs).get 11 zcv hy
 have ht1:l.take (k+1)=l.take k++ [l[k]]:=by rw [List.take_succ_eq_append_getElem hlt]
 have ht2:m.take (k+1)=m.take k++ [m[k]]:=by rw [List.take_succ_eq_append_getElem hlt2]
 have HT1:=Hd ht1
 have HT2:=Hd ht2
 have HS:=Hd hs
 clear hx hy ht1 ht2 hs
 generalize l[k]=x at *
 generalize m[k]=y at *
 have r1_0:wr.cell? ⟨b1,o1+k*11,none⟩=some (.int .i64 x.step):=r1 0 _ rfl
 have r1_1:wr.cell? ⟨b1,o1+k*11+1,none⟩=some (.int .i64 x.at_.col):=r1 1 _ rfl
 have r1_2:wr.cell? ⟨b1,o1+k*11+2,none⟩=some (.int .i64 x.at_.row):=r1 2 _ rfl
 have r1_3:wr.cell? ⟨b1,o1+k*11+3,none⟩=some (.int .i64 x.node):=r1 3 _ rfl
 have r1_4:wr.cell? ⟨b1,o1+k*11+4,none⟩=some (.int .u8 x.fn):=r1 4 _ rfl
 have r1_5:wr.cell? ⟨b1,o1+k*11+5,none⟩=some (.int .i64 x.rect.c1):=r1 5 _ rfl
 have r1_6:wr.cell? ⟨b1,o1+k*11+6,none⟩=some (.int .i64 x.rect.r1):=r1 6 _ rfl
 have r1_7:wr.cell? ⟨b1,o1+k*11+7,none⟩=some (.int .i64 x.rect.c2):=r1 7 _ rfl
 have r1_8:wr.cell? ⟨b1,o1+k*11+8,none⟩=some (.int .i64 x.rect.r2):=r1 8 _ rfl
 have r1_9:wr.cell? ⟨b1,o1+k*11+9,none⟩=some (.int .i64 x.grant):=r1 9 _ rfl
 have r1_10:wr.cell? ⟨b1,o1+k*11+10,none⟩=some (.int .u64 x.to_):=r1 10 _ rfl
 have r2_0:wr.cell? ⟨b2,o2+k*11,none⟩=some (.int .i64 y.step):=r2 0 _ rfl
 have r2_1:wr.cell? ⟨b2,o2+k*11+1,none⟩=some (.int .i64 y.at_.col):=r2 1 _ rfl
 have r2_2:wr.cell? ⟨b2,o2+k*11+2,none⟩=some (.int .i64 y.at_.row):=r2 2 _ rfl
 have r2_3:wr.cell? ⟨b2,o2+k*11+3,none⟩=some (.int .i64 y.node):=r2 3 _ rfl
 have r2_4:wr.cell? ⟨b2,o2+k*11+4,none⟩=some (.int .u8 y.fn):=r2 4 _ rfl
 have r2_5:wr.cell? ⟨b2,o2+k*11+5,none⟩=some (.int .i64 y.rect.c1):=r2 5 _ rfl
 have r2_6:wr.cell? ⟨b2,o2+k*11+6,none⟩=some (.int .i64 y.rect.r1):=r2 6 _ rfl
 have r2_7:wr.cell? ⟨b2,o2+k*11+7,none⟩=some (.int .i64 y.rect.c2):=r2 7 _ rfl
 have r2_8:wr.cell? ⟨b2,o2+k*11+8,none⟩=some (.int .i64 y.rect.r2):=r2 8 _ rfl
 have r2_9:wr.cell? ⟨b2,o2+k*11+9,none⟩=some (.int .i64 y.grant):=r2 9 _ rfl
 have r2_10:wr.cell? ⟨b2,o2+k*11+10,none⟩=some (.int .u64 y.to_):=r2 10 _ rfl
 have hn:∀W,(binOp .neq 116 (.agg #[.int .i64 x.step,.int .i64 x.at_.col,.int .i64 x.at_.row,.int .i64 x.node,.int .u8 x.fn,.int .i64 x.rect.c1,.int .i64 x.rect.r1,.int .i64 x.rect.c2,.int .i64 x.rect.r2,.int .i64 x.grant,.int .u64 x.to_]) (.agg #[.int .i64 y.step,.int .i64 y.at_.col,.int .i64 y.at_.row,.int .i64 y.node,.int .u8 y.fn,.int .i64 y.rect.c1,.int .i64 y.rect.r1,.int .i64 y.rect.c2,.int .i64 y.rect.r2,.int .i64 y.grant,.int .u64 y.to_])).run prog W=.ok (.bool (!decide (x=y))) W:=fun W=>zyq x y W
 have hi0:(0:Int)≤(k:Int):=Int.natCast_nonneg _
 have hi1:(k:Int)<(l.length:Int):=by omega
 have hi2:(k:Int)<(m.length:Int):=by omega
 clear r1 r2
 by_cases hxy:x=y
 ·have hd:decide (x=y)=true:=by simpa using hxy
  rw [hd] at hn
  have HXY:=Hd hxy
  clear hd hxy
  go_wp2
  go_quiet (fail)
  go_wp2
  exact ⟨⟨k+1,by omega,by go_num,by rw [HT1.out,HT2.out,HE.out,HXY.out],HS.out.drewN _⟩,by simp [intOf];omega⟩
 have hd:decide (x=y)=false:=by simpa using hxy
 rw [hd] at hn
 have HXY:=Hd hxy
 clear hd hxy
 go_wp2
 go_quiet (fail)
 go_wp2
 go_ret
 have hne:¬l=m:=by
  intro e
  have h2:=HT1.out
  rw [e,HT2.out,← HE.out] at h2
  exact HXY.out (by simpa using h2.symm)
 exact ⟨by simp [hne],HS.out.drewN _⟩
structure RdBok (w:World) (B:Nat) (b:Bok) (e r g l x:Value):Prop where
 ents:Sls cEnt w B e b.entries
 ruls:Sls cRul w B r b.rules
 grts:Sls cGrt w B g b.grants
 evts:Sls cEvt w B l b.log
 rlss:Sls cRls w B x b.releases
theorem RdBok.below {w w':World} {B:Nat} {b:Bok} {e r g l x:Value} (h:RdBok w B b e r g l x) (hb:Below B w w'):RdBok w' B b e r g l x:=
 ⟨h.ents.below hb,h.ruls.below hb,h.grts.below hb,h.evts.below hb,h.rlss.below hb⟩
abbrev vBok (b:Bok) (e r g l x:Value):Value:=.agg #[.int .i64 b.users,e,r,g,l,x,.int .i64 b.step]
theorem zzd {b c:Bok}:b=c↔b.users=c.users∧b.step=c.step∧b.entries=c.entries∧b.rules=c.rules∧b.grants=c.grants∧b.log=c.log∧b.releases=c.releases:=by
 obtain ⟨a1,a2,a3,a4,a5,a6,a7⟩:=b
 obtain ⟨b1,b2,b3,b4,b5,b6,b7⟩:=c
 simp only [Bok.mk.injEq]
 constructor
 ·rintro ⟨h1,h2,h3,h4,h5,h6,h7⟩;exact ⟨h1,h7,h2,h3,h4,h5,h6⟩
 rintro ⟨h1,h7,h2,h3,h4,h5,h6⟩;exact ⟨h1,h2,h3,h4,h5,h6,h7⟩
theorem zcm {a b:Bool} (h:a=b):Ending.returned (.bool a)=.returned (.bool b):=by rw [h]
theorem zid (b c:Bok) (e r g l x e' r' g' l' x':Value) (B:Nat) (w:World) (hB:B≤w.heap.size) (hb:RdBok w B b e r g l x) (hc:RdBok w B c e' r' g' l' x'):
 Calls prog 33 #[vBok b e r g l x,vBok c e' r' g' l' x'] w fun e w'=>e=.returned (.bool (decide (b=c)))∧Below w.heap.size w w':=by
 have HB:=Hd hb
 have HC:=Hd hc
 clear hb hc
 have H:=Hd (@zzd b c)
 by_cases q1:b.users=c.users
 rotate_left
 ·have t1:(b.users==c.users)=false:=by simpa using q1
  have hd:Hid (decide (b=c)=false):=decide_eq_false (fun h=>q1 (H.out.1 h).1)
  clear q1
  go_enter func33,ntmps33
  go_wp2
  go_ret
  exact ⟨zcm hd.out.symm,by go_grown⟩
 have t1:(b.users==c.users)=true:=by simpa using q1
 by_cases q2:b.step=c.step
 rotate_left
 ·have t2:(b.step==c.step)=false:=by simpa using q2
  have hd:Hid (decide (b=c)=false):=decide_eq_false (fun h=>q2 (H.out.1 h).2.1)
  clear q1 q2
  go_enter func33,ntmps33
  go_wp2
  go_ret
  exact ⟨zcm hd.out.symm,by go_grown⟩
 have t2:(b.step==c.step)=true:=by simpa using q2
 have Q1:=Hd q1
 have Q2:=Hd q2
 clear q1 q2
 go_enter func33,ntmps33
 go_wp2_with fail
 refine (zj4 _ _ _ _ B B _ (HB.out.ents.below (Below.mono (B:=w.heap.size) (by go_grown) hB)) (HC.out.ents.below (Below.mono (B:=w.heap.size) (by go_grown) hB))).mono ?_
 rintro e w1 ⟨rfl,hs1⟩
 have hc1:=hs1.cell
 have hz1:w1.heap.size=_:=congrArg Array.size hs1.heap
 have hB1:Below w.heap.size w w1:=Below.trans (by go_grown) (hs1.below _)
 clear hz1
 by_cases p1:b.entries=c.entries
 rotate_left
 ·rw [decide_eq_false p1]
  go_wp2
  go_ret
  exact ⟨zcm (decide_eq_false (fun h=>p1 (H.out.1 h).2.2.1)).symm,by go_grown⟩
 rw [decide_eq_true p1]
 have P1:=Hd p1
 clear p1
 go_wp2_with fail
 refine (zjz _ _ _ _ B B _ (HB.out.ruls.below (Below.mono (B:=w.heap.size) (by go_grown) hB)) (HC.out.ruls.below (Below.mono (B:=w.heap.size) (by go_grown) hB))).mono ?_
 rintro e w2 ⟨rfl,hs2⟩
 have hc2:=hs2.cell
 have hz2:w2.heap.size=_:=congrArg Array.size hs2.heap
 have hB2:Below w.heap.size w w2:=Below.trans (by go_grown) (hs2.below _)
 clear hz2
 by_cases p2:b.rules=c.rules
 rotate_left
 ·rw [decide_eq_false p2]
  go_wp2
  go_ret
  exact ⟨zcm (decide_eq_false (fun h=>p2 (H.out.1 h).2.2.2.1)).symm,by go_grown⟩
 rw [decide_eq_true p2]
 have P2:=Hd p2
 clear p2
 go_wp2_with fail
 refine (zj2 _ _ _ _ B B _ (HB.out.grts.below (Below.mono (B:=w.heap.size) (by go_grown) hB)) (HC.out.grts.below (Below.mono (B:=w.heap.size) (by go_grown) hB))).mono ?_
 rintro e w3 ⟨rfl,hs3⟩
 have hc3:=hs3.cell
 have hz3:w3.heap.size=_:=congrArg Array.size hs3.heap
 have hB3:Below w.heap.size w w3:=Below.trans (by go_grown) (hs3.below _)
 clear hz3
 by_cases p3:b.grants=c.grants
 rotate_left
 ·rw [decide_eq_false p3]
  go_wp2
  go_ret
  exact ⟨zcm (decide_eq_false (fun h=>p3 (H.out.1 h).2.2.2.2.1)).symm,by go_grown⟩
 rw [decide_eq_true p3]
 have P3:=Hd p3
 clear p3
 go_wp2_with fail
 refine (zj3 _ _ _ _ B B _ (HB.out.evts.below (Below.mono (B:=w.heap.size) (by go_grown) hB)) (HC.out.evts.below (Below.mono (B:=w.heap.size) (by go_grown) hB))).mono ?_
 rintro e w4 ⟨rfl,hs4⟩
 have hc4:=hs4.cell
 have hz4:w4.heap.size=_:=congrArg Array.size hs4.heap
 have hB4:Below w.heap.size w w4:=Below.trans (by go_grown) (hs4.below _)
 clear hz4
 by_cases p4:b.log=c.log
 rotate_left
 ·rw [decide_eq_false p4]
  go_wp2
  go_ret
  exact ⟨zcm (decide_eq_false (fun h=>p4 (H.out.1 h).2.2.2.2.2.1)).symm,by go_grown⟩
 rw [decide_eq_true p4]
 have P4:=Hd p4
 clear p4
 go_wp2_with fail
 refine (zj0 _ _ _ _ B B _ (HB.out.rlss.below (Below.mono (B:=w.heap.size) (by go_grown) hB)) (HC.out.rlss.below (Below.mono (B:=w.heap.size) (by go_grown) hB))).mono ?_
 rintro e w5 ⟨rfl,hs5⟩
 have hc5:=hs5.cell
 have hz5:w5.heap.size=_:=congrArg Array.size hs5.heap
 have hB5:Below w.heap.size w w5:=Below.trans (by go_grown) (hs5.below _)
 clear hz5
 by_cases p5:b.releases=c.releases
 ·rw [decide_eq_true p5]
  have P5:=Hd p5
  clear p5
  go_wp2
  go_ret
  exact ⟨zcm (decide_eq_true (H.out.2 ⟨Q1.out,Q2.out,P1.out,P2.out,P3.out,P4.out,P5.out⟩)).symm,by go_grown⟩
 rw [decide_eq_false p5]
 go_wp2
 go_ret
 exact ⟨zcm (decide_eq_false (fun h=>p5 (H.out.1 h).2.2.2.2.2.2)).symm,by go_grown⟩
abbrev vScp (s:Scp) (e r g l x o:Value):Value:=.agg #[.int .i64 s.book.users,e,r,g,l,x,.int .i64 s.book.step,o]
structure RdScp (w:World) (B:Nat) (s:Scp) (e r g l x o:Value):Prop where
 book:RdBok w B s.book e r g l x
 ops:Sls cOpr w B o s.ops
theorem RdScp.below {w w':World} {B:Nat} {s:Scp} {e r g l x o:Value} (h:RdScp w B s e r g l x o) (hb:Below B w w'):RdScp w' B s e r g l x o:=⟨h.book.below hb,h.ops.below hb⟩
theorem zxv {b c:Scp}:b=c↔b.book=c.book∧b.ops=c.ops:=by
 obtain ⟨b1,b2⟩:=b
 obtain ⟨c1,c2⟩:=c
 simp only [Scp.mk.injEq]
theorem zgp (b c:Scp) (e r g l x o e' r' g' l' x' o':Value) (B:Nat) (w:World) (hB:B≤w.heap.size) (hb:RdScp w B b e r g l x o) (hc:RdScp w B c e' r' g' l' x' o'):
 Calls prog 16 #[vScp b e r g l x o,vScp c e' r' g' l' x' o'] w fun e w'=>e=.returned (.bool (decide (b=c)))∧Below w.heap.size w w':=by
 have HB:=Hd hb
 have HC:=Hd hc
 clear hb hc
 have H:=Hd (@zxv b c)
 go_enter func16,ntmps16
 go_wp2_with fail
 refine (zid b.book c.book e r g l x e' r' g' l' x' B _ (by simp;omega) (HB.out.book.below (Below.mono (B:=w.heap.size) (by go_grown) hB)) (HC.out.book.below (Below.mono (B:=w.heap.size) (by go_grown) hB))).mono ?_
 rintro e w1 ⟨rfl,hb1⟩
 have hz1:=hb1.size
 try simp at hz1
 have hB1:Below w.heap.size w w1:=nxt hb1
 obtain ⟨hc1_0,hl1_0,hm1_0,hn1_0,ho1_0,hf1_0⟩:=oldB (g:=w.heap.size) hb1
 obtain ⟨hc1_1,hl1_1,hm1_1,hn1_1,ho1_1,hf1_1⟩:=oldB (g:=w.heap.size+1) hb1
 by_cases p1:b.book=c.book
 rotate_left
 ·rw [decide_eq_false p1]
  go_wp2
  go_ret
  exact ⟨zcm (decide_eq_false (fun h=>p1 (H.out.1 h).1)).symm,by go_grown⟩
 rw [decide_eq_true p1]
 have P1:=Hd p1
 clear p1
 go_wp2_with fail
 refine (zj1 _ _ _ _ B B _ (HB.out.ops.below (Below.mono (B:=w.heap.size) (by go_grown) hB)) (HC.out.ops.below (Below.mono (B:=w.heap.size) (by go_grown) hB))).mono ?_
 rintro e w2 ⟨rfl,hs2⟩
 have hc2:=hs2.cell
 have hz2:w2.heap.size=_:=congrArg Array.size hs2.heap
 have hB2:Below w.heap.size w w2:=Below.trans (by go_grown) (hs2.below _)
 clear hz2
 by_cases p2:b.ops=c.ops
 ·rw [decide_eq_true p2]
  go_wp2
  go_ret
  exact ⟨zcm (decide_eq_true (H.out.2 ⟨P1.out,p2⟩)).symm,by go_grown⟩
 rw [decide_eq_false p2]
 go_wp2
 go_ret
 exact ⟨zcm (decide_eq_false (fun h=>p2 (H.out.1 h).2)).symm,by go_grown⟩
theorem zgu (c r:Int) (w:World):
 Calls prog 123 #[.agg #[.int .i64 c,.int .i64 r]] w fun e w'=>e=.returned (.agg #[.int .i64 c,.int .i64 r,.int .i64 c,.int .i64 r])∧Below w.heap.size w w':=by
 go_enter func123,ntmps123
 go_wp2
 go_returns
 exact ⟨rfl,by go_grown⟩
theorem zya (c r:Int) (w:World):
 Calls prog 49 #[.agg #[.int .i64 c,.int .i64 r]] w fun e w'=>e=.returned (.agg #[.int .i64 c,.int .i64 r,.int .i64 c,.int .i64 r])∧Below w.heap.size w w':=by
 go_enter func49,ntmps49
 go_wp2
 go_returns
 exact ⟨rfl,by go_grown⟩
theorem zuw (a b c d:Int) (w:World):
 Calls prog 189 #[.agg #[.int .i64 a,.int .i64 b,.int .i64 c,.int .i64 d]] w fun e w'=>e=.returned (.agg #[.int .i64 a,.int .i64 b])∧Below w.heap.size w w':=by
 go_enter func189,ntmps189
 go_wp2
 go_returns
 exact ⟨rfl,by go_grown⟩
theorem r03_to (a b c d:Int) (w:World):
 Calls prog 190 #[.agg #[.int .i64 a,.int .i64 b,.int .i64 c,.int .i64 d]] w fun e w'=>e=.returned (.agg #[.int .i64 c,.int .i64 d])∧Below w.heap.size w w':=by
 go_enter func190,ntmps190
 go_wp2
 go_returns
 exact ⟨rfl,by go_grown⟩
theorem zl1 (w:World):
 Calls prog 171 #[] w fun e w'=>e=.returned (.agg #[.int .i64 1,.int .i64 1,.int .i64 1024,.int .i64 1024])∧Below w.heap.size w w':=by
 go_enter func171,ntmps171
 go_wp2
 go_returns
 exact ⟨rfl,by go_grown⟩
theorem zrd (w:World):
 Calls prog 176 #[] w fun e w'=>e=.returned (.agg #[.int .i64 1,.int .i64 1,.int .i64 1024,.int .i64 1024])∧Below w.heap.size w w':=by
 go_enter func176,ntmps176
 go_wp2
 go_returns
 exact ⟨rfl,by go_grown⟩
theorem zfa (c:UInt8) (t:zaa):(⟨(c::t).toArray⟩:ByteArray).extract 1 (t.length+1)=⟨t.toArray⟩:=by
 apply ByteArray.ext
 simp
theorem ztz (c:UInt8) (t:zaa) (n:Int):(wrap64 ((⟨(c::t).toArray⟩:ByteArray)[0]'(by show 0<((c::t).toArray).size;simp)).toNat).tmod n=(take n (c::t)).1:=by
 have e:((⟨(c::t).toArray⟩:ByteArray)[0]'(by show 0<((c::t).toArray).size;simp))=c:=rfl
 rw [e]
 have hc:c.toNat<256:=c.toNat_lt
 have hw:wrap64 (c.toNat:Int)=(c.toNat:Int):=by unfold wrap64;omega
 rw [hw]
 show _=((c.toNat:Int) % n)
 exact Int.tmod_eq_emod_of_nonneg (by omega)
theorem zdg (g:Nat) (s:zaa) (n:Int) (w:World) (h0:0<n) (hg:Blk w g 74 #[str s]):
 Calls prog 35 #[.pointer (some ⟨g,0,none⟩),.int .i64 n] w fun e w'=>e=.returned (.int .i64 (take n s).1)∧Blk w' g 74 #[str (take n s).2]∧Chg (fun k=>k=g) w w':=by
 have HG:=Hd hg
 cases s with
 | nil=>
  have hc:w.cell? ⟨g,0,none⟩=some (str []):=hg.cell 0
  clear hg
  go_enter func35,ntmps35
  go_wp2
  go_ret
  exact ⟨rfl,HG.out,Chg.refl _ _⟩
 | cons c t=>
  have hc:w.cell? ⟨g,0,none⟩=some (str (c::t)):=hg.cell 0
  have hf:w.frozen? ⟨g,0,none⟩=false:=hg.frozen 0
  clear hg
  go_enter func35,ntmps35
  go_wp2
  go_ret
  refine ⟨zx8 (ztz c t n),?_,?_⟩
  ·rw [zfa]
   exact HG.out.set_ 0 (str t)
  exact (Chg.refl (fun k=>k=g) _).setCell (p:=⟨g,0,none⟩) (.inl rfl) _
def zfc (c:UInt8):Int:=if 65≤c.toNat∧c.toNat≤90 then (c.toNat:Int)-65+1 else if 97≤c.toNat∧c.toNat≤122 then (c.toNat:Int)-97+1 else 0
def colI:Int→zaa→Int
 | n,[]=>n
 | n,c::s=>colI (min (26*n+zfc c) 1025) s
def rowI:Int→zaa→Int
 | n,[]=>n
 | n,c::s=>rowI (min (10*n+((c.toNat:Int)-48)) 1025) s
def parR (s:zaa):Ref × Int:=
 if lenB letB s 0=0∨s.drop (lenB letB s 0)=[]∨(s.drop (lenB letB s 0)).head?=some 48∨(s.drop (lenB letB s 0)).all digB=false then (⟨0,0⟩,4)
 else if 1024<colI 0 (s.take (lenB letB s 0))∨1024<rowI 0 (s.drop (lenB letB s 0)) then (⟨0,0⟩,3)
 else (⟨colI 0 (s.take (lenB letB s 0)),rowI 0 (s.drop (lenB letB s 0))⟩,0)
theorem zeh (c:UInt8):letB c=true↔(65≤c.toNat∧c.toNat≤90)∨(97≤c.toNat∧c.toNat≤122):=by simp [letB]
theorem zew (c:UInt8):(0<zfc c↔letB c=true)∧0≤zfc c∧zfc c≤26:=by
 rw [zeh]
 unfold zfc
 split
 ·omega
 split
 ·omega
 omega
theorem zc7 (c:UInt8):digB c=true↔48≤c.toNat∧c.toNat≤57:=by simp [digB]
theorem zt1 (p:Pcs) (c:UInt8) (h:letB c=true) (hm:p.m1=0):zcf p c={ p with m0:=p.m0+1,v0:=min (26*p.v0+zfc c) 1025 }:=by
 rw [zeh] at h
 unfold zcf zfc
 by_cases h1:97≤c.toNat∧c.toNat≤122
 ·rw [if_pos h1,if_neg (by omega),if_pos h1]
  unfold addP
  simp only [if_true,hm,decide_true,Bool.and_true,Pcs.mk.injEq,true_and,and_true]
  congr 1
  omega
 rw [if_neg h1,if_pos (by omega),if_pos (by omega)]
 unfold addP
 simp only [if_true,hm,decide_true,Bool.and_true,Pcs.mk.injEq,true_and,and_true]
 congr 1
 omega
theorem zm9 (p:Pcs) (c:UInt8) (h:digB c=true):zcf p c={ p with ok:=p.ok&&(decide (c.toNat≠48)||decide (0<p.m1)),m1:=p.m1+1,v1:=min (10*p.v1+((c.toNat:Int)-48)) 1025 }:=by
 have h':=h
 rw [zc7] at h'
 unfold zcf
 rw [if_neg (by omega),if_neg (by omega),if_pos h]
 rfl
theorem zm8 (p:Pcs) (c:UInt8) (h1:letB c=false) (h2:digB c=false):(zcf p c).ok=false:=by
 have h:¬((65≤c.toNat∧c.toNat≤90)∨(97≤c.toNat∧c.toNat≤122)):=fun q=>by rw [(zeh c).2 q] at h1;cases h1
 unfold zcf
 rw [if_neg (by omega),if_neg (by omega),if_neg (by rw [h2];decide)]
theorem zt2 (p:Pcs) (c:UInt8) (h:p.ok=false):(zcf p c).ok=false:=by
 unfold zcf addP
 split
 ·simp [h]
 split
 ·simp [h]
 split
 ·simp [h]
 rfl
theorem zgy:∀(s:zaa) (p:Pcs),p.ok=false→(s.foldl zcf p).ok=false
 | [],_,h=>h
 | c::s,p,h=>zgy s _ (zt2 p c h)
theorem zn2:∀(a:zaa) (n:Int) (v:Int),(∀c∈a,letB c=true)→a.foldl zcf ⟨n,0,v,0,true⟩=⟨n+a.length,0,colI v a,0,true⟩
 | [],n,v,_=>by simp [colI]
 | c::a,n,v,h=>by
  rw [List.foldl_cons,zt1 _ c (h c (by simp)) rfl]
  have e:=zn2 a (n+1) (min (26*v+zfc c) 1025) (fun d hd=>h d (by simp [hd]))
  rw [e]
  simp only [colI,List.length_cons,Pcs.mk.injEq,and_self,and_true]
  omega
theorem zn3:∀(b:zaa) (m0 m1 v0 v1:Int),0<m1→b.foldl zcf ⟨m0,m1,v0,v1,true⟩=⟨m0,m1+b.length,v0,rowI v1 b,true⟩∧b.all digB=true∨(b.foldl zcf ⟨m0,m1,v0,v1,true⟩).ok=false∧b.all digB=false
 | [],m0,m1,v0,v1,_=>.inl (by simp [rowI])
 | c::b,m0,m1,v0,v1,h=>by
  rw [List.foldl_cons]
  by_cases hd:digB c=true
  ·rw [zm9 _ c hd]
   have e:(true&&(decide (c.toNat≠48)||decide (0<m1)))=true:=by simp [h]
   simp only [e]
   rcases zn3 b m0 (m1+1) v0 (min (10*v1+((c.toNat:Int)-48)) 1025) (by omega) with ⟨k1,k2⟩ | ⟨k1,k2⟩
   ·refine .inl ⟨?_,by simp [hd,k2]⟩
    rw [k1]
    simp only [rowI,List.length_cons,Pcs.mk.injEq,true_and,and_true]
    omega
   exact .inr ⟨k1,by simp [k2]⟩
  have hd':digB c=false:=by simpa using hd
  refine .inr ⟨zgy b _ ?_,by simp [hd']⟩
  by_cases hl:letB c=true
  ·rw [zeh] at hl
   unfold zcf addP
   by_cases q:97≤c.toNat∧c.toNat≤122
   ·rw [if_pos q]
    simp
    omega
   rw [if_neg q,if_pos (by omega)]
   simp
   omega
  exact zm8 _ c (by simpa using hl) hd'
theorem zlz:∀(s:zaa) (n:Int) (c:UInt8),colI n (s++ [c])=min (26*colI n s+zfc c) 1025
 | [],_,_=>rfl
 | _::s,_,c=>zlz s _ c
theorem zkx:∀(s:zaa) (n:Int) (c:UInt8),rowI n (s++ [c])=min (10*rowI n s+((c.toNat:Int)-48)) 1025
 | [],_,_=>rfl
 | _::s,_,c=>zkx s _ c
theorem zkd:∀(s:zaa) (n:Int),n≤1025→colI n s≤1025
 | [],n,h=>h
 | c::s,n,_=>zkd s _ (by omega)
theorem zs0:∀(s:zaa) (n:Int),0≤n→0≤colI n s
 | [],n,h=>h
 | c::s,n,h=>zs0 s _ (by have:=zew c;omega)
theorem zkc:∀(s:zaa) (n:Int),(∀c∈s,letB c=true)→0≤n→(s≠ []∨0<n)→0<colI n s
 | [],n,_,h0,h=>h.elim (fun q=>absurd rfl q) (fun q=>q)
 | c::s,n,h,h0,_=>zkc s _ (fun d hd=>h d (by simp [hd])) (by have:=zew c;omega) (.inr (by have:=(zew c).1.2 (h c (by simp));omega))
theorem zq3:∀(s:zaa) (n:Int),n≤1025→rowI n s≤1025
 | [],n,h=>h
 | c::s,n,_=>zq3 s _ (by omega)
theorem zq2:∀(s:zaa) (n:Int),0≤n→s.all digB=true→0≤rowI n s
 | [],n,h,_=>h
 | c::s,n,h,hd=>by
  simp only [List.all_cons,Bool.and_eq_true] at hd
  have:=(zc7 c).1 hd.1
  exact zq2 s _ (by omega) hd.2
theorem znd:∀(s:zaa) (n:Int),s.all digB=true→0≤n→(0<n∨(s≠ []∧s.head?≠some 48))→0<rowI n s
 | [],n,_,_,h=>h.elim (fun q=>q) (fun q=>absurd rfl q.1)
 | c::s,n,h,h0,hh=>by
  simp only [List.all_cons,Bool.and_eq_true] at h
  have hd:=(zc7 c).1 h.1
  refine znd s _ h.2 (by omega) (.inl ?_)
  rcases hh with hh | ⟨_,hh⟩
  ·omega
  have:c.toNat≠48:=fun e=>hh (by simp;exact UInt8.toNat_inj.1 (by simpa using e))
  omega
theorem zik (p:UInt8→Bool) (s:zaa):(∀c∈s.take (lenB p s 0),p c=true)∧(∀c,(s.drop (lenB p s 0)).head?=some c→p c=false):=by
 unfold lenB
 rw [List.drop_zero]
 induction s with
 | nil=>simp
 | cons d s ih=>
  by_cases h:p d=true
  ·simp only [List.takeWhile_cons,h,if_true,List.length_cons,List.take_succ_cons,List.drop_succ_cons]
   refine ⟨fun c hc=>?_,ih.2⟩
   rcases List.mem_cons.1 hc with rfl | hc
   ·exact h
   exact ih.1 c hc
  simp [h]
theorem zyh (s:zaa):parA s=parR s:=by
 obtain ⟨ht,hd⟩:=zik letB s
 have hsplit:s=s.take (lenB letB s 0)++s.drop (lenB letB s 0):=(List.take_append_drop _ _).symm
 have hlen:(s.take (lenB letB s 0)).length=lenB letB s 0:=by
  rw [List.length_take]
  unfold lenB
  have:=(List.takeWhile_prefix letB (l:=s.drop 0)).length_le
  simp at this ⊢
  omega
 have hread:zas s=(s.drop (lenB letB s 0)).foldl zcf ⟨lenB letB s 0,0,colI 0 (s.take (lenB letB s 0)),0,true⟩:=by
  unfold zas
  conv=>lhs;rw [hsplit]
  rw [List.foldl_append,zn2 _ 0 0 ht,hlen]
  simp
 unfold parA parR
 rw [hread]
 have hcp:=zkc (s.take (lenB letB s 0)) 0 ht (by omega)
 have hcl:=zkd (s.take (lenB letB s 0)) 0 (by omega)
 generalize hc:colI 0 (s.take (lenB letB s 0))=col at *
 generalize hb:s.drop (lenB letB s 0)=b at *
 generalize ha:lenB letB s 0=a at *
 cases b with
 | nil=>rw [if_pos (by simp),if_pos (by simp)]
 | cons c t=>
  have hlc:=hd c rfl
  rw [List.foldl_cons]
  by_cases hdc:digB c=true
  rotate_left
  ·have hdc':digB c=false:=by simpa using hdc
   rw [if_pos (.inl (zgy t _ (zm8 _ c hlc hdc'))),if_pos (by simp [hdc'])]
  rw [zm9 _ c hdc]
  by_cases h48:c.toNat=48
  ·have e48:c=48:=UInt8.toNat_inj.1 (by simpa using h48)
   have hbad:(List.foldl zcf { m0:=(a:Int),m1:=(0:Int)+1,v0:=col,v1:=min (10*0+((c.toNat:Int)-48)) 1025,ok:=true&&(decide (c.toNat≠48)||decide ((0:Int)<0)) } t).ok=false:=zgy t _ (by simp [h48])
   rw [if_pos (.inl hbad),if_pos (by rw [e48];simp)]
  have e:(true&&(decide (c.toNat≠48)||decide ((0:Int)<0)))=true:=by simp [h48]
  simp only [e]
  have hne:c≠48:=fun q=>h48 (by rw [q];rfl)
  rcases zn3 t a (0+1) col (min (10*0+((c.toNat:Int)-48)) 1025) (by omega) with ⟨k1,k2⟩ | ⟨k1,k2⟩
  ·have hrow:rowI 0 (c::t)=rowI (min (10*0+((c.toNat:Int)-48)) 1025) t:=rfl
   have hrp:=znd (c::t) 0 (by simp [hdc,k2]) (by omega) (.inr ⟨by simp,by simpa using hne⟩)
   rw [k1,← hrow]
   by_cases h0:a=0
   ·rw [if_pos (by simp [h0]),if_pos (.inl h0)]
   have n1:¬(true=false∨(a:Int)=0∨(0:Int)+1+(t.length:Int)=0):=by simp;omega
   have n2:¬(a=0∨c::t=[]∨(c::t).head?=some 48∨(c::t).all digB=false):=by simp [h0,hne,hdc,k2]
   have hcp':=hcp (.inl (fun q=>h0 (by rw [← hlen,q];rfl)))
   rw [if_neg n1,if_neg n2]
   by_cases hv:1024<col∨1024<rowI 0 (c::t)
   ·have:za1 col (rowI 0 (c::t))=false:=by
     rw [Bool.eq_false_iff]
     unfold za1
     simp
     omega
    rw [if_pos hv,this]
    rfl
   have:za1 col (rowI 0 (c::t))=true:=by
    unfold za1
    simp
    omega
   rw [if_neg hv,this]
   rfl
  rw [if_pos (.inl k1),if_pos (by simp [k2])]
def zqt (M:Nat) (o:Option Nat) (c:UInt8):Option Nat:=match o with
 | none=>none
 | some n=>if (M-(c.toNat-48)) / 10<n then none else some (10*n+(c.toNat-48))
def natO (n:Nat) (s:zaa):Option Nat:=s.foldl (zqt zci) (some n)
theorem znp:∀(l:zaa) (v:Nat) (c:UInt8),natB v (l++ [c])=10*natB v l+(c.toNat-48)
 | [],_,_=>rfl
 | _::l,_,c=>znp l _ c
theorem zf6 (M n:Nat) (c:UInt8):zqt M (some n) c=if (M-(c.toNat-48)) / 10<n then none else some (10*n+(c.toNat-48)):=rfl
theorem zno (M:Nat) (hM:9≤M) (n:Nat) (hn:n≤M):∀(r:zaa),r.all digB=true→r.reverse.foldl (zqt M) (some n)=if M<natB n r.reverse then none else some (natB n r.reverse)
 | [],_=>by
  show some n=if M<n then none else some n
  rw [if_neg (by omega)]
 | c::r,h=>by
  simp only [List.all_cons,Bool.and_eq_true] at h
  have hc:=(zc7 c).1 h.1
  rw [List.reverse_cons,List.foldl_append,zno M hM n hn r h.2,znp]
  generalize natB n r.reverse=v at *
  show zqt M (if M<v then none else some v) c=_
  by_cases hv:M<v
  ·rw [if_pos hv,if_pos (by omega)]
   rfl
  rw [if_neg hv,zf6]
  by_cases hk:(M-(c.toNat-48)) / 10<v
  ·rw [if_pos hk,if_pos (by omega)]
  rw [if_neg hk,if_neg (by omega)]
theorem zrt (s:zaa) (n:Nat) (h:s.all digB=true) (hn:n≤zci):natO n s=if zci<natB n s then none else some (natB n s):=by
 have:=zno zci (by decide) n hn s.reverse (by rw [List.all_reverse];exact h)
 rw [List.reverse_reverse] at this
 exact this
def zbr (s:zaa) (i:Nat):zaa:=if dotB s (i+lenB digB s i) then (s.drop (i+lenB digB s i+1)).take (lenB digB s (i+lenB digB s i+1)) else []
def zby (s:zaa) (i:Nat):zaa:=(s.drop i).take (lenB digB s i)
def zex (p:zaa):zaa:=p++List.replicate (4-p.length) 48
def zgn (s:zaa) (i:Nat):Tok × Nat:=
 if 4<(zbr s i).length then (tok0,0) else match natO 0 (zby s i++zex (zbr s i)) with
  | none=>(tok0,0)
  | some n=>(⟨1,n,[],z4,i⟩,zbe s i)
theorem zdb (p:UInt8→Bool) (s:zaa) (i:Nat):lenB p s i=lenB p (s.drop i) 0:=by unfold lenB;simp
theorem znt (p:UInt8→Bool) (s:zaa):lenB p s 0≤s.length:=by
 unfold lenB
 have:=(List.takeWhile_prefix p (l:=s.drop 0)).length_le
 simp at this ⊢
 exact this
theorem ze6 (p:UInt8→Bool) (s:zaa) (i:Nat):lenB p s i≤s.length-i:=by
 rw [zdb]
 have:=znt p (s.drop i)
 simpa using this
theorem zf1 (p:UInt8→Bool) (s:zaa) (i:Nat):((s.drop i).take (lenB p s i)).all p=true:=by
 rw [zdb,List.all_eq_true]
 exact (zik p (s.drop i)).1
theorem ze5 (p:UInt8→Bool) (s:zaa) (i:Nat):((s.drop i).take (lenB p s i)).length=lenB p s i:=by
 have:=ze6 p s i
 rw [List.length_take,List.length_drop]
 omega
theorem znu (p:UInt8→Bool):∀(a b:zaa),a.all p=true→(∀c,b.head?=some c→p c=false)→lenB p (a++b) 0=a.length
 | [],b,_,h=>by
  cases b with
  | nil=>rfl
  | cons c b=>simp [lenB,h c rfl]
 | d::a,b,ha,h=>by
  simp only [List.all_cons,Bool.and_eq_true] at ha
  have:=znu p a b ha.2 h
  simp only [lenB,List.drop_zero] at this ⊢
  simp [ha.1,this]
theorem zhw (s:zaa) (i:Nat):s.getD i 0=((s.drop i).head?).getD 0:=by
 rw [List.getD_eq_getElem?_getD,List.head?_drop]
theorem zi4 (s:zaa) (p:Nat) (h:dotB s p=true):s.drop p=46::s.drop (p+1)∧0<lenB digB s (p+1):=by
 unfold dotB at h
 simp only [Bool.and_eq_true,decide_eq_true_eq] at h
 obtain ⟨⟨h1,h2⟩,h3⟩:=h
 refine ⟨?_,?_⟩
 ·rw [List.drop_eq_getElem_cons (by omega)]
  congr 1
  unfold ub at h2
  rw [List.getD_eq_getElem?_getD,List.getElem?_eq_getElem (by omega)] at h2
  simp only [Option.getD_some] at h2
  exact UInt8.toNat_inj.1 (by simpa using h2)
 rw [zdb]
 rw [List.getD_eq_getElem?_getD,List.getElem?_eq_getElem (by omega)] at h3
 rw [List.drop_eq_getElem_cons (by omega)]
 simp only [Option.getD_some] at h3
 unfold lenB
 rw [List.drop_zero,List.takeWhile_cons,if_pos h3]
 simp
theorem zmg (s:zaa) (i:Nat):(s.drop i).take (zbe s i)=zby s i++(if dotB s (i+lenB digB s i) then 46::zbr s i else []):=by
 unfold zbe zby zbr
 by_cases h:dotB s (i+lenB digB s i)=true
 ·rw [if_pos h,if_pos h,if_pos h]
  have hd:=(zi4 s _ h).1
  have e1:s.drop i=(s.drop i).take (lenB digB s i)++s.drop (i+lenB digB s i):=by rw [← List.drop_drop];exact (List.take_append_drop _ _).symm
  generalize hn:lenB digB s (i+lenB digB s i+1)=n at *
  generalize hm:lenB digB s i=m at *
  have hl:((s.drop i).take m).length=m:=by rw [← hm];exact ze5 digB s i
  conv=>lhs;rw [e1]
  rw [List.take_append,hl,hd]
  rw [show m+1+n-m=n+1 by omega,List.take_succ_cons,List.take_of_length_le (by omega)]
 rw [if_neg h,if_neg h]
 simp
theorem zxs (s:zaa) (i:Nat) (h:0<lenB digB s i):∃c t,zby s i=c::t∧digB c=true:=by
 have hl:=ze5 digB s i
 have ha:=zf1 digB s i
 unfold zby
 cases hq:(s.drop i).take (lenB digB s i) with
 | nil=>rw [hq] at hl;simp at hl;omega
 | cons c t=>rw [hq] at ha;simp at ha;exact ⟨c,t,rfl,ha.1⟩
theorem znz (s:zaa) (i:Nat):(zbr s i).all digB=true:=by
 unfold zbr
 split
 ·exact zf1 digB s _
 rfl
theorem zj6 (s:zaa) (i:Nat) (h:dotB s (i+lenB digB s i)=true):(zbr s i).length=lenB digB s (i+lenB digB s i+1):=by
 unfold zbr
 rw [if_pos h]
 exact ze5 digB s _
theorem zy5 (p:zaa) (h:p.length≤4):(zgf p).take 4=zex p∧ub (zgf p) 4=48:=by
 unfold zgf zex
 match p,h with
 | [],_=>exact ⟨rfl,rfl⟩
 | [a],_=>exact ⟨rfl,rfl⟩
 | [a,b],_=>exact ⟨rfl,rfl⟩
 | [a,b,c],_=>exact ⟨rfl,rfl⟩
 | [a,b,c,d],_=>exact ⟨rfl,rfl⟩
 | a::b::c::d::e::p,h=>simp at h
theorem zn0 (p:zaa) (h:p.all digB=true):(zex p).all digB=true:=by
 unfold zex
 rw [List.all_append,h,Bool.true_and,List.all_eq_true]
 intro c hc
 rw [List.eq_of_mem_replicate hc]
 rfl
theorem zyn (s:zaa) (i:Nat) (h:0<lenB digB s i):zao s i=zgn s i:=by
 obtain ⟨c,t,hw,hc⟩:=zxs s i h
 have hwa:(zby s i).all digB=true:=zf1 digB s i
 have hfa:=znz s i
 unfold zao zgn
 rw [if_neg (by omega)]
 by_cases h4:4<(zbr s i).length
 ·have hd:dotB s (i+lenB digB s i)=true:=by
   rw [← Bool.not_eq_false]
   intro q
   unfold zbr at h4
   rw [q] at h4
   simp at h4
  rw [if_pos ⟨hd,by rw [← zj6 s i hd];exact h4⟩,if_pos h4]
 have hn:¬(dotB s (i+lenB digB s i)=true∧4<lenB digB s (i+lenB digB s i+1)):=fun q=>h4 (by rw [zj6 s i q.1];exact q.2)
 rw [if_neg hn,if_neg h4,zmg]
 have hfour:=zy5 (zbr s i) (by omega)
 have hall:(zby s i++zex (zbr s i)).all digB=true:=by rw [List.all_append,hwa,zn0 _ hfa];rfl
 rw [zrt _ 0 hall (by decide)]
 have hneg:negB (zby s i++(if dotB s (i+lenB digB s i) then 46::zbr s i else []))=false:=by
  rw [hw]
  unfold negB
  have:=(zc7 c).1 hc
  simp
  intro q
  rw [q] at this
  simp at this
 have hlen:lenB digB (zby s i++(if dotB s (i+lenB digB s i) then 46::zbr s i else [])) 0=(zby s i).length:=by
  refine znu digB _ _ hwa (fun d hd=>?_)
  split at hd
  ·simp at hd;rw [← hd];rfl
  cases hd
 have hun:unsB (zby s i++(if dotB s (i+lenB digB s i) then 46::zbr s i else []))=zby s i++(if dotB s (i+lenB digB s i) then 46::zbr s i else []):=by unfold unsB;rw [hneg];rfl
 have hpl:zcn (if dotB s (i+lenB digB s i) then 46::zbr s i else [])=some (zbr s i):=by
  by_cases hd:dotB s (i+lenB digB s i)=true
  ·rw [if_pos hd]
   have h1:=(zi4 s _ hd).2
   rw [← zj6 s i hd] at h1
   show (if (46:UInt8)=46∧zbr s i≠ []∧(zbr s i).all digB=true then some (zbr s i) else none)=_
   rw [if_pos ⟨rfl,fun q=>by rw [q] at h1;simp at h1,hfa⟩]
  rw [if_neg hd]
  unfold zbr
  rw [if_neg hd]
  rfl
 have hpd:zbc (zby s i++(if dotB s (i+lenB digB s i) then 46::zbr s i else []))=if zci<natB 0 (zby s i++zex (zbr s i)) then (0,3) else (((natB 0 (zby s i++zex (zbr s i)):Nat):Int),0):=by
  unfold zbc
  rw [hun,hlen,List.drop_left,List.take_left,hpl,hneg]
  dsimp only
  unfold zhb
  rw [hfour.1,hfour.2,if_neg (by rw [hw];simp)]
  simp
 rw [hpd]
 by_cases hm:zci<natB 0 (zby s i++zex (zbr s i))
 ·rw [if_pos hm,if_pos hm]
  rfl
 rw [if_neg hm,if_neg hm]
 rfl
theorem zww (c:UInt8):upU c=if 97≤c.toNat∧c.toNat≤122 then UInt8.ofNat (c.toNat-32) else c:=rfl
theorem zxt (p:Pcs) (c:UInt8):zcf p (upU c)=zcf p c:=by
 by_cases h:97≤c.toNat∧c.toNat≤122
 ·have e:(upU c).toNat=c.toNat-32:=by rw [zww,if_pos h];simp;omega
  unfold zcf
  rw [if_pos h,if_neg (by omega),if_pos (by omega),e]
 rw [zww,if_neg h]
theorem par_up (s:zaa):parA (s.map upU)=parA s:=by
 have h:∀(s:zaa) (p:Pcs),(s.map upU).foldl zcf p=s.foldl zcf p:=by
  intro s
  induction s with
  | nil=>intro p;rfl
  | cons c s ih=>intro p;rw [List.map_cons,List.foldl_cons,List.foldl_cons,zxt,ih]
 unfold parA zas
 rw [h]
def unqP:zaa→Option (zaa × Nat)
 | []=>none
 | [c]=>if c=34 then some ([],1) else none
 | c::d::t=>if c=34 then (if d=34 then (unqP t).map (fun r=>(34::r.1,r.2+2)) else some ([],1)) else (unqP (d::t)).map (fun r=>(c::r.1,r.2+1))
theorem ztt (s:zaa) (k:Nat) (c:UInt8) (t:zaa) (h:s.drop k=c::t):k<s.length∧ub s k=c.toNat∧s.drop (k+1)=t:=by
 have hl:k<s.length:=by
  have:=congrArg List.length h
  simp at this
  omega
 refine ⟨hl,?_,?_⟩
 ·unfold ub
  rw [List.getD_eq_getElem?_getD,← List.head?_drop,h]
  rfl
 rw [← List.drop_drop,h]
 rfl
theorem zka (s:zaa):∀(n k f:Nat),s.length-k≤n→s.length-k<f→endQ s f k=(unqP (s.drop k)).map (fun r=>k+r.2-1)∧(∀r,unqP (s.drop k)=some r→1≤r.2∧k+r.2≤s.length)
 | n,k,0,_,hf=>by omega
 | 0,k,f+1,hn,_=>by
  have e:s.drop k=[]:=List.drop_eq_nil_of_le (by omega)
  rw [e]
  unfold endQ
  rw [if_pos (by omega)]
  exact ⟨rfl,fun r h=>by cases h⟩
 | n+1,k,f+1,hn,hf=>by
  by_cases hk:s.length≤k
  ·have e:s.drop k=[]:=List.drop_eq_nil_of_le hk
   rw [e]
   unfold endQ
   rw [if_pos hk]
   exact ⟨rfl,fun r h=>by cases h⟩
  obtain ⟨c,t,hct⟩:∃c t,s.drop k=c::t:=by
   cases h:s.drop k with
   | nil=>have:=congrArg List.length h;simp at this;omega
   | cons c t=>exact ⟨c,t,rfl⟩
  obtain ⟨h1,h2,h3⟩:=ztt s k c t hct
  unfold endQ
  rw [if_neg hk,h2]
  by_cases h34:c.toNat=34
  ·have e34:c=34:=UInt8.toNat_inj.1 (by simpa using h34)
   rw [if_neg (by simpa using h34)]
   cases t with
   | nil=>
    have hl:s.length=k+1:=by have:=congrArg List.length hct;simp at this;omega
    rw [if_neg (by omega),hct,e34]
    exact ⟨rfl,fun r h=>by simp [unqP] at h;rw [← h];simp;omega⟩
   | cons d t=>
    obtain ⟨g1,g2,g3⟩:=ztt s (k+1) d t h3
    by_cases d34:d.toNat=34
    ·have f34:d=34:=UInt8.toNat_inj.1 (by simpa using d34)
     rw [if_pos ⟨g1,by rw [g2];exact d34⟩]
     obtain ⟨i1,i2⟩:=zka s n (k+2) f (by omega) (by omega)
     rw [i1,hct,show s.drop (k+2)=t from g3,e34,f34]
     rw [show s.drop (k+2)=t from g3] at i2
     have eq:unqP (34::34::t)=(unqP t).map (fun r=>(34::r.1,r.2+2)):=by simp [unqP]
     rw [eq]
     cases hq:unqP t with
     | none=>exact ⟨rfl,fun r h=>by cases h⟩
     | some r=>
      have:=i2 r hq
      refine ⟨?_,fun r' h=>?_⟩
      ·simp only [Option.map_some,Option.some.injEq]
       omega
      simp only [Option.map_some,Option.some.injEq] at h
      rw [← h]
      exact ⟨by simp,by simp;omega⟩
    have f34:¬d=34:=fun q=>d34 (by rw [q];rfl)
    rw [if_neg (by rw [g2];exact fun q=>d34 q.2),hct,e34]
    have eq:unqP (34::d::t)=some ([],1):=by simp [unqP,f34]
    rw [eq]
    exact ⟨rfl,fun r h=>by simp at h;rw [← h];simp;omega⟩
  have e34:¬c=34:=fun q=>h34 (by rw [q];rfl)
  rw [if_pos h34]
  obtain ⟨i1,i2⟩:=zka s n (k+1) f (by omega) (by omega)
  rw [h3] at i1 i2
  rw [i1,hct]
  cases t with
  | nil=>
   have eq:unqP [c]=none:=by simp [unqP,e34]
   rw [eq]
   exact ⟨rfl,fun r h=>by cases h⟩
  | cons d t=>
   have eq:unqP (c::d::t)=(unqP (d::t)).map (fun r=>(c::r.1,r.2+1)):=by simp [unqP,e34]
   rw [eq]
   cases hq:unqP (d::t) with
   | none=>exact ⟨rfl,fun r h=>by cases h⟩
   | some r=>
    have:=i2 r hq
    refine ⟨?_,fun r' h=>?_⟩
    ·simp only [Option.map_some,Option.some.injEq]
     omega
    simp only [Option.map_some,Option.some.injEq] at h
    rw [← h]
    exact ⟨by simp,by simp;omega⟩
theorem zi9:∀(n:Nat) (s:zaa) (r:zaa × Nat),s.length≤n→unqP s=some r→1≤r.2∧r.2≤s.length∧unqL (s.take (r.2-1))=some r.1∧r.1.length≤r.2-1∧(s.drop (r.2-1)).head?=some 34
 | _,[],r,_,h=>by cases h
 | _,[c],r,_,h=>by
  by_cases e:c=34
  ·simp only [unqP,e,if_true,Option.some.injEq] at h
   rw [← h,e]
   exact ⟨by simp,by simp,rfl,by simp,rfl⟩
  simp [unqP,e] at h
 | 0,_::_::_,_,hn,_=>by simp at hn
 | n+1,c::d::t,r,hn,h=>by
  simp only [List.length_cons] at hn
  by_cases e:c=34
  ·by_cases f:d=34
   ·have eq:unqP (c::d::t)=(unqP t).map (fun r=>(34::r.1,r.2+2)):=by simp [unqP,e,f]
    rw [eq] at h
    obtain ⟨q,hq,rfl⟩:=Option.map_eq_some_iff.1 h
    obtain ⟨i1,i2,i3,i4,i5⟩:=zi9 n t q (by omega) hq
    obtain ⟨m,hm⟩:∃m,q.2=m+1:=⟨q.2-1,by omega⟩
    rw [hm] at i2 i3 i4 i5
    rw [hm,e,f]
    refine ⟨by simp,by simp;omega,?_,by simp at i4 ⊢;omega,?_⟩
    ·have e2:(34::34::t).take (m+1+2-1)=34::34::t.take m:=by rw [show m+1+2-1=m+2 by omega];rfl
     have e3:t.take (m+1-1)=t.take m:=by rw [Nat.add_sub_cancel]
     rw [e3] at i3
     rw [e2,unqL]
     simp [i3]
    rw [show m+1+2-1=m+2 by omega]
    rw [Nat.add_sub_cancel] at i5
    exact i5
   have eq:unqP (c::d::t)=some ([],1):=by simp [unqP,e,f]
   rw [eq] at h
   simp only [Option.some.injEq] at h
   rw [← h,e]
   exact ⟨by simp,by simp,rfl,by simp,rfl⟩
  have eq:unqP (c::d::t)=(unqP (d::t)).map (fun r=>(c::r.1,r.2+1)):=by simp [unqP,e]
  rw [eq] at h
  obtain ⟨q,hq,rfl⟩:=Option.map_eq_some_iff.1 h
  obtain ⟨i1,i2,i3,i4,i5⟩:=zi9 n (d::t) q (by simp;omega) hq
  obtain ⟨m,hm⟩:∃m,q.2=m+1:=⟨q.2-1,by omega⟩
  rw [hm] at i2 i3 i4 i5
  rw [hm]
  refine ⟨by simp,by simp at i2 ⊢;omega,?_,by simp at i4 ⊢;omega,?_⟩
  ·rw [Nat.add_sub_cancel] at i3 i4
   rw [show m+1+1-1=m+1 by omega,List.take_succ_cons]
   cases m with
   | zero=>
    simp only [List.take_zero] at i3 ⊢
    simp only [unqL,Option.some.injEq] at i3
    rw [← i3]
    simp [unqL,e]
   | succ m=>
    rw [List.take_succ_cons] at i3 ⊢
    rw [unqL,if_neg e,i3]
    rfl
  rw [show m+1+1-1=m+1 by omega]
  rw [Nat.add_sub_cancel] at i5
  exact i5
def zeq (s:zaa) (i:Nat):Tok × Nat:=match unqP (s.drop (i+1)) with
 | none=>(tok0,0)
 | some r=>(⟨2,0,r.1,z4,i⟩,r.2+1)
theorem zyf {s t:zaa} (h:pltB s=true) (hs:∀c∈t,c∈s):pltB t=true:=by
 unfold pltB at *
 rw [List.all_eq_true] at *
 exact fun c hc=>h c (hs c hc)
theorem zty (s:zaa) (i:Nat) (hl:s.length≤256) (hp:pltB s=true) (h:ub s i=34):zc1 s i=zeq s i:=by
 unfold zc1 zeq
 rw [if_neg (by rw [h];decide)]
 have hi:i<s.length:=by
  rw [← Nat.not_le]
  intro q
  unfold ub at h
  rw [List.getD_eq_getElem?_getD,List.getElem?_eq_none q] at h
  simp at h
 obtain ⟨h1,h2⟩:=zka s s.length (i+1) s.length (by omega) (by omega)
 rw [h1]
 cases hq:unqP (s.drop (i+1)) with
 | none=>rfl
 | some r=>
  obtain ⟨j1,j2,j3,j4,j5⟩:=zi9 _ _ r (Nat.le_refl _) hq
  simp only [Option.map_some]
  rw [List.length_drop] at j2
  obtain ⟨m,hm⟩:∃m,r.2=m+1:=⟨r.2-1,by omega⟩
  rw [hm,Nat.add_sub_cancel] at j3 j4 j5
  rw [hm]
  rw [hm] at j2
  have e0:i+1+(m+1)-1+1-i=m+2:=by omega
  rw [e0]
  have hd:s.drop i=34::s.drop (i+1):=by
   rw [List.drop_eq_getElem_cons hi]
   congr 1
   unfold ub at h
   rw [List.getD_eq_getElem?_getD,List.getElem?_eq_getElem hi] at h
   simp only [Option.getD_some] at h
   exact UInt8.toNat_inj.1 (by simpa using h)
  have hbody:(s.drop i).take (m+2)=34::((s.drop (i+1)).take m++ [34]):=by
   rw [hd,List.take_succ_cons,List.take_add_one,← List.head?_drop,j5]
   rfl
  rw [hbody]
  have hlen:((s.drop (i+1)).take m).length=m:=by rw [List.length_take,List.length_drop];omega
  have hun:unqB (34::((s.drop (i+1)).take m++ [34]))=(r.1,0):=by
   have hpl:pltB (34::((s.drop (i+1)).take m++ [34]))=true:=by
    rw [← hbody]
    exact zyf hp (fun c hc=>List.mem_of_mem_drop (List.mem_of_mem_take hc))
   have k1:(34::((s.drop (i+1)).take m++ [34])).length=m+2:=by simp [hlen]
   have k2:ub (34::((s.drop (i+1)).take m++ [34])) 0=34:=rfl
   have k3:ub (34::((s.drop (i+1)).take m++ [34])) (m+1)=34:=by
    unfold ub
    rw [List.getD_eq_getElem?_getD,List.getElem?_cons_succ,List.getElem?_append_right (by omega),hlen]
    simp
   have k4:((34::((s.drop (i+1)).take m++ [34])).drop 1).take m=(s.drop (i+1)).take m:=by
    rw [List.drop_succ_cons,List.drop_zero,List.take_append_of_le_length (by omega),List.take_of_length_le (by omega)]
   unfold unqB
   rw [k1,k2,show m+2-1=m+1 by omega,k3,hpl,show m+2-2=m by omega,k4,j3,if_neg (by simp)]
   simp only
   rw [if_neg (by omega)]
  rw [hun]
  simp
end Go.Proofs.YtamcgggmfghljaaGreatDoor
