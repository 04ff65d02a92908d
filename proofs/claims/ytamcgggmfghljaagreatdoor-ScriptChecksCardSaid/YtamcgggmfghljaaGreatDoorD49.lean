/- Layers 1, 11 (reference): Parse ends; constant ends. -/
import Derived.Test.YtamcgggmfghljaaGreatDoorD46
set_option maxRecDepth 100000
set_option maxHeartbeats 8000000
open Go.Proofs.Tryz
namespace Go.Proofs.YtamcgggmfghljaaGreatDoor
open Go.RowKit
theorem zrf (s:zaa) (w:World) (hs:s.length≤256):Calls prog 258 #[str s] w fun u w'=>NumER u∧Below w.heap.size w w':=by
 have HDG:=Hd (fun (a:Int) (k:Nat) (h:a=k) (hk:k≤s.length)=>show Calls prog 291 #[str s,.int .i64 a] w fun u w'=>(∃k:Nat,u=.returned (.int .i64 k)∧k≤s.length)∧w=w' from h▸(zpe s k w (by omega) hk).mono (by
  rintro u w' ⟨⟨j,rfl,_,h2⟩,rfl⟩
  exact ⟨⟨j,rfl,h2⟩,rfl⟩))
 go_enter func258,ntmps258
 go_upto_region 2 with (fail)
 go_cut [19] from 12 (fun v wx=>∃b:Bool,v=.bool b∧(b=true→1≤s.length)∧w=wx)
 case first=>
  by_cases h0:s.length=0
  ·have hl:¬(0:Int)<(s.length:Int):=by omega
   go_wp2
   go_meet
   exact ⟨false,rfl,by simp,rfl⟩
  have hl:(0:Int)<(s.length:Int):=by omega
  have hx:=za2 s 0 (by rw [zad];omega)
  generalize s.getD 0 0=c at hx
  by_cases h45:c.toNat=45
  ·have t1:((c.toNat:Int)==45)=true:=by simp [h45]
   go_wp2
   go_meet
   exact ⟨true,rfl,fun _=>by omega,rfl⟩
  have t1:((c.toNat:Int)==45)=false:=by simp;omega
  go_wp2
  go_meet
  exact ⟨false,rfl,by simp,rfl⟩
 obtain ⟨b1,rfl,hb1,rfl⟩:=hcut
 go_upto_if 19 with (fail)
 go_cut [4] from 12 (fun v wx=>∃fr:Nat,fr≤s.length∧v=.int .i64 fr∧w=wx)
 case first=>
  cases b1
  ·go_wp2
   go_meet
   exact ⟨0,by omega,rfl,rfl⟩
  go_wp2
  go_meet
  exact ⟨1,hb1 (by trivial),rfl,rfl⟩
 obtain ⟨fr,hfr,rfl,rfl⟩:=hcut
 go_wp2_with fail
 refine (HDG.out _ fr rfl hfr).mono ?_
 rintro u w1 ⟨⟨pt,rfl,hp⟩,rfl⟩
 have hp0:(0:Int)≤(pt:Int):=Int.natCast_nonneg _
 go_upto_region 6 with (fail)
 go_cut [33] from 24 (fun v wx=>∃b:Bool,v=.bool b∧(b=true→pt+1≤s.length)∧w=wx)
 case first=>
  by_cases h0:pt<s.length
  rotate_left
  ·have hl:¬(pt:Int)<(s.length:Int):=by omega
   go_wp2
   go_meet
   exact ⟨false,rfl,by simp,rfl⟩
  have hl:(pt:Int)<(s.length:Int):=by omega
  have hx:=za2 s pt (by rw [zad];omega)
  generalize s.getD pt 0=c at hx
  by_cases h46:c.toNat=46
  ·have t1:((c.toNat:Int)==46)=true:=by simp [h46]
   go_wp2
   go_meet
   exact ⟨true,rfl,fun _=>by omega,rfl⟩
  have t1:((c.toNat:Int)==46)=false:=by simp;omega
  go_wp2
  go_meet
  exact ⟨false,rfl,by simp,rfl⟩
 obtain ⟨b2,rfl,hb2,rfl⟩:=hcut
 go_upto_if 33 with (fail)
 go_cut [6] from 24 (fun v wx=>∃en:Nat,en≤s.length∧v=.int .i64 en∧w=wx)
 case first=>
  cases b2
  ·go_wp2
   go_meet
   exact ⟨pt,hp,rfl,rfl⟩
  go_wp2_with fail
  refine (HDG.out _ (pt+1) (by simp) (hb2 (by trivial))).mono ?_
  rintro u w1 ⟨⟨en,rfl,he⟩,rfl⟩
  go_wp2
  go_meet
  exact ⟨en,he,rfl,rfl⟩
 obtain ⟨en,hen,rfl,rfl⟩:=hcut
 clear HDG
 by_cases h1:pt=fr
 ·have t1:((pt:Int)==(fr:Int))=true:=by simp [h1]
  clear h1
  go_wp2
  go_ret2
  exact ⟨NumER.of _ _,Below.refl _ _⟩
 have t1:((pt:Int)==(fr:Int))=false:=by simp;omega
 by_cases h2:en=s.length
 rotate_left
 ·have t2:((en:Int) != (s.length:Int))=true:=by simp;omega
  go_wp2
  go_ret2
  exact ⟨NumER.of _ _,Below.refl _ _⟩
 have t2:((en:Int) != (s.length:Int))=false:=by simp [h2]
 clear h2
 by_cases h3:en=pt+1
 ·have t3:((en:Int)==(pt:Int)+1)=true:=by simp;omega
  clear h3
  go_wp2
  go_ret2
  exact ⟨NumER.of _ _,Below.refl _ _⟩
 have t3:((en:Int)==(pt:Int)+1)=false:=by simp;omega
 have KW:=Hd (show WideK (w.alloc (.cells #[.int .u64 0,.int .u64 0] 302)) w.heap.size 0 0 from Blk.new w _ _)
 have HB0:=Hd (show Below w.heap.size w (w.alloc (.cells #[.int .u64 0,.int .u64 0] 302)) by go_grown)
 clear h1 h3
 go_wp2_with fail
 clear t1 t2 t3
 go_loopw [8] (fun v wr=>∃(i:Nat) (h l:Int),v=.int .i64 i∧WideK wr w.heap.size h l∧Below w.heap.size w wr) (fun v _=>pt+5-(intOf v).toNat)
 case atStart=>exact ⟨fr,0,0,rfl,KW.out,HB0.out⟩
 rename World=>wr
 obtain ⟨i,h,l,rfl,hk,hbw⟩:=hrel
 have K:=Hd hk
 have HB:=Hd hbw
 have c0:wr.cell? ⟨w.heap.size,0,none⟩=some (.int .u64 h):=Blk.cell hk 0
 have c1:wr.cell? ⟨w.heap.size,1,none⟩=some (.int .u64 l):=Blk.cell hk 1
 have f0:=fun o=>Blk.frozen hk o
 have hi0:(0:Int)≤(i:Int):=Int.natCast_nonneg _
 clear hk hbw KW HB0
 by_cases hlt:i<pt+5
 rotate_left
 ·have hl:¬(i:Int)<(pt:Int)+5:=by omega
  clear c0 c1 f0
  go_upto_region 21 with (fail)
  go_cut [103] from 92 (fun v wx=>∃b:Bool,v=.bool b∧wr=wx)
  case first=>
   by_cases h5:pt+5<s.length
   rotate_left
   ·have hl5:¬(pt:Int)+5<(s.length:Int):=by omega
    go_wp2
    go_meet
    exact ⟨_,rfl,rfl⟩
   have hl5:(pt:Int)+5<(s.length:Int):=by omega
   have hp5:(0:Int)≤(pt:Int)+5:=by omega
   have hx:=za2 s (pt+5) (by rw [zad];omega)
   generalize s.getD (pt+5) 0=c at hx
   go_wp2
   go_meet
   exact ⟨_,rfl,rfl⟩
  obtain ⟨b3,rfl,rfl⟩:=hcut
  go_upto_if 103 with (fail)
  go_cut [] from 92 (fun wx=>∃h l:Int,WideK wx w.heap.size h l∧Below w.heap.size w wx)
  case first=>
   obtain ⟨c0,c1,f0⟩:=WideK.facts K.out
   cases b3
   ·go_wp2
    go_meet
    exact ⟨h,l,K.out,HB.out⟩
   go_wp2_with fail
   refine (zgv _ _ _ _ _).mono ?_
   rintro u w3 ⟨⟨h3,l3,rfl⟩,hb3⟩
   have K3:=Hd (Blk.below_ K.out hb3)
   have HB3:=Hd (Below.next HB.out hb3 HB.out.size)
   clear hb3 c0 c1 f0
   obtain ⟨d0,d1,f3⟩:=WideK.facts K3.out
   go_wp2
   go_meet
   exact ⟨h3,l3,WideK.put K3.out h3 l3,zog HB3.out (Nat.le_refl _) _ _⟩
  obtain ⟨h',l',hk',hb'⟩:=hcut
  have HB':=Hd hb'
  have c0:wc.cell? ⟨w.heap.size,0,none⟩=some (.int .u64 h'):=Blk.cell hk' 0
  have c1:wc.cell? ⟨w.heap.size,1,none⟩=some (.int .u64 l'):=Blk.cell hk' 1
  clear hk' hb' K HB
  obtain ⟨bf,hbf⟩:∃b,((fr:Int)==1)=b:=⟨_,rfl⟩
  go_wp2_with fail
  refine (zpd _ _ _ _).mono ?_
  rintro u w4 ⟨⟨n,b,rfl⟩,hb4⟩
  have HB4:=Hd (Below.next HB'.out hb4 HB'.out.size)
  clear hb4 c0 c1
  cases b
  ·go_wp2
   go_ret2
   exact ⟨NumER.of _ _,HB4.out⟩
  go_wp2
  go_ret2
  exact ⟨NumER.of _ _,HB4.out⟩
 have hl:(i:Int)<(pt:Int)+5:=by omega
 by_cases hip:i=pt
 ·have t1:((i:Int) != (pt:Int))=false:=by simp [hip]
  by_cases hH:h=0
  rotate_left
  ·have tH:(h != 0)=true:=by simpa using hH
   go_wp2
   go_ret2
   exact ⟨NumER.of _ _,HB.out⟩
  have tH:(h != 0)=false:=by simpa using hH
  clear hH hip
  by_cases hL:9223372036854775807<l
  ·go_wp2
   go_ret2
   exact ⟨NumER.of _ _,HB.out⟩
  go_wp2
  exact ⟨⟨i+1,h,l,by go_num,K.out,HB.out⟩,by simp [intOf];omega⟩
 have t1:((i:Int) != (pt:Int))=true:=by simp;omega
 have hx:=fun (h:i<s.length)=>za2 s i (by rw [zad];exact h)
 generalize s.getD i 0=c at hx
 have HX:=Hd hx
 clear hx
 rcases Nat.lt_or_ge i s.length with hil | hil
 all_goals
  first
   | (have hil':(i:Int)<(s.length:Int):=by omega
      have hx:=HX.out hil)
   | (have hil':¬(i:Int)<(s.length:Int):=by omega)
  by_cases hH:h=0
  rotate_left
  ·have tH:(h != 0)=true:=by simpa using hH
   go_wp2
   go_ret2
   exact ⟨NumER.of _ _,HB.out⟩
  have tH:(h != 0)=false:=by simpa using hH
  clear hH
  by_cases hL:9223372036854775807<l
  ·go_wp2
   go_ret2
   exact ⟨NumER.of _ _,HB.out⟩
  go_wp2_with fail
  refine (zre _ _ _).mono ?_
  rintro u w2 ⟨⟨h2,l2,rfl⟩,hb2⟩
  have HB2:=Hd (Below.next HB.out hb2 HB.out.size)
  have K2:=Hd (Blk.below_ K.out hb2)
  clear hb2 c0 c1 f0
  go_wp2_with fail
  refine (zgv _ _ _ _ _).mono ?_
  rintro u w3 ⟨⟨h3,l3,rfl⟩,hb3⟩
  have HB3:=Hd (Below.next HB2.out hb3 HB2.out.size)
  have K3:=Hd (Blk.below_ K2.out hb3)
  clear hb3
  obtain ⟨d0,d1,df⟩:=WideK.facts K3.out
  go_wp2
  exact ⟨⟨i+1,h3,l3,by go_num,WideK.put K3.out h3 l3,zog HB3.out (Nat.le_refl _) _ _⟩,by simp [intOf];omega⟩
abbrev ValZ (w:World) (g:Nat):Prop:=Blk w g 189 #[.int .u8 0,.int .i64 0,.string ⟨#[]⟩]
theorem zc0 {w:World} {g:Nat} (h:ValZ w g):w.cell? ⟨g,0,none⟩=some (.int .u8 0)∧w.cell? ⟨g,1,none⟩=some (.int .i64 0)∧w.cell? ⟨g,2,none⟩=some (str [])∧∀o,w.frozen? ⟨g,o,none⟩=false:=⟨h.cell 0,h.cell 1,h.cell 2,h.frozen⟩
theorem zgk {B:Nat} {a w:World} (h:Below B a w) {g:Nat} (hg:B≤g) (v0 v1 v2:Value):Below B a (((w.setCell ⟨g,0,none⟩ v0).setCell ⟨g,1,none⟩ v1).setCell ⟨g,2,none⟩ v2):=((h.setCell hg _).setCell hg _).setCell hg _
def ConR (w:World) (u:Ending) (w':World):Prop:=(∃(k n:Int) (x:zaa),u=.returned (.agg #[.int .u8 k,.int .i64 n,str x]))∧Below w.heap.size w w'
theorem ConR.of {w w':World} (k n:Int) (x:zaa) (h:Below w.heap.size w w'):ConR w (.returned (.agg #[.int .u8 k,.int .i64 n,str x])) w':=⟨⟨k,n,x,rfl⟩,h⟩
theorem con_r (s:zaa) (w:World) (hs:s.length≤256):Calls prog 228 #[str s] w (ConR w):=by
 have KZ:=Hd (show ValZ (w.alloc (.cells #[.int .u8 0,.int .i64 0,.string ⟨#[]⟩] 189)) w.heap.size from Blk.new w _ _)
 have HB0:=Hd (show Below w.heap.size w (w.alloc (.cells #[.int .u8 0,.int .i64 0,.string ⟨#[]⟩] 189)) by go_grown)
 obtain ⟨W1,hW1⟩:∃W1,w.alloc (.cells #[.int .u8 0,.int .i64 0,.string ⟨#[]⟩] 189)=W1:=⟨_,rfl⟩
 rw [hW1] at KZ HB0
 obtain ⟨y,hy⟩:∃y,s.map upU=y:=⟨_,rfl⟩
 have HU:=Hd (fun w=>hy▸zfo s w (by omega))
 clear hy
 have HCO:=Hd (fun w=>zuv s w (by omega))
 have HPA:=Hd (fun w=>zrf s w hs)
 go_enter func228,ntmps228
 go_upto_region 1 with (fail)
 clear hW1
 obtain ⟨q0,q1,q2,qf⟩:=zc0 KZ.out
 by_cases hse:s=[]
 ·have be:(s== [])=true:=by simp [hse]
  clear hse
  go_wp2
  refine bodyPost_ret (v:=.agg #[.int .u8 0,.int .i64 0,str []]) (by simp (maxDischargeDepth:=9) [results,results228,go_sem,q0,q1,q2]) rfl ?_
  exact ConR.of _ _ _ (zgk HB0.out (Nat.le_refl _) _ _ _)
 have be:(s== [])=false:=by simpa using hse
 have hpos:0<s.length:=List.length_pos_iff.2 hse
 have hp1:(0:Int)<(s.length:Int):=by omega
 have hx:=za2 s 0 (by rw [zad];exact hpos)
 generalize s.getD 0 0=c at hx
 clear hse
 by_cases h39:c.toNat=39
 ·have b39:((c.toNat:Int)==39)=true:=by simp [h39]
  clear h39
  go_wp2
  rw [zfx s 1 _ rfl]
  go_wp2
  refine bodyPost_ret (v:=.agg #[.int .u8 3,.int .i64 0,str (s.drop 1)]) (by simp (maxDischargeDepth:=9) [results,results228,go_sem,q0,q1,q2]) rfl ?_
  exact ConR.of _ _ _ (zgk HB0.out (Nat.le_refl _) _ _ _)
 have b39:((c.toNat:Int)==39)=false:=by simp;omega
 clear h39
 go_wp2_with fail
 refine (HU.out _).mono ?_
 rintro u w2 ⟨rfl,hb2⟩
 have K2:=Hd (Blk.below_ KZ.out hb2)
 have HB2:=Hd (Below.next HB0.out hb2 HB0.out.size)
 clear hb2 q0 q1 q2 qf
 cases hT:(y== [84,82,85,69])
 rotate_left
 ·go_wp2_with fail
  refine (HU.out _).mono ?_
  rintro u w3 ⟨rfl,hb3⟩
  have K3:=Hd (Blk.below_ K2.out hb3)
  have HB3:=Hd (Below.next HB2.out hb3 HB2.out.size)
  clear hb3
  go_wp2_with fail
  refine (zjq _).mono ?_
  rintro u w4 ⟨rfl,hb4⟩
  have K4:=Hd (Blk.below_ K3.out hb4)
  have HB4:=Hd (Below.next HB3.out hb4 HB3.out.size)
  clear hb4
  obtain ⟨q0,q1,q2,qf⟩:=zc0 K4.out
  go_wp2
  refine bodyPost_ret (v:=.agg #[.int .u8 2,.int .i64 1,str []]) (by simp (maxDischargeDepth:=9) [results,results228,go_sem,q0,q1,q2]) rfl ?_
  exact ConR.of _ _ _ (zgk HB4.out (Nat.le_refl _) _ _ _)
 go_wp2_with fail
 refine (HU.out _).mono ?_
 rintro u w3 ⟨rfl,hb3⟩
 have K3:=Hd (Blk.below_ K2.out hb3)
 have HB3:=Hd (Below.next HB2.out hb3 HB2.out.size)
 clear hb3
 cases hF:(y== [70,65,76,83,69])
 rotate_left
 ·go_wp2_with fail
  refine (HU.out _).mono ?_
  rintro u w4 ⟨rfl,hb4⟩
  have K4:=Hd (Blk.below_ K3.out hb4)
  have HB4:=Hd (Below.next HB3.out hb4 HB3.out.size)
  clear hb4
  go_wp2_with fail
  refine (zk5 _).mono ?_
  rintro u w5 ⟨rfl,hb5⟩
  have K5:=Hd (Blk.below_ K4.out hb5)
  have HB5:=Hd (Below.next HB4.out hb5 HB4.out.size)
  clear hb5
  obtain ⟨q0,q1,q2,qf⟩:=zc0 K5.out
  go_wp2
  refine bodyPost_ret (v:=.agg #[.int .u8 2,.int .i64 0,str []]) (by simp (maxDischargeDepth:=9) [results,results228,go_sem,q0,q1,q2]) rfl ?_
  exact ConR.of _ _ _ (zgk HB5.out (Nat.le_refl _) _ _ _)
 clear HU
 go_wp2_with fail
 refine (HCO.out _).mono ?_
 rintro u w4 ⟨⟨cd,e,rfl,hc0,hc7,hce⟩,hb4⟩
 have K4:=Hd (Blk.below_ K3.out hb4)
 have HB4:=Hd (Below.next HB3.out hb4 HB3.out.size)
 clear hb4
 clear hT hF
 by_cases hB:e=0∧cd<6
 ·obtain ⟨he,h6⟩:=hB
  have hc1:=hce he
  have t1:(e==0)=true:=by simpa using he
  clear he hce
  go_wp2_with fail
  refine (zjr cd hc1 hc7 _).mono ?_
  rintro u w5 ⟨rfl,hb5⟩
  have K5:=Hd (Blk.below_ K4.out hb5)
  have HB5:=Hd (Below.next HB4.out hb5 HB4.out.size)
  clear hb5
  obtain ⟨q0,q1,q2,qf⟩:=zc0 K5.out
  go_wp2
  refine bodyPost_ret (v:=.agg #[.int .u8 4,.int .i64 cd,str []]) (by simp (maxDischargeDepth:=9) [results,results228,go_sem,q0,q1,q2]) rfl ?_
  exact ConR.of _ _ _ (zgk HB5.out (Nat.le_refl _) _ _ _)
 have HBB:=Hd hB
 clear hB hce
 rcases Classical.em (e=0) with he | he
 all_goals
  first
   | (have t1:(e==0)=true:=by simpa using he
      have t2:¬cd<6:=fun h=>HBB.out ⟨he,h⟩)
   | have t1:(e==0)=false:=by simpa using he
  clear he
  go_wp2_with fail
  refine (HPA.out _).mono ?_
  rintro u w5 ⟨⟨n,e2,rfl⟩,hb5⟩
  have K5:=Hd (Blk.below_ K4.out hb5)
  have HB5:=Hd (Below.next HB4.out hb5 HB4.out.size)
  clear hb5
  by_cases h0:e2=0
  ·have t3:(e2==0)=true:=by simpa using h0
   clear h0
   go_wp2_with fail
   refine (zuu n _).mono ?_
   rintro u w6 ⟨⟨k6,n6,x6,rfl⟩,hb6⟩
   have K6:=Hd (Blk.below_ K5.out hb6)
   have HB6:=Hd (Below.next HB5.out hb6 HB5.out.size)
   clear hb6
   obtain ⟨q0,q1,q2,qf⟩:=zc0 K6.out
   go_wp2
   refine bodyPost_ret (v:=.agg #[.int .u8 k6,.int .i64 n6,str x6]) (by simp (maxDischargeDepth:=9) [results,results228,go_sem,q0,q1,q2]) rfl ?_
   exact ConR.of _ _ _ (zgk HB6.out (Nat.le_refl _) _ _ _)
  have t3:(e2==0)=false:=by simpa using h0
  by_cases h3:e2=3
  ·have t4:(e2==3)=true:=by simpa using h3
   clear h0 h3
   go_wp2_with fail
   refine (zjr 3 (by omega) (by omega) _).mono ?_
   rintro u w6 ⟨rfl,hb6⟩
   have K6:=Hd (Blk.below_ K5.out hb6)
   have HB6:=Hd (Below.next HB5.out hb6 HB5.out.size)
   clear hb6
   obtain ⟨q0,q1,q2,qf⟩:=zc0 K6.out
   go_wp2
   refine bodyPost_ret (v:=.agg #[.int .u8 4,.int .i64 3,str []]) (by simp (maxDischargeDepth:=9) [results,results228,go_sem,q0,q1,q2]) rfl ?_
   exact ConR.of _ _ _ (zgk HB6.out (Nat.le_refl _) _ _ _)
  have t4:(e2==3)=false:=by simpa using h3
  clear h0 h3
  obtain ⟨q0,q1,q2,qf⟩:=zc0 K5.out
  go_wp2
  refine bodyPost_ret (v:=.agg #[.int .u8 3,.int .i64 0,str s]) (by simp (maxDischargeDepth:=9) [results,results228,go_sem,q0,q1,q2]) rfl ?_
  exact ConR.of _ _ _ (zgk HB5.out (Nat.le_refl _) _ _ _)
theorem zzb:zi7:=fun s w hs=>con_r s w hs
end Go.Proofs.YtamcgggmfghljaaGreatDoor
