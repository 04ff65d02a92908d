/- walk -/
import Derived.Test.YtamcgggmfghljaaGreatDoorE25
import Derived.Test.YtamcgggmfghljaaGreatDoorE30
set_option maxRecDepth 100000
set_option maxHeartbeats 8000000
open Go.Proofs.Tryz
namespace Go.Proofs.YtamcgggmfghljaaGreatDoor
open Go.RowKit
variable {B g:Nat} {a w w':World}
theorem zvm (s:zaa) (w:World) (hs:s.length<=256):Calls prog 258 #[str s] w λu w'=>NumER u/\Below w w w':=by
 have HDG:=Hd (λ(a:Int) (k:Nat) (h:a=k) (hk:k<=s.length)=>show Calls prog 291 #[str s,.int .i64 a] w λu w'=>(∃k:Nat,u=.returned (.int .i64 k)/\k<=s.length)/\w=w' from h▸(zs3 s k w (by omega) hk).mono (by
  rintro u w' ⟨⟨j,rfl,_,h2⟩,rfl⟩;exact ⟨⟨j,rfl,h2⟩,rfl⟩))
 go_enter func258,ntmps258;go_upto_region 2 with (fail)
 go_cut [19] from 12 (λv wx=>∃b:Bool,v=.bool b/\(b=true->1<=s.length)/\w=wx)
 case first=>
  by_cases h0:s.length=0
  ·have hl:¬(0:Int)<(s.length:Int):=by omega
   go_wp2;go_meet;exact ⟨false,rfl,by simp,rfl⟩
  have hl:(0:Int)<(s.length:Int):=by omega
  have hx:=za3 s 0 (by rw[zae];omega);generalize s.getD 0 0=c at hx;by_cases h45:c.toNat=45
  ·have t1:((c.toNat:Int)==45)=true:=by simp[h45]
   go_wp2;go_meet;exact ⟨true,rfl,λ_=>by omega,rfl⟩
  have t1:((c.toNat:Int)==45)=false:=by simp;omega
  go_wp2;go_meet;exact ⟨false,rfl,by simp,rfl⟩
 obtain ⟨b1,rfl,hb1,rfl⟩:=hcut;go_upto_if 19 with (fail)
 go_cut [4] from 12 (λv wx=>∃fr:Nat,fr<=s.length/\v=.int .i64 fr/\w=wx)
 case first=>
  cases b1
  ·go_wp2;go_meet;exact ⟨0,by omega,rfl,rfl⟩
  go_wp2;go_meet;exact ⟨1,hb1 (by trivial),rfl,rfl⟩
 obtain ⟨fr,hfr,rfl,rfl⟩:=hcut;go_wp2_with fail;refine (HDG.o _ fr rfl hfr).mono ?_;rintro u w1 ⟨⟨pt,rfl,hp⟩,rfl⟩;have hp0:(0:Int)<=(pt:Int):=jw _;go_upto_region 6 with (fail)
 go_cut [33] from 24 (λv wx=>∃b:Bool,v=.bool b/\(b=true->pt+1<=s.length)/\w=wx)
 case first=>
  by_cases h0:pt<s.length;rotate_left
  ·have hl:¬(pt:Int)<(s.length:Int):=by omega
   go_wp2;go_meet;exact ⟨false,rfl,by simp,rfl⟩
  have hl:(pt:Int)<(s.length:Int):=by omega
  have hx:=za3 s pt (by rw[zae];omega);generalize s.getD pt 0=c at hx;by_cases h46:c.toNat=46
  ·have t1:((c.toNat:Int)==46)=true:=by simp[h46]
   go_wp2;go_meet;exact ⟨true,rfl,λ_=>by omega,rfl⟩
  have t1:((c.toNat:Int)==46)=false:=by simp;omega
  go_wp2;go_meet;exact ⟨false,rfl,by simp,rfl⟩
 obtain ⟨b2,rfl,hb2,rfl⟩:=hcut;go_upto_if 33 with (fail)
 go_cut [6] from 24 (λv wx=>∃en:Nat,en<=s.length/\v=.int .i64 en/\w=wx)
 case first=>
  cases b2
  ·go_wp2;go_meet;exact ⟨pt,hp,rfl,rfl⟩
  go_wp2_with fail;refine (HDG.o _ (pt+1) (by simp) (hb2 (by trivial))).mono ?_;rintro u w1 ⟨⟨en,rfl,he⟩,rfl⟩;go_wp2;go_meet;exact ⟨en,he,rfl,rfl⟩
 obtain ⟨en,hen,rfl,rfl⟩:=hcut;clear HDG;by_cases h1:pt=fr
 ·have t1:((pt:Int)==(fr:Int))=true:=by simp[h1]
  clear h1;go_wp2;go_ret2;exact ⟨NumER.of _ _,jg _ _⟩
 have t1:((pt:Int)==(fr:Int))=false:=by simp;omega
 by_cases h2:en=s.length;rotate_left
 ·have t2:((en:Int) != (s.length:Int))=true:=by simp;omega
  go_wp2;go_ret2;exact ⟨NumER.of _ _,jg _ _⟩
 have t2:((en:Int) != (s.length:Int))=false:=by simp[h2]
 clear h2;by_cases h3:en=pt+1
 ·have t3:((en:Int)==(pt:Int)+1)=true:=by simp;omega
  clear h3;go_wp2;go_ret2;exact ⟨NumER.of _ _,jg _ _⟩
 have t3:((en:Int)==(pt:Int)+1)=false:=by simp;omega
 have KW:=jM (WideK (w.alloc (.cells #[.int .u64 0,.int .u64 0] 302)) w.heap.size 0 0) (je w _ _);have HB0:=jM (Below w w (w.alloc (.cells #[.int .u64 0,.int .u64 0] 302))) (by go_grown);clear h1 h3;go_wp2_with fail;clear t1 t2 t3;go_loopw [8] (λv wr=>∃(i:Nat) (h l:Int),v=.int .i64 i/\WideK wr w.heap.size h l/\Below w w wr) (λv _=>pt+5-(intOf v).toNat)
 case atStart=>exact ⟨fr,0,0,rfl,KW.o,HB0.o⟩
 rename World=>wr
 obtain ⟨i,h,l,rfl,hk,hbw⟩:=hrel;have K:=Hd hk;have HB:=Hd hbw;have c0:wr.cell? (w,0)=some (.int .u64 h):=Blk.cell hk 0;have c1:wr.cell? (w,1)=some (.int .u64 l):=Blk.cell hk 1;have f0:=λo=>Blk.frozen hk o;have hi0:(0:Int)<=(i:Int):=jw _;clear hk hbw KW HB0;by_cases hlt:i<pt+5;rotate_left
 ·have hl:¬(i:Int)<(pt:Int)+5:=by omega
  clear c0 c1 f0;go_upto_region 21 with (fail)
  go_cut [103] from 92 (λv wx=>∃b:Bool,v=.bool b/\wr=wx)
  case first=>
   by_cases h5:pt+5<s.length;rotate_left
   ·have hl5:¬(pt:Int)+5<(s.length:Int):=by omega
    go_wp2;go_meet;exact ⟨_,rfl,rfl⟩
   have hl5:(pt:Int)+5<(s.length:Int):=by omega
   have hp5:(0:Int)<=(pt:Int)+5:=by omega
   have hx:=za3 s (pt+5) (by rw[zae];omega);generalize s.getD (pt+5) 0=c at hx;go_wp2;go_meet;exact ⟨_,rfl,rfl⟩
  obtain ⟨b3,rfl,rfl⟩:=hcut;go_upto_if 103 with (fail)
  go_cut [] from 92 (λwx=>∃h l:Int,WideK wx w.heap.size h l/\Below w w wx)
  case first=>
   obtain ⟨c0,c1,f0⟩:=WideK.facts K.o;cases b3
   ·go_wp2;go_meet;exact ⟨h,l,K.o,HB.o⟩
   go_wp2_with fail;refine (zis _ _ _ _ _).mono ?_;rintro u w3 ⟨⟨h3,l3,rfl⟩,hb3⟩;have K3:=Hd (Blk.below_ K.o hb3);have HB3:=Hd (jd HB.o hb3 HB.o.size);clear hb3 c0 c1 f0;obtain ⟨d0,d1,f3⟩:=WideK.facts K3.o;go_wp2;go_meet;exact ⟨h3,l3,WideK.put K3.o h3 l3,zr1 HB3.o jy _ _⟩
  obtain ⟨h',l',hk',hb'⟩:=hcut;have HB':=Hd hb';have c0:wc.cell? (w,0)=some (.int .u64 h'):=Blk.cell hk' 0;have c1:wc.cell? (w,1)=some (.int .u64 l'):=Blk.cell hk' 1;clear hk' hb' K HB;obtain ⟨bf,hbf⟩:=jN ((fr:Int)==1);go_wp2_with fail;refine (zs2 _ _ _ _).mono ?_;rintro u w4 ⟨⟨n,b,rfl⟩,hb4⟩;have HB4:=Hd (jd HB'.o hb4 HB'.o.size);clear hb4 c0 c1;cases b
  ·go_wp2;go_ret2;exact ⟨NumER.of _ _,HB4.o⟩
  go_wp2;go_ret2;exact ⟨NumER.of _ _,HB4.o⟩
 have hl:(i:Int)<(pt:Int)+5:=by omega
 by_cases hip:i=pt
 ·have t1:((i:Int) != (pt:Int))=false:=by simp[hip]
  by_cases hH:h=0;rotate_left
  ·have tH:(h != 0)=true:=by simpa using hH
   go_wp2;go_ret2;exact ⟨NumER.of _ _,HB.o⟩
  have tH:(h != 0)=false:=by simpa using hH
  clear hH hip;by_cases hL:9223372036854775807<l
  ·go_wp2;go_ret2;exact ⟨NumER.of _ _,HB.o⟩
  go_wp2;exact ⟨⟨i+1,h,l,by go_num,K.o,HB.o⟩,by simp[intOf];omega⟩
 have t1:((i:Int) != (pt:Int))=true:=by simp;omega
 have hx:=λ(h:i<s.length)=>za3 s i (by rw[zae];exact h)
 generalize s.getD i 0=c at hx;have HX:=Hd hx;clear hx;rcases Nat.lt_or_ge i s.length with hil | hil
 all_goals
  first
   | (have hil':(i:Int)<(s.length:Int):=by omega
      have hx:=HX.o hil)
   | (have hil':¬(i:Int)<(s.length:Int):=by omega)
  by_cases hH:h=0;rotate_left
  ·have tH:(h != 0)=true:=by simpa using hH
   go_wp2;go_ret2;exact ⟨NumER.of _ _,HB.o⟩
  have tH:(h != 0)=false:=by simpa using hH
  clear hH;by_cases hL:9223372036854775807<l
  ·go_wp2;go_ret2;exact ⟨NumER.of _ _,HB.o⟩
  go_wp2_with fail;refine (zvl _ _ _).mono ?_;rintro u w2 ⟨⟨h2,l2,rfl⟩,hb2⟩;have HB2:=Hd (jd HB.o hb2 HB.o.size);have K2:=Hd (Blk.below_ K.o hb2);clear hb2 c0 c1 f0;go_wp2_with fail;refine (zis _ _ _ _ _).mono ?_;rintro u w3 ⟨⟨h3,l3,rfl⟩,hb3⟩;have HB3:=Hd (jd HB2.o hb3 HB2.o.size);have K3:=Hd (Blk.below_ K2.o hb3);clear hb3;obtain ⟨d0,d1,df⟩:=WideK.facts K3.o;go_wp2;exact ⟨⟨i+1,h3,l3,by go_num,WideK.put K3.o h3 l3,zr1 HB3.o jy _ _⟩,by simp[intOf];omega⟩
abbrev ValZ (w:World) (g:Nat):Prop:=Blk w g 189 #[.int .u8 0,.int .i64 0,.string ⟨#[]⟩]
theorem zdj (h:ValZ w g):w.cell? (g,0)=some (.int .u8 0)/\w.cell? (g,1)=some (.int .i64 0)/\w.cell? (g,2)=some (str [])/\∀o,w.frozen? ⟨g,o,none⟩=false:=⟨h.cell 0,h.cell 1,h.cell 2,h.frozen⟩
theorem zie (h:Below B a w) (hg:B<=g) (v0 v1 v2:Value):Below B a (((w.setCell (g,0) v0).setCell (g,1) v1).setCell (g,2) v2):=((h.setCell hg _).setCell hg _).setCell hg _
def ConR (w:World) (u:Ending) (w':World):Prop:=(∃(k n:Int) (x:zaa),u=.returned (.agg #[.int .u8 k,.int .i64 n,str x]))/\Below w w w'
theorem ConR.of (k n:Int) (x:zaa) (h:Below w w w'):ConR w (.returned (.agg #[.int .u8 k,.int .i64 n,str x])) w':=⟨⟨k,n,x,rfl⟩,h⟩
theorem con_r (s:zaa) (w:World) (hs:s.length<=256):Calls prog 228 #[str s] w (ConR w):=by
 have KZ:=jM (ValZ (w.alloc (.cells #[.int .u8 0,.int .i64 0,.string ⟨#[]⟩] 189)) w.heap.size) (je w _ _);have HB0:=jM (Below w w (w.alloc (.cells #[.int .u8 0,.int .i64 0,.string ⟨#[]⟩] 189))) (by go_grown);obtain ⟨W1,hW1⟩:=jN (w.alloc (.cells #[.int .u8 0,.int .i64 0,.string ⟨#[]⟩] 189));rw[hW1] at KZ HB0;obtain ⟨y,hy⟩:=jN (s.map upU);have HU:=Hd (λw=>hy▸zhh s w (by omega));clear hy;have HCO:=Hd (λw=>zzb s w (by omega));have HPA:=Hd (λw=>zvm s w hs);go_enter func228,ntmps228;go_upto_region 1 with (fail)
 clear hW1;obtain ⟨q0,q1,q2,qf⟩:=zdj KZ.o;by_cases hse:s=[]
 ·have be:(s== [])=true:=by simp[hse]
  clear hse;go_wp2;refine jO results228 (v:=.agg #[.int .u8 0,.int .i64 0,str []]) ?_ (by simp (maxDischargeDepth:=9) [jQ,go_sem,q0,q1,q2]);exact ConR.of _ _ _ (zie HB0.o jy _ _ _)
 have be:(s== [])=false:=by simpa using hse
 have hpos:0<s.length:=List.length_pos_iff.2 hse;have hp1:(0:Int)<(s.length:Int):=by omega
 have hx:=za3 s 0 (by rw[zae];exact hpos);generalize s.getD 0 0=c at hx;clear hse;by_cases h39:c.toNat=39
 ·have b39:((c.toNat:Int)==39)=true:=by simp[h39]
  clear h39;go_wp2;rw[zev s 1 _ rfl];go_wp2;refine jO results228 (v:=.agg #[.int .u8 3,.int .i64 0,str (s.drop 1)]) ?_ (by simp (maxDischargeDepth:=9) [jQ,go_sem,q0,q1,q2]);exact ConR.of _ _ _ (zie HB0.o jy _ _ _)
 have b39:((c.toNat:Int)==39)=false:=by simp;omega
 clear h39;go_wp2_with fail;refine (HU.o _).mono ?_;rintro u w2 ⟨rfl,hb2⟩;have K2:=Hd (Blk.below_ KZ.o hb2);have HB2:=Hd (jd HB0.o hb2 HB0.o.size);clear hb2 q0 q1 q2 qf;cases hT:(y== [84,82,85,69]);rotate_left
 ·go_wp2_with fail;refine (HU.o _).mono ?_;rintro u w3 ⟨rfl,hb3⟩;have K3:=Hd (Blk.below_ K2.o hb3);have HB3:=Hd (jd HB2.o hb3 HB2.o.size);clear hb3;go_wp2_with fail;refine (zl3 _).mono ?_;rintro u w4 ⟨rfl,hb4⟩;have K4:=Hd (Blk.below_ K3.o hb4);have HB4:=Hd (jd HB3.o hb4 HB3.o.size);clear hb4;obtain ⟨q0,q1,q2,qf⟩:=zdj K4.o;go_wp2;refine jO results228 (v:=.agg #[.int .u8 2,.int .i64 1,str []]) ?_ (by simp (maxDischargeDepth:=9) [jQ,go_sem,q0,q1,q2]);exact ConR.of _ _ _ (zie HB4.o jy _ _ _)
 go_wp2_with fail;refine (HU.o _).mono ?_;rintro u w3 ⟨rfl,hb3⟩;have K3:=Hd (Blk.below_ K2.o hb3);have HB3:=Hd (jd HB2.o hb3 HB2.o.size);clear hb3;cases hF:(y== [70,65,76,83,69]);rotate_left
 ·go_wp2_with fail;refine (HU.o _).mono ?_;rintro u w4 ⟨rfl,hb4⟩;have K4:=Hd (Blk.below_ K3.o hb4);have HB4:=Hd (jd HB3.o hb4 HB3.o.size);clear hb4;go_wp2_with fail;refine (znq _).mono ?_;rintro u w5 ⟨rfl,hb5⟩;have K5:=Hd (Blk.below_ K4.o hb5);have HB5:=Hd (jd HB4.o hb5 HB4.o.size);clear hb5;obtain ⟨q0,q1,q2,qf⟩:=zdj K5.o;go_wp2;refine jO results228 (v:=.agg #[.int .u8 2,.int .i64 0,str []]) ?_ (by simp (maxDischargeDepth:=9) [jQ,go_sem,q0,q1,q2]);exact ConR.of _ _ _ (zie HB5.o jy _ _ _)
 clear HU;go_wp2_with fail;refine (HCO.o _).mono ?_;rintro u w4 ⟨⟨cd,e,rfl,hc0,hc7,hce⟩,hb4⟩;have K4:=Hd (Blk.below_ K3.o hb4);have HB4:=Hd (jd HB3.o hb4 HB3.o.size);clear hb4;clear hT hF;by_cases hB:e=0/\cd<6
 ·obtain ⟨he,h6⟩:=hB;have hc1:=hce he;have t1:(e==0)=true:=by simpa using he
  clear he hce;go_wp2_with fail;refine (zl4 cd hc1 hc7 _).mono ?_;rintro u w5 ⟨rfl,hb5⟩;have K5:=Hd (Blk.below_ K4.o hb5);have HB5:=Hd (jd HB4.o hb5 HB4.o.size);clear hb5;obtain ⟨q0,q1,q2,qf⟩:=zdj K5.o;go_wp2;refine jO results228 (v:=.agg #[.int .u8 4,.int .i64 cd,str []]) ?_ (by simp (maxDischargeDepth:=9) [jQ,go_sem,q0,q1,q2]);exact ConR.of _ _ _ (zie HB5.o jy _ _ _)
 have HBB:=Hd hB;clear hB hce;rcases Classical.em (e=0) with he | he
 all_goals
  first
   | (have t1:(e==0)=true:=by simpa using he
      have t2:¬cd<6:=λh=>HBB.o ⟨he,h⟩)
   | have t1:(e==0)=false:=by simpa using he
  clear he;go_wp2_with fail;refine (HPA.o _).mono ?_;rintro u w5 ⟨⟨n,e2,rfl⟩,hb5⟩;have K5:=Hd (Blk.below_ K4.o hb5);have HB5:=Hd (jd HB4.o hb5 HB4.o.size);clear hb5;by_cases h0:e2=0
  ·have t3:(e2==0)=true:=by simpa using h0
   clear h0;go_wp2_with fail;refine (zza n _).mono ?_;rintro u w6 ⟨⟨k6,n6,x6,rfl⟩,hb6⟩;have K6:=Hd (Blk.below_ K5.o hb6);have HB6:=Hd (jd HB5.o hb6 HB5.o.size);clear hb6;obtain ⟨q0,q1,q2,qf⟩:=zdj K6.o;go_wp2;refine jO results228 (v:=.agg #[.int .u8 k6,.int .i64 n6,str x6]) ?_ (by simp (maxDischargeDepth:=9) [jQ,go_sem,q0,q1,q2]);exact ConR.of _ _ _ (zie HB6.o jy _ _ _)
  have t3:(e2==0)=false:=by simpa using h0
  by_cases h3:e2=3
  ·have t4:(e2==3)=true:=by simpa using h3
   clear h0 h3;go_wp2_with fail;refine (zl4 3 (by omega) (by omega) _).mono ?_;rintro u w6 ⟨rfl,hb6⟩;have K6:=Hd (Blk.below_ K5.o hb6);have HB6:=Hd (jd HB5.o hb6 HB5.o.size);clear hb6;obtain ⟨q0,q1,q2,qf⟩:=zdj K6.o;go_wp2;refine jO results228 (v:=.agg #[.int .u8 4,.int .i64 3,str []]) ?_ (by simp (maxDischargeDepth:=9) [jQ,go_sem,q0,q1,q2]);exact ConR.of _ _ _ (zie HB6.o jy _ _ _)
  have t4:(e2==3)=false:=by simpa using h3
  clear h0 h3;obtain ⟨q0,q1,q2,qf⟩:=zdj K5.o;go_wp2;refine jO results228 (v:=.agg #[.int .u8 3,.int .i64 0,str s]) ?_ (by simp (maxDischargeDepth:=9) [jQ,go_sem,q0,q1,q2]);exact ConR.of _ _ _ (zie HB5.o jy _ _ _)
theorem z3y:zli:=λs w hs=>con_r s w hs
end Go.Proofs.YtamcgggmfghljaaGreatDoor
