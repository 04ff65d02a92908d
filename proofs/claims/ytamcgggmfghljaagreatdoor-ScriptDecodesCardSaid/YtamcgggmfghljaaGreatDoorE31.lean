/- walk -/
import Derived.Test.YtamcgggmfghljaaGreatDoorE30
import Derived.Test.YtamcgggmfghljaaGreatDoorE45
set_option maxRecDepth 100000
set_option maxHeartbeats 8000000
open Go.Proofs.Tryz
namespace Go.Proofs.YtamcgggmfghljaaGreatDoor
open Go.RowKit
variable {z0 z6:Int} {r r0:Rd} {S:Scp} {α:Type}
def decF (s:zaa):Scp × Int:=
 if 65536<s.length then (noS,5) else if (scpF (s,false)).2.2=true\/(encR (scpF (s,false)).1).2≠0\/(encR (scpF (s,false)).1).1≠s then (noS,4) else ((scpF (s,false)).1,0)
theorem z3x (s:zaa):decF s=decR s:=by
 unfold decF;by_cases hlen:65536<s.length
 ·rw[jb hlen,zop hlen]
 rw[ja hlen];obtain ⟨S,hS⟩:=jN (scpR (s,false));obtain ⟨X,hX⟩:=jN (scpF (s,false));obtain ⟨S,rd,rb⟩:=S;obtain ⟨X,xd,xb⟩:=X;rw[hX];simp only;by_cases hg:xb=true\/(encR X).2≠0\/(encR X).1≠s
 ·rw[jb hg];by_cases hb:rb=true\/scpE S≠0\/scpB S≠s
  ·rw[zi0 hlen hS hb]
  exfalso;have b1:rb=false:=by cases rb with
   | false=>rfl
   | true=>exact absurd (Or.inl rfl) hb
  have b2:scpE S=0:=Decidable.byContradiction λq=>hb (.inr (.inl q));have b3:scpB S=s:=Decidable.byContradiction λq=>hb (.inr (.inr q));have hf:=(z1b (by omega) hS).ok;have hk:=zuq S hf [];rw[jh,b3,hX] at hk;simp only[Prod.mk.injEq] at hk;obtain ⟨rfl,rfl,rfl⟩:=hk;unfold encR at hg;rw[ja (by simpa using b2),b3,ja hlen] at hg;simp at hg
 rw[ja hg];have g1:xb=false:=by cases xb with
  | false=>rfl
  | true=>exact absurd (Or.inl rfl) hg
 have g2:(encR X).2=0:=Decidable.byContradiction λq=>hg (.inr (.inl q));have g3:(encR X).1=s:=Decidable.byContradiction λq=>hg (.inr (.inr q));obtain ⟨-, -,hk⟩:=zov (s,false) (by simp only;omega) (by rw[hX];exact g1);rw[hS,hX] at hk;simp only[Prod.mk.injEq] at hk;obtain ⟨rfl,rfl,rfl⟩:=hk;have he:scpE S=0:=Decidable.byContradiction λq=>by unfold encR at g2;rw[jb q] at g2;exact q g2
 have hB:scpB S=s:=by
  unfold encR at g2 g3;rw[ja (by simpa using he)] at g2 g3;by_cases hq:65536<(scpB S).length
  ·rw[jb hq] at g2;cases g2
  rw[ja hq] at g3;exact g3
 rw[zoq hlen hS g1 he hB]
theorem zl1 (hc:zli) (l:List Ent) (k:Nat) (y:Ent) (tv:Value) (B:Nat) (w:World) (hB:B<=w.heap.size) (ht:Sls cEnt w B tv l) (hl:l.length<=1000000) (hy:l[k]?=some y) (hin:y.input.length<=1000000):
 Calls prog 175 #[tv,.int .i64 k] w λu w'=>u=.returned (.int .i64 (zbb (zbe l k) y))/\Below w w w':=by
 obtain ⟨A,cap,rfl,hc1,hm1,ha1⟩:=id ht;have HS:=Hd ht;have HOF:=Hd (λw=>ref_of hc y.input w hin);have hkl:k<l.length:=(jE.1 hy).1;obtain ⟨b,o,hA,hb2,r⟩:=ht.get 3 zct hy;subst hA;clear ht ha1 hc hin;unfold maxLen at hm1;obtain ⟨r0,r1,r2⟩:=rEnt r;have hi0:(0:Int)<=(k:Int):=jw _;have hi1:(k:Int)<(l.length:Int):=by omega
 have hblt:b<w.heap.size:=by omega
 have RY:=Hd r;clear r hy;go_enter func175,ntmps175;go_wp2_with fail;refine (zjj _ _ _).mono ?_;rintro u w2 ⟨rfl,hb2'⟩;have HB2:=Hd hb2';have x2:w2.cell? (b,o+k*3+2)=some (str y.input):=(hb2'.cell (p:=(b,o+k*3+2)) hblt).trans r2;clear hb2' r0 r1 r2
 cases hv:za6 y.at_.col y.at_.row with
 | false=>have HY:=jM (zbb (zbe l k) y=3) (by unfold zbb;rw[jb hv]);go_wp2;go_ret;exact ⟨by rw[HY.o];rfl,HB2.o⟩
 | true=>
 by_cases hk0:k=0
 ·subst hk0;have HO:Hid (zbb (zbe l 0) y=if y.input=[] then 2 else ofE y.input):=Hd (by
   unfold zbb;rw[ja (by rw[hv];simp),ja (by simp[zbe])])
  have x2o:w2.cell? (b,o+2)=some (str y.input):=by have:=x2;simpa using this
  go_wp2_with fail;go_quiet (fail);have r2q:=(show (w2.drewN nq).cell? (b,o+2)=some (str y.input) by have:=x2;simpa using this);by_cases hin:y.input=[]
  ·have HY:=Hd (HO.o.trans (jb hin));have bi:(y.input==([]:List UInt8))=true:=by simp[hin]
   clear hin;go_wp2;go_ret;exact ⟨by rw[HY.o];rfl,(jf HB2.o _)⟩
  have bi:(y.input==([]:List UInt8))=false:=by simpa using hin
  have HY:=Hd (HO.o.trans (ja hin));clear hin;go_wp2_with fail;refine (HOF.o _).mono ?_;rintro u w5 ⟨⟨b5,k5,n5,x5,A5,l5,c5,p5,rfl⟩,hb5⟩;have HB5:=Hd (jd (jf HB2.o _) hb5 ((jf HB2.o _)).size);have HB6:=Hd (HB5.o.alloc HB5.o.size (.cells #[.bool b5,.int .u8 k5,.int .i64 n5,str x5,.slice A5 l5 c5] 192));clear hb5;go_wp2;go_ret;exact ⟨by rw[HY.o];rfl,HB6.o⟩
 obtain ⟨m,hm⟩:∃m,k=m+1:=⟨k-1,by omega⟩;obtain ⟨z,hz⟩:∃z,l[m]?=some z:=⟨_,jz (by omega)⟩;obtain ⟨b4,o4,hA4,hb4,r4⟩:=HS.o.get 3 zct hz;have HPR:=jM (zbe l k=some z) (by unfold zbe;rw[ja hk0,show k-1=m by omega];exact hz);injection hA4 with hA4
 injection hA4 with e1 e2
 subst e1 e2;have HO:Hid (zbb (zbe l k) y=if zh3 z.at_ y.at_=false then 12 else if y.input=[] then 2 else ofE y.input):=Hd (by
  unfold zbb;rw[ja (by rw[hv];simp),HPR.o];simp only[Option.map_some,jl])
 have RR:=Hd r4;have LZ:=jM (∀W:World,Below w2 w2 W->W.rangeAt b (o+m*3) [.int .i64 z.at_.col,.int .i64 z.at_.row]) (λW h=>by
  intro j v hj;refine (h.cell (p:=⟨b,o+m*3+j,none⟩) (jG hblt HB2.o.size)).trans ((HB2.o.cell (p:=⟨b,o+m*3+j,none⟩) hblt).trans (RR.o j v ?_));rcases j with _ | _ | j
  ·exact hj
  ·exact hj
  simp at hj)
 have LY:=jM (∀W:World,Below w2 w2 W->W.rangeAt b (o+k*3) [.int .i64 y.at_.col,.int .i64 y.at_.row]) (λW h=>by
  intro j v hj;refine (h.cell (p:=⟨b,o+k*3+j,none⟩) (jG hblt HB2.o.size)).trans ((HB2.o.cell (p:=⟨b,o+k*3+j,none⟩) hblt).trans (RY.o j v ?_));rcases j with _ | _ | j
  ·exact hj
  ·exact hj
  simp at hj)
 have hm0:(0:Int)<=(m:Int):=jw _;have hm1':(m:Int)<(l.length:Int):=by omega
 have hkm:(k:Int)-1=(m:Int):=by omega
 have hkp:(0:Int)<(k:Int):=by omega
 have hkp2:0<k:=by omega
 have HM:=Hd hm;clear r4 hz HPR hm;go_upto_region 3 with (fail)
 refine wp_region_noPanic ?_;refine wp_region_held_drew (S:=λW=>Below w2 w2 W) (by kernel_rfl) (jg _ _).drew (λhHeld=>?_);refine tH 0 (.int .i64 k) hHeld ?_
 try go_frame
 refine tH 1 (.bool true) hHeld ?_
 try go_frame
 refine tH 2 (.bool true) hHeld ?_
 try go_frame
 refine tH 3 (.slice (some ⟨b,o,none⟩) l.length cap) hHeld ?_
 try go_frame
 refine tH 4 (.int .i64 k) hHeld ?_
 try go_frame
 refine tH 5 (.int .i64 m) hHeld ?_ (hy:=Or.inl ⟨by rfl,by intro W hW;go_simp;rw[IntKind.wrap_i64];omega⟩)
 try go_frame
 refine tH 6 (.pointer (some ⟨b,o+m*3,none⟩)) hHeld ?_
 try go_frame
 refine tH 7 (.pointer (some ⟨b,o+m*3,none⟩)) hHeld ?_
 try go_frame
 refine tH 8 (.agg _) hHeld ?_ (hy:=yieldsIf_load_mid rfl _ _ rfl (b) (o+m*3) rfl _ _ LZ.o rfl rfl (by kernel_rfl))
 try go_frame
 refine tH 9 (.slice (some ⟨b,o,none⟩) l.length cap) hHeld ?_
 try go_frame
 refine tH 10 (.int .i64 k) hHeld ?_
 try go_frame
 refine tH 11 (.pointer (some ⟨b,o+k*3,none⟩)) hHeld ?_
 try go_frame
 refine tH 12 (.pointer (some ⟨b,o+k*3,none⟩)) hHeld ?_
 try go_frame
 refine tH 13 (.agg _) hHeld ?_ (hy:=yieldsIf_load_mid rfl _ _ rfl (b) (o+k*3) rfl _ _ LY.o rfl rfl (by kernel_rfl))
 try go_frame
 refine tC 14 rfl λK hK=>?_;go_simp;go_at_call 137;refine (zzd _ _ _ _ _).mono ?_;rintro u w3 ⟨rfl,hb3⟩;refine hK.out _ _ (jd hHeld hb3 hHeld.size) (λhHeld=>?_);clear hK K
 try go_frame
 cases hls:zh3 z.at_ y.at_ with
 | false=>
  have HY:=jM (zbb (zbe l k) y=12) (by rw[HO.o,jb hls]);have hls':zh3 ⟨z.at_.col,z.at_.row⟩ ⟨y.at_.col,y.at_.row⟩=false:=hls
  try rw[hls']
  refine tH 15 (.bool true) hHeld ?_
  try go_frame
  refine tH 16 (.bool true) hHeld ?_
  try go_frame
  refine wpAnyH_done (by kernel_rfl) ?_ _;refine NoPanic.normal ?_;have HB3:=Hd (jd HB2.o hHeld HB2.o.size);clear hHeld;go_wp2;go_ret;exact ⟨by rw[HY.o];rfl,HB3.o⟩
 | true=>
 have HO2:=Hd (HO.o.trans (ja (by rw[hls];simp)));have hls':zh3 ⟨z.at_.col,z.at_.row⟩ ⟨y.at_.col,y.at_.row⟩=true:=hls
 try rw[hls']
 refine tH 15 (.bool false) hHeld ?_
 try go_frame
 refine tH 16 (.bool false) hHeld ?_
 try go_frame
 refine wpAnyH_done (by kernel_rfl) ?_ _;refine NoPanic.normal ?_;have HB3:=Hd (jd HB2.o hHeld HB2.o.size);have x3:w3.cell? (b,o+k*3+2)=some (str y.input):=(hHeld.cell (p:=(b,o+k*3+2)) (jG hblt HB2.o.size)).trans x2;clear hHeld LZ LY HO x2;have r2q:=x3;by_cases hin:y.input=[]
 ·have HY:=Hd (HO2.o.trans (jb hin));have bi:(y.input==([]:List UInt8))=true:=by simp[hin]
  clear hin;go_wp2;go_ret;exact ⟨by rw[HY.o];rfl,HB3.o⟩
 have bi:(y.input==([]:List UInt8))=false:=by simpa using hin
 have HY:=Hd (HO2.o.trans (ja hin));clear hin;go_wp2_with fail;refine (HOF.o _).mono ?_;rintro u w5 ⟨⟨b5,k5,n5,x5,A5,l5,c5,p5,rfl⟩,hb5⟩;have HB5:=Hd (jd HB3.o hb5 (HB3.o).size);have HB6:=Hd (HB5.o.alloc HB5.o.size (.cells #[.bool b5,.int .u8 k5,.int .i64 n5,str x5,.slice A5 l5 c5] 192));clear hb5;go_wp2;go_ret;exact ⟨by rw[HY.o];rfl,HB6.o⟩
def AtR (e:Int) (u:Ending):Prop:=∃p:Int,u=.returned (.tuple #[.int .i64 p,.int .i64 e])
theorem zl2 (hc:zli) (l:List Ent) (tv:Value) (B:Nat) (w:World) (hB:B<=w.heap.size) (ht:Sls cEnt w B tv l) (hl:l.length<=1000000) (hin:∀y∈l,y.input.length<=1000000):
 Calls prog 114 #[tv] w λu w'=>AtR (entE none l) u/\Below w w w':=by
 obtain ⟨A,cap,rfl,hc1,hm1,ha1⟩:=id ht;have HS:=Hd ht;have HC:=Hd hc;have HIN:=Hd hin;clear ht ha1 hc hin;unfold maxLen at hm1;go_enter func114,ntmps114;go_wp2_with fail;go_loopw [4] (λiv wr=>∃k:Nat,k<=l.length/\iv=.int .i64 k/\entE none l=entE (zbe l k) (l.drop k)/\Below w w wr) (λiv _=>l.length-(intOf iv).toNat)
 case atStart=>exact ⟨0,by omega,rfl,by simp[zbe],jg _ _⟩
 rename World=>wr
 obtain ⟨k,hk,rfl,hf,hbw⟩:=hrel;have HF:=Hd hf;have HBW:=Hd hbw;clear hf hbw;have hk0:(0:Int)<=(k:Int):=jw _;by_cases hlt:k<l.length;rotate_left
 ·have hil:¬(k:Int)<(l.length:Int):=by omega
  have HE:=jM (entE none l=0) (by rw[HF.o,jm (by omega)];rfl);clear HF;go_wp2;refine jO results114 (v:=.tuple #[.int .i64 0,.int .i64 0]) ?_;exact ⟨⟨0,by rw[HE.o]⟩,HBW.o⟩
 have hil:(k:Int)<(l.length:Int):=by omega
 obtain ⟨y,hy⟩:∃y,l[k]?=some y:=⟨_,jz hlt⟩;have HD:=Hd (zom l hy);have HFA:=Hd (zl1 HC.o l k y _ B wr (jx hB HBW.o.size) (HS.o.below (HBW.o.mono hB)) hl hy (HIN.o y (List.mem_of_getElem? hy)));clear hy;obtain ⟨e,he⟩:=jN (zbb (zbe l k) y);rw[he] at HD HFA;clear he;go_wp2_with fail;refine HFA.o.mono ?_;rintro u w2 ⟨rfl,hb2⟩;have HB2:=Hd (jd HBW.o hb2 HBW.o.size);clear hb2;by_cases h0:e=0
 ·have b0:(e != 0)=false:=by simpa using h0
  have HF2:=jM (entE none l=entE (zbe l (k+1)) (l.drop (k+1))) (by rw[HF.o,HD.o,ja (by simpa using h0)]);clear h0 HD HF;go_wp2;exact ⟨⟨k+1,by omega,by go_num,HF2.o,HB2.o⟩,by simp[intOf];omega⟩
 have b0:(e != 0)=true:=by simpa using h0
 have HE:=jM (entE none l=e) (by rw[HF.o,HD.o,jb (by simpa using h0)]);clear h0 HD HF;go_wp2;refine jO results114 (v:=.tuple #[.int .i64 k,.int .i64 e]) ?_;exact ⟨⟨k,by rw[HE.o]⟩,HB2.o⟩
end Go.Proofs.YtamcgggmfghljaaGreatDoor
