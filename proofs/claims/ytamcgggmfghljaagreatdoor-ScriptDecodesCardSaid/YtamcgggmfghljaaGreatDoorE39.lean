/- walk -/
import Derived.Test.YtamcgggmfghljaaGreatDoorE31
import Derived.Test.YtamcgggmfghljaaGreatDoorE34
import Derived.Test.YtamcgggmfghljaaGreatDoorE36
import Derived.Test.YtamcgggmfghljaaGreatDoorE37
import Derived.Test.YtamcgggmfghljaaGreatDoorE38
set_option maxRecDepth 100000
set_option maxHeartbeats 8000000
open Go.Proofs.Tryz
namespace Go.Proofs.YtamcgggmfghljaaGreatDoor
open Go.RowKit
variable {b:Bok} {c:Int} {B B' k q:Nat} {R r:Rd} {X s:Scp} {α:Type} {T e:TypeId} {a0 a1 a2 a3 a4 a5 a6 a7 g l o u0 u1 u2 u3 u4 u5 u6 u7 v x:Value} {w w':World}
theorem z2i (b:Bok) (e r g l x:Value) (B:Nat) (w:World) (hB:B<=w.heap.size) (hb:RdBok w B b e r g l x) (hel:b.entries.length<=1000000) (hil:∀x∈b.entries,x.input.length<=1000000) (hok:zr3 b.rules) (hto:∀x∈b.log,0<=x.to_/\x.to_<18446744073709551616):
 Calls prog 32 #[vBok b e r g l x] w λu w'=>u=.returned (.int .i64 (bokE b))/\Below w w w':=by
 obtain ⟨Ae,ce,rfl,_⟩:=id hb.ents;obtain ⟨Ar,cr,rfl,_⟩:=id hb.ruls;obtain ⟨Ag,cg,rfl,_⟩:=id hb.grts;obtain ⟨Al,cl,rfl,_⟩:=id hb.evts;obtain ⟨Ax,cx,rfl,_⟩:=id hb.rlss;have HB:=Hd hb;have HIL:=Hd hil;have HTO:=Hd hto;have HOK:=Hd hok;have hml:=hb.evts.len.2.2;have hmx:=hb.rlss.len.2.2;unfold maxLen at hml hmx;clear hb hil hto hok;have K0:=Hd (je w 28 (aG b Ae Ar Ag Al Ax ce cr cg cl cx));have HB0:=jM (Below w w (w.alloc (.cells (aG b Ae Ar Ag Al Ax ce cr cg cl cx) 28))) (by go_grown);by_cases hu1:b.users<1
 ·have HE:=jM (bokE b=2) (by unfold bokE;rw[jb (.inl hu1)]);go_enter func32,ntmps32;go_wp2;go_ret;exact ⟨by rw[HE.o];rfl,HB0.o⟩
 by_cases hu2:64<b.users
 ·have HE:=jM (bokE b=2) (by unfold bokE;rw[jb (.inr hu2)]);go_enter func32,ntmps32;go_wp2;go_ret;exact ⟨by rw[HE.o];rfl,HB0.o⟩
 have HE0:=jM (bokE b=_) (by unfold bokE;exact ja (by omega));have HLT:=Hd (λh=>zz7 (u:=b.users) (l:=b.log) (m:=b.releases) b.step h);go_enter func32,ntmps32;go_upto_region 1 with (fail)
 obtain ⟨W0,hW0⟩:=jN (w.alloc (.cells (aG b Ae Ar Ag Al Ax ce cr cg cl cx) 28));rw[hW0] at K0 HB0 ⊢;clear hW0;obtain ⟨q0,q1⟩:=K0.o.c2 0 1;go_wp2_with fail;refine (zl2 z3y b.entries _ B _ (jx hB HB0.o.size) (HB.o.ents.below (HB0.o.mono hB)) hel HIL.o).mono ?_;rintro u w1 ⟨⟨i1,rfl⟩,hb1⟩;obtain ⟨ee,hee⟩:=jN (entE none b.entries);rw[hee] at HE0 ⊢;clear hee;have K1:=Hd (K0.o.below_ hb1);have HB1:=Hd (jd HB0.o hb1 HB0.o.size);clear hb1;clear q0 q1;by_cases hee:ee=0;rotate_left
 ·have HE:=Hd (HE0.o.trans (jb hee));have be:(ee != 0)=true:=by simpa using hee
  clear hee;go_wp2;go_ret;exact ⟨by rw[HE.o];rfl,HB1.o⟩
 have beee:(ee != 0)=false:=by simpa using hee
 have HE1:=Hd (HE0.o.trans (ja (by simpa using hee)));clear hee;obtain ⟨q0,q2⟩:=K1.o.c2 0 2;go_wp2_with fail;refine (rg_acl b.users _ b.rules B _ (jx hB HB1.o.size) (HB.o.ruls.below (HB1.o.mono hB)) HOK.o).mono ?_;rintro u w2 ⟨i2,rfl,hb2⟩;obtain ⟨ea,hgen⟩:=jN (aclE b.users b.rules);rw[hgen] at HE1 ⊢;clear hgen;have K2:=Hd (K1.o.below_ hb2);have HB2:=Hd (jd HB1.o hb2 HB1.o.size);clear hb2;clear q0 q2;by_cases hea:ea=0;rotate_left
 ·have HE:=Hd (HE1.o.trans (jb hea));have be:(ea != 0)=true:=by simpa using hea
  clear hea;go_wp2;go_ret;exact ⟨by rw[HE.o];rfl,HB2.o⟩
 have beea:(ea != 0)=false:=by simpa using hea
 have HE2:=Hd (HE1.o.trans (ja (by simpa using hea)));clear hea;obtain ⟨q0,q3⟩:=K2.o.c2 0 3;go_wp2_with fail;refine (zu7 b.users _ b.grants B _ (jx hB HB2.o.size) (HB.o.grts.below (HB2.o.mono hB))).mono ?_;rintro u w3 ⟨i3,rfl,hb3⟩;obtain ⟨eg,hgen⟩:=jN (zep b.users b.grants);rw[hgen] at HE2 ⊢;clear hgen;have K3:=Hd (K2.o.below_ hb3);have HB3:=Hd (jd HB2.o hb3 HB2.o.size);clear hb3;clear q0 q3;by_cases heg:eg=0;rotate_left
 ·have HE:=Hd (HE2.o.trans (jb heg));have be:(eg != 0)=true:=by simpa using heg
  clear heg;go_wp2;go_ret;exact ⟨by rw[HE.o];rfl,HB3.o⟩
 have beeg:(eg != 0)=false:=by simpa using heg
 have HE3:=Hd (HE2.o.trans (ja (by simpa using heg)));clear heg;obtain ⟨q0,q4,q5⟩:=K3.o.c3 0 4 5;go_wp2_with fail;refine (zyv b.users _ _ b.log b.releases B _ (jx hB HB3.o.size) (HB.o.evts.below (HB3.o.mono hB)) (HB.o.rlss.below (HB3.o.mono hB)) HTO.o).mono ?_;rintro u w4 ⟨rfl,hb4⟩;obtain ⟨eu,hgen⟩:=jN (audE b.users b.log b.releases);rw[hgen] at HE3 HLT ⊢;clear hgen;have K4:=Hd (K3.o.below_ hb4);have HB4:=Hd (jd HB3.o hb4 HB3.o.size);clear hb4;clear q0 q4 q5;by_cases heu:eu=0;rotate_left
 ·have HE:=Hd (HE3.o.trans (jb heu));have be:(eu != 0)=true:=by simpa using heu
  clear heu;go_wp2;go_ret;exact ⟨by rw[HE.o];rfl,HB4.o⟩
 have beeu:(eu != 0)=false:=by simpa using heu
 have HE4:=Hd (HE3.o.trans (ja (by simpa using heu)));have HLT2:=Hd (HLT.o heu);clear heu HLT K0 K1 K2 K3 HB0 HB1 HB2 HB3;have q6:=K4.o.cell 6;by_cases s0:b.step<0
 ·have HE:=Hd (HE4.o.trans (jb (.inl s0)));go_wp2;go_ret;exact ⟨by rw[HE.o];rfl,HB4.o⟩
 by_cases s1:1099511627776<b.step
 ·have HE:=Hd (HE4.o.trans (jb (.inr s1)));go_wp2;go_ret;exact ⟨by rw[HE.o];rfl,HB4.o⟩
 have HE5:=Hd (HE4.o.trans (ja (by rw[not_or];exact ⟨s0,s1⟩)));rw[<- HLT2.o.1,<- HLT2.o.2] at HE5;clear HLT2 HE4;go_wp2_with fail;clear q6 s0 s1;go_loopw [10] (λi wr=>∃k:Nat,k<=b.log.length/\i=.int .i64 k/\Below w w wr/\Blk wr w 28 (aG b Ae Ar Ag Al Ax ce cr cg cl cx)/\b.log.any (λx=>decide (b.step<=x.step))=(b.log.drop k).any (λx=>decide (b.step<=x.step))) (λi _=>b.log.length-(intOf i).toNat)
 case atStart=>exact ⟨0,by omega,rfl,HB4.o,K4.o,by simp⟩
 rename World=>wr
 obtain ⟨k,hk,rfl,hbw,hkb,hany⟩:=hrel;have HBW:=Hd hbw;have HK:=Hd hkb;have HA:=Hd hany;obtain ⟨q4,q6⟩:=hkb.c2 4 6;have hi0:(0:Int)<=(k:Int):=jw _;clear hkb hany;by_cases hlt:k<b.log.length;rotate_left
 ·have hi1:¬(k:Int)<(b.log.length:Int):=by omega
  have HN:=jM (b.log.any (λx=>decide (b.step<=x.step))=false) (by rw[HA.o,List.drop_of_length_le (by omega)];rfl);have HE6:=Hd (HE5.o.trans (ja (by rw[HN.o];decide)));obtain ⟨wq,hwq⟩:=jN wr;have HB5:=jM (Below w w wq) (hwq▸HBW.o);have K5:=jM (Blk wq w 28 (aG b Ae Ar Ag Al Ax ce cr cg cl cx)) (hwq▸HK.o);have HE6a:=Hd HE6.o;rw[hwq] at q4 ⊢;clear hwq hbw HBW HK hk hlt hi0 q6 HE6 HN HA;go_wp2_with fail;clear q4 hi1;go_loopw [11] (λi wr=>∃k:Nat,k<=b.releases.length/\i=.int .i64 k/\Below w w wr/\Blk wr w 28 (aG b Ae Ar Ag Al Ax ce cr cg cl cx)/\b.releases.any (λx=>decide (b.step<=x.step))=(b.releases.drop k).any (λx=>decide (b.step<=x.step))) (λi _=>b.releases.length-(intOf i).toNat)
  case atStart=>exact ⟨0,by omega,rfl,HB5.o,K5.o,by simp⟩
  rename World=>wr
  obtain ⟨k,hk,rfl,hbw,hkb,hany⟩:=hrel;have HBW:=Hd hbw;have HK:=Hd hkb;have HA:=Hd hany;obtain ⟨q5,q6⟩:=hkb.c2 5 6;have hi0:(0:Int)<=(k:Int):=jw _;clear hkb hany;by_cases hlt:k<b.releases.length;rotate_left
  ·have hi1:¬(k:Int)<(b.releases.length:Int):=by omega
   have HN:=jM (b.releases.any (λx=>decide (b.step<=x.step))=false) (by rw[HA.o,List.drop_of_length_le (by omega)];rfl);have HE6:=Hd (HE6a.o.trans (ja (by rw[HN.o];decide)));go_wp2;go_ret;exact ⟨by rw[HE6.o];rfl,HBW.o⟩
  have hy:b.releases[k]?=some b.releases[k]:=jz hlt;obtain ⟨bb,oo,hA,hb2,rr⟩:=(HB.o.rlss.below (hbw.mono hB)).get 11 zds hy;have HD:=Hd (zr2 (λx=>decide (b.step<=x.step)) hy);generalize b.releases[k]=y at *;subst hA;have r0:wr.cell? (bb,oo+k*11)=some (.int .i64 y.step):=rr 0 _ rfl;have hi1:(k:Int)<(b.releases.length:Int):=by omega
  clear rr hy hbw;by_cases hst:b.step<=y.step
  ·have hdl:decide (b.step<=y.step)=true:=jB hst;have HN:=jM (b.releases.any (λx=>decide (b.step<=x.step))=true) (by rw[HA.o,HD.o,hdl];rfl);have HE6:=Hd (HE6a.o.trans (jb HN.o));clear HA HD;go_wp2_with fail;go_quiet (fail);go_wp2;go_ret;exact ⟨by rw[HE6.o];rfl,jf HBW.o _⟩
  have hdl:decide (b.step<=y.step)=false:=jA hst;have HA2:=jM (b.releases.any (λx=>decide (b.step<=x.step))=(b.releases.drop (k+1)).any (λx=>decide (b.step<=x.step))) (by rw[HA.o,HD.o,hdl,Bool.false_or]);clear HA HD;go_wp2_with fail;go_quiet (fail);go_wp2;exact ⟨⟨k+1,by omega,by go_num,jf HBW.o _,Blk.drewN HK.o _,HA2.o⟩,by simp[intOf];omega⟩
 have hy:b.log[k]?=some b.log[k]:=jz hlt;obtain ⟨bb,oo,hA,hb2,rr⟩:=(HB.o.evts.below (hbw.mono hB)).get 9 zdt hy;have HD:=Hd (zr2 (λx=>decide (b.step<=x.step)) hy);generalize b.log[k]=y at *;subst hA;have r0:wr.cell? (bb,oo+k*9)=some (.int .i64 y.step):=rr 0 _ rfl;have hi1:(k:Int)<(b.log.length:Int):=by omega
 clear rr hy hbw;by_cases hst:b.step<=y.step
 ·have hdl:decide (b.step<=y.step)=true:=jB hst;have HN:=jM (b.log.any (λx=>decide (b.step<=x.step))=true) (by rw[HA.o,HD.o,hdl];rfl);have HE6:=Hd (HE5.o.trans (jb HN.o));clear HA HD;go_wp2_with fail;go_quiet (fail);go_wp2;go_ret;exact ⟨by rw[HE6.o];rfl,jf HBW.o _⟩
 have hdl:decide (b.step<=y.step)=false:=jA hst;have HA2:=jM (b.log.any (λx=>decide (b.step<=x.step))=(b.log.drop (k+1)).any (λx=>decide (b.step<=x.step))) (by rw[HA.o,HD.o,hdl,Bool.false_or]);clear HA HD;go_wp2_with fail;go_quiet (fail);go_wp2;exact ⟨⟨k+1,by omega,by go_num,jf HBW.o _,Blk.drewN HK.o _,HA2.o⟩,by simp[intOf];omega⟩
theorem zu6 (s:Scp) (e r g l x o:Value) (B:Nat) (w:World) (hB:B<=w.heap.size) (hb:RdScp w B s e r g l x o) (hel:s.book.entries.length<=1000000) (hil:∀x∈s.book.entries,x.input.length<=1000000) (hok:zr3 s.book.rules) (hto:∀x∈s.book.log,0<=x.to_/\x.to_<18446744073709551616):
 Calls prog 15 #[vScp s e r g l x o] w λu w'=>u=.returned (.int .i64 (scpE s))/\Below w w w':=by
 obtain ⟨Ao,co,rfl,_⟩:=id hb.ops;have hm:=hb.ops.len.2.2;unfold maxLen at hm;obtain ⟨Ae,ce,rfl,_⟩:=id hb.book.ents;obtain ⟨Ar,cr,rfl,_⟩:=id hb.book.ruls;obtain ⟨Ag,cg,rfl,_⟩:=id hb.book.grts;obtain ⟨Al,cl,rfl,_⟩:=id hb.book.evts;obtain ⟨Ax,cx,rfl,_⟩:=id hb.book.rlss;have HC:=Hd (λ(W:World) (h:Below w w W)=>z2i s.book _ _ _ _ _ B W (jx hB h.size) (hb.book.below (h.mono hB)) hel hil hok hto);have HE:=jM (scpE s=if bokE s.book≠0 then bokE s.book else if 4096<s.ops.length then 5 else 0) rfl;obtain ⟨be,hbe⟩:=jN (bokE s.book);obtain ⟨se,hse⟩:=jN (scpE s);rw[hbe] at HC HE;rw[hse] at HE ⊢;clear hb hil hto hok hbe hse;go_enter func15,ntmps15;go_wp2_with fail;refine (HC.o _ (by go_grown)).mono ?_;rintro u w1 ⟨rfl,hb1⟩;have hc1:w1.cell? (w,7)=some (.slice Ao s.ops.length co):=(hb1.cell (p:=(w,7)) (by simp)).trans (by go_simp);have HB1:=jM (Below w w w1) (nxt hb1);clear hb1;by_cases h0:be=0
 ·have HE2:=Hd (HE.o.trans (ja (by simpa using h0)));have b0:(be != 0)=false:=by simpa using h0
  clear HE h0;by_cases h4:4096<s.ops.length
  ·have HE3:=Hd (HE2.o.trans (jb h4));have g4:(4096:Int)<(s.ops.length:Int):=by omega
   clear h4;go_wp2;go_ret;exact ⟨by rw[HE3.o];rfl,HB1.o⟩
  have HE3:=Hd (HE2.o.trans (ja h4));have g4:¬(4096:Int)<(s.ops.length:Int):=by omega
  clear h4;go_wp2;go_ret;exact ⟨by rw[HE3.o];rfl,HB1.o⟩
 have HE2:=Hd (HE.o.trans (jb h0));have b0:(be != 0)=true:=by simpa using h0
 clear HE h0;go_wp2;go_ret;exact ⟨by rw[HE2.o];rfl,HB1.o⟩
theorem FitS.ruls (h:FitS s):zr3 s.book.rules:=λx hx=>by
 have k:=(h.ok.book.rules x hx).rights;exact ⟨⟨k.rd.1,by have:=k.rd.2;omega⟩,⟨k.wr.1,by have:=k.wr.2;omega⟩,⟨k.ow.1,by have:=k.ow.2;omega⟩⟩
theorem FitS.tos (h:FitS s):∀x∈s.book.log,0<=x.to_/\x.to_<18446744073709551616:=λx hx=>by
 have k:=(h.ok.book.log x hx).to_;exact ⟨k.1,by have:=k.2;omega⟩
theorem zsw (s:Scp) (e r g l x o:Value) (B:Nat) (w:World) (hB:B<=w.heap.size) (hb:RdScp w B s e r g l x o) (hf:FitS s) (hel:s.book.entries.length<=1000000):
 Calls prog 13 #[vScp s e r g l x o] w λu w'=>u=.returned (.tuple #[str (encR s).1,.int .i64 (encR s).2])/\Below w w w':=by
 obtain ⟨Ae,ce,rfl,_⟩:=id hb.book.ents;obtain ⟨Ar,cr,rfl,_⟩:=id hb.book.ruls;obtain ⟨Ag,cg,rfl,_⟩:=id hb.book.grts;obtain ⟨Al,cl,rfl,_⟩:=id hb.book.evts;obtain ⟨Ax,cx,rfl,_⟩:=id hb.book.rlss;obtain ⟨Ao,co,rfl,_⟩:=id hb.ops;have hmo:=hb.ops.len.2.2;unfold maxLen at hmo;have HC:=Hd (λ(W:World) (hbw:Below w w W)=>zu6 s _ _ _ _ _ _ B W (jx hB hbw.size) (hb.below (hbw.mono hB)) hel hf.ents hf.ruls hf.tos);have HB:=Hd hb;have HF:=Hd hf;have K0:=Hd (je w 31 #[s.book.users,.slice Ae s.book.entries.length ce,.slice Ar s.book.rules.length cr,.slice Ag s.book.grants.length cg,.slice Al s.book.log.length cl,.slice Ax s.book.releases.length cx,s.book.step,.slice Ao s.ops.length co]);clear hb hf;by_cases h0:scpE s=0;rotate_left
 ·have HR:=jM (encR s=([],scpE s)) (by unfold encR;rw[jb h0]);rw[HR.o];obtain ⟨E,hE⟩:=jN (scpE s);rw[hE] at HC h0;rw[hE];clear hE HR;go_enter func13,ntmps13;go_wp2_with fail;refine (HC.o _ (by go_grown)).mono ?_;rintro e w1 ⟨rfl,hb1⟩;have HB1:=jM (Below w w w1) (nxt hb1);have be:(E != 0)=true:=by simpa using h0
  clear hb1 h0;go_wp2;go_ret2;exact ⟨rfl,HB1.o⟩
 have HR:=jM (encR s=if 65536<(scpB s).length then ([],5) else (scpB s,0)) (by unfold encR;rw[jS]);have HSZ:=Hd (show (bokB s.book).length+(numI s.ops.length).length+(s.ops.flatMap oprB).length<=100000000 by
  have:=HF.o.size;rw[zqj,jH] at this;unfold zar at this;rw[jH] at this;omega)
 go_enter func13,ntmps13;go_wp2_with fail;refine (HC.o _ (by go_grown)).mono ?_;rintro u w1 ⟨rfl,hb1⟩;rw[h0];have KB:=Hd (K0.o.below_ hb1);have HB1:=jM (Below w w w1) (nxt hb1);have hgp:w.heap.size<w1.heap.size:=KB.o.lt;obtain ⟨g0,g1,g2,g3,g4,g5⟩:=KB.o.c6 0 1 2 3 4 5;obtain ⟨g6,g7⟩:=KB.o.c2 6 7;have WR:=jM (WrAt (w1.alloc (.cells #[.slice none 0 0] 65)) w1.heap.size (.slice none 0 0) []) ⟨je w1 _ _,Out.nil _,λk hk=>by simp[Value.ownBlock] at hk⟩;have HW:=jM (Below w w (w1.alloc (.cells #[.slice none 0 0] 65))) (HB1.o.alloc HB1.o.size _);have KW:=Hd (Blk.alloc KB.o (.cells #[.slice none 0 0] 65));clear hb1 h0 HC K0;go_wp2_with fail;refine (z13 w1.heap.size _ [] s.book _ _ _ _ _ B _ WR.o (jx hB HB1.o.size) (HB.o.book.below (HW.o.mono hB)) HF.o.ok.book HF.o.ents (by have:=HSZ.o;omega) (by simp)).mono ?_;rintro u w2 ⟨rfl,v2,h2,t2⟩;rw[List.nil_append] at h2;have hb2:=WR.o.old t2;have HB2:=Hd (Below.trans HW.o (hb2.mono (jF hgp)));have K2:=Hd (KW.o.below hb2 hgp);have WR2:=Hd h2;have g7':w2.cell? (w,7)=some (.slice Ao s.ops.length co):=K2.o.cell 7;clear h2 t2 hb2 WR HW KW g0 g1 g2 g3 g4 g5 g6 g7;go_wp2_with fail;refine (zb2 w1.heap.size _ _ (s.ops.length:Int) _ WR2.o (by have:=HSZ.o;omega)).mono ?_;rintro u w3 ⟨rfl,v3,h3,t3⟩;have hb3:=WR2.o.old t3;have HB3:=Hd (Below.trans HB2.o (hb3.mono (jF hgp)));have K3:=Hd (K2.o.below hb3 hgp);have WR3:=Hd h3;clear h3 t3 hb3 WR2 HB2 K2 g7';obtain ⟨L,hL⟩:=jN (bokB s.book++numI s.ops.length);rw[hL] at WR3;have HL:=jM (scpB s=L++s.ops.flatMap oprB) (by rw[zqj,<- hL,jJ];rfl);have hLl:L.length+(s.ops.flatMap oprB).length<=100000000:=by have:=HSZ.o;rw[<- hL,jH];omega
 clear hL HSZ;go_wp2_with fail;go_loopw [6] (λi wr=>∃(k:Nat) (v:Value),k<=s.ops.length/\i=.int .i64 k/\WrAt wr w1.heap.size v (L++(s.ops.take k).flatMap oprB)/\Blk wr w 31 #[s.book.users,.slice Ae s.book.entries.length ce,.slice Ar s.book.rules.length cr,.slice Ag s.book.grants.length cg,.slice Al s.book.log.length cl,.slice Ax s.book.releases.length cx,s.book.step,.slice Ao s.ops.length co]/\Below w w wr) (λi _=>s.ops.length-(intOf i).toNat)
 case atStart=>exact ⟨0,v3,by omega,rfl,by simpa using WR3.o,K3.o,HB3.o⟩
 rename World=>wr
 obtain ⟨k,v,hk,rfl,hwr,hkb,hbw⟩:=hrel;have WR:=Hd hwr;have K:=Hd hkb;have HBW:=Hd hbw;have g7':wr.cell? (w,7)=some (.slice Ao s.ops.length co):=hkb.cell 7;have hi0:(0:Int)<=(k:Int):=jw _;have hpl:=hwr.lt;clear hwr hkb WR3 K3 HB3;by_cases hlt:k<s.ops.length;rotate_left
 ·have hi1:¬(k:Int)<(s.ops.length:Int):=by omega
  rw[jK (by omega),<- HL.o] at WR;have hpos:0<(scpB s).length:=by simp[scpB,numI,numB]
  obtain ⟨gb,cap,hv,hcv⟩:=zjm WR.o.ow hpos;subst hv;have cw:=WR.o.bx.cell 0;clear WR K hbw HL hLl HF HB hpos;obtain ⟨q,hq⟩:=jN (scpB s);rw[hq] at hcv cw HR;clear hq;by_cases hl:65536<q.length
  ·have hl':(65536:Int)<(q.length:Int):=by omega
   rw[jb hl] at HR;go_wp2;go_ret2;exact ⟨by rw[HR.o];rfl,HBW.o⟩
  have hl':¬(65536:Int)<(q.length:Int):=by omega
  rw[ja hl] at HR;go_wp2;go_ret2;exact ⟨by rw[HR.o];rfl,HBW.o⟩
 have hi1:(k:Int)<(s.ops.length:Int):=by omega
 have hy:s.ops[k]?=some s.ops[k]:=jz hlt;obtain ⟨b,o,hA,hb2,rr⟩:=(HB.o.ops.below (hbw.mono hB)).get 13 zgo hy;have HFS:=Hd (zfc oprB s.ops k hy);have hft:=zcg oprB s.ops (k+1);rw[HFS.o,jH] at hft;have HOX:=Hd (HF.o.ok.ops _ (jj hlt));have hin:=HF.o.oprs _ (jj hlt);generalize s.ops[k]=x at *;subst hA;have hLk:(L++(s.ops.take k).flatMap oprB).length<=1000000000:=by rw[jH];omega
 obtain ⟨r0,r1,r2,r3,r4,r5,r6,r7,r8,r9,r10,r11,r12⟩:=rOpr rr;clear rr hy hbw hft;go_wp2_with fail;refine (rw_op w1.heap.size v _ x wr WR.o HOX.o hin hLk).mono ?_;rintro u w5 ⟨rfl,v5,h5,t5⟩;have hb5:=WR.o.old t5;have HB5:=Hd (Below.trans HBW.o (hb5.mono (jF hgp)));have K5:=Hd (K.o.below hb5 hgp);rw[jJ,<- HFS.o] at h5;have W5:=Hd h5;clear h5 t5 hb5 g7' r0 r1 r2 r3 r4 r5 r6 r7 r8 r9 r10 r11 r12;go_wp2;exact ⟨⟨k+1,v5,by omega,by go_num,W5.o,K5.o,HB5.o⟩,by simp[intOf];omega⟩
theorem zyi (r:Rd):scpF r=(⟨(bokF r).1,(zb7 oprG (bokF r).2).1⟩,(zb7 oprG (bokF r).2).2):=by simp only[scpF,bokF]
theorem zwf (one:Rd->α × Rd):∀(n:Nat) (r:Rd),(zam one n r).1.length<=n
 | 0,_=>Nat.le_refl _
 | n+1,(s,true)=>by rw[zfl];simp
 | n+1,(s,false)=>by
  have h:=zei one (n+1) 0 (by omega) s _ _ (show one (s,false)=((one (s,false)).1,(one (s,false)).2) from rfl);rw[Nat.sub_zero] at h;rw[h,jk];exact Nat.succ_le_succ (zwf one n _)
theorem zg6 (g:Rd->α × Rd) (h:∀r,(g r).2.1.length<=r.1.length) (b:Bool) (z:α) (r:Rd):(ifR b z g r).2.1.length<=r.1.length:=by
 cases b
 ·exact Nat.le_refl _
 exact h r
theorem zzk (r:Rd):(oprG r).2.1.length<=r.1.length:=
 jx (zg6 intF zbc _ _ _) (jx (zg6 u64F zes _ _ _) (jx (zg6 u8F zez _ _ _) (jx (zg6 zdg zhg _ _ _) (jx (zg6 zdv zhc _ _ _) (jx (zg6 zbw zcr _ _ _) (jx (zg6 intF zbc _ _ _) (jx (za5 _) (zez _))))))))
theorem zf6 (one:Rd->α × Rd) (h:∀r,(one r).2.1.length<=r.1.length) (r:Rd):(zb7 one r).2.1.length<=r.1.length:=jx (zjs one h _ _) (zde r).1
theorem z0m (r:Rd):(entF r).2.1.length<=r.1.length:=jx (zhc _) (zgd _)
theorem zyn (r:Rd):(rulF r).2.1.length<=r.1.length:=jx (zhg _) (zcr _)
theorem z0f (r:Rd):(grtF r).2.1.length<=r.1.length:=jx (zit _) (jx (zbc _) (jx (zes _) (jx (zez _) (zcr _))))
theorem z0i (r:Rd):(evtF r).2.1.length<=r.1.length:=jx (zes _) (jx (zit _) (jx (zcr _) (jx (zez _) (jx (zbc _) (zbc _)))))
theorem zyt (r:Rd):(rlsF r).2.1.length<=r.1.length:=jx (zes _) (jx (zbc _) (jx (zcr _) (jx (zez _) (jx (zbc _) (jx (zgd _) (zbc _))))))
theorem z0r (r:Rd):(bokF r).2.1.length<=r.1.length:=by
 have e:(bokF r).2=(intF (zb7 rlsF (zb7 evtF (zb7 grtF (zb7 rulF (zb7 entF (intF r).2).2).2).2).2).2).2:=by simp only[bokF]
 rw[e];exact jx (zbc _) (jx (zf6 _ zyt _) (jx (zf6 _ z0i _) (jx (zf6 _ z0f _) (jx (zf6 _ zyn _) (jx (zf6 _ z0m _) (zbc _))))))
theorem zcs {c:α->List Value} {l:List α} (h:Own c e k w v l):l.length<=maxLen:=by
 obtain ⟨_,_,_,h⟩:=za9 h;exact h
theorem zxh (r:Rd) (h:r.1.length<=1000000):(bokF r).1.entries.length<=1000000:=by
 have e:(bokF r).1.entries=(zb7 entF (intF r).2).1:=by simp only[bokF]
 rw[e];unfold zb7;exact jx (zwf entF _ _) (jx (zde _).2 (jx (zde _).1 (jx (zbc r) h)))
theorem zo6 {s:zaa} {lo:List Opr} (h:bokF (s,false)=(b,R)) (hl:zb7 oprG R=(lo,r)):scpF (s,false)=(⟨b,lo⟩,r):=by
 rw[zyi,h];dsimp only;rw[hl]
theorem zxa {s:zaa} (hlen:¬65536<s.length) (e:scpF (s,false)=(X,r)):decF s=if r.2=true\/(encR X).2≠0\/(encR X).1≠s then (noS,4) else (X,0):=by
 unfold decF;rw[ja hlen,e]
theorem z3q {s:zaa} (hlen:¬65536<s.length) (e:scpF (s,false)=(X,r)) (hr:r.2=false):FitS X:=by
 have h1:=zov (s,false) (show s.length<=4611686018427387904 by omega) (by rw[e];exact hr);have h2:=zqi s (by omega);rw[h1.2.2,e] at h2;exact h2
structure RD (W:World) (p z g b:Nat) (D:World->Prop) (v:Value) (l:List Opr) (cs:Array Value) (r:Rd) (w:World):Prop where
 rd:RfAt w p r
 bk:Blk w g 31 cs
 zr:Blk w z 31 aS
 ow:Own cOpr 48 13 w v l
 nw:∀q,v.ownBlock=some q->b<=q
 dn:D w
 bw:Below W W w
 sz:b<=w.heap.size
section
variable {W w w1:World} {p z g b:Nat} {D:World->Prop} {v v1:Value} {l l1:List Opr} {cs cs1:Array Value} {r r1:Rd}
theorem RD.call (h:RD W p z g b D v l cs r w) (hD:zg8 p g z b D) (hz:z≠p) (hg:g≠p) (hp:p<b) (hW:W.heap.size<=p) (t:RfTo p w w1 r1):RD W p z g b D v l cs r1 w1:=
 ⟨t.blk,t.keep h.bk hg,t.keep h.zr hz,h.ow.chg t.chg (λq hq e=>by have:=h.nw q hq;have e2:q=p:=e;omega),h.nw,hD _ _ (t.chg.mono (λk _ e=>.inl e)) h.dn,
  h.bw.trans (t.chg.to_below h.bw.size (λk hk e=>by have e2:k=p:=e;omega)),jx h.sz t.chg.size⟩
theorem RD.alloc (h:RD W p z g b D v l cs r w) (hD:zg8 p g z b D) (o:Obj):RD W p z g b D v l cs r (w.alloc o):=
 ⟨Blk.alloc h.rd o,h.bk.alloc o,h.zr.alloc o,h.ow.alloc o,h.nw,hD _ _ ((Chg.refl _ _).alloc o) h.dn,h.bw.alloc h.bw.size o,jx h.sz (by simp)⟩
theorem RD.drew (h:RD W p z g b D v l cs r w) (hD:zg8 p g z b D) (n:Nat):RD W p z g b D v l cs r (w.drewN n):=
 ⟨Blk.drewN h.rd n,h.bk.drewN n,h.zr.drewN n,h.ow.drewN n,h.nw,hD _ _ ((Chg.refl _ _).drewN n) h.dn,jf h.bw n,h.sz⟩
theorem RD.put (h:RD W p z g b D v l cs r w) (hD:zg8 p g z b D) (hz:z<b) (hg:g<b) (hp:p<b) (hzg:z≠g) (hpg:p≠g) (hW:W.heap.size<=g) (_hb:W.heap.size<=b) (o9:Own cOpr 48 13 w1 v1 l1) (t9:OutTo w v w1 v1) (j:Nat) (hcs:cs.setIfInBounds j v1=cs1):RD W p z g b D v1 l1 cs1 r (w1.setCell (g,j) v1):=by
 have hn1:∀q,v1.ownBlock=some q->b<=q:=λq hq=>(t9.own q hq).elim (h.nw q) (λe=>jx h.sz e);have hvp:v.ownBlock≠some p:=λe=>by have:=h.nw p e;omega
 have hvg:v.ownBlock≠some g:=λe=>by have:=h.nw g e;omega
 have hvz:v.ownBlock≠some z:=λe=>by have:=h.nw z e;omega
 have hv1g:v1.ownBlock≠some g:=λe=>by have:=hn1 g e;omega
 refine ⟨Blk.far (p:=⟨g,j,none⟩) (Blk.outTo h.rd t9 hvp) hpg v1,?_,Blk.far (p:=⟨g,j,none⟩) (h.zr.outTo t9 hvz) hzg v1,o9.set hv1g j v1,hn1,?_,?_,?_⟩
 ·have:=(h.bk.outTo t9 hvg).set_ j v1;rw[hcs] at this;exact this
 ·exact hD _ _ ((t9.chg.mono (T:=λk=>k=p\/k=g\/k=z\/b<=k) (λk _ e=>.inr (.inr (.inr (h.nw k e))))).setCell (p:=⟨g,j,none⟩) (.inl (.inr (.inl rfl))) v1) h.dn
 ·exact (h.bw.trans (t9.chg.to_below h.bw.size (λk hk e=>by have:=h.nw k e;omega))).setCell (p:=⟨g,j,none⟩) hW v1
 have:=jx h.sz t9.chg.size;simpa [World.setCell] using this
theorem Blk.sets8 (h:Blk w q T #[a0,a1,a2,a3,a4,a5,a6,a7]):Blk ((((((((w.setCell (q,0) u0).setCell (q,1) u1).setCell (q,2) u2).setCell (q,3) u3).setCell (q,4) u4).setCell (q,5) u5).setCell (q,6) u6).setCell (q,7) u7) q T #[u0,u1,u2,u3,u4,u5,u6,u7]:=by
 have k0:=Blk.eqv (cs':=#[u0,a1,a2,a3,a4,a5,a6,a7]) (h.set_ 0 u0) rfl;have k1:=Blk.eqv (cs':=#[u0,u1,a2,a3,a4,a5,a6,a7]) (k0.set_ 1 u1) rfl;have k2:=Blk.eqv (cs':=#[u0,u1,u2,a3,a4,a5,a6,a7]) (k1.set_ 2 u2) rfl;have k3:=Blk.eqv (cs':=#[u0,u1,u2,u3,a4,a5,a6,a7]) (k2.set_ 3 u3) rfl;have k4:=Blk.eqv (cs':=#[u0,u1,u2,u3,u4,a5,a6,a7]) (k3.set_ 4 u4) rfl;have k5:=Blk.eqv (cs':=#[u0,u1,u2,u3,u4,u5,a6,a7]) (k4.set_ 5 u5) rfl;have k6:=Blk.eqv (cs':=#[u0,u1,u2,u3,u4,u5,u6,a7]) (k5.set_ 6 u6) rfl;have k7:=Blk.eqv (cs':=#[u0,u1,u2,u3,u4,u5,u6,u7]) (k6.set_ 7 u7) rfl;exact k7
theorem Below.sets8 (h:Below B W w) (hq:B<=q):Below B W ((((((((w.setCell (q,0) u0).setCell (q,1) u1).setCell (q,2) u2).setCell (q,3) u3).setCell (q,4) u4).setCell (q,5) u5).setCell (q,6) u6).setCell (q,7) u7):=
 (((((((h.setCell hq _).setCell hq _).setCell hq _).setCell hq _).setCell hq _).setCell hq _).setCell hq _).setCell hq _
end
def DecR (s:zaa) (w:World) (u:Ending) (w':World):Prop:=∃e r g l x o,u=.returned (.tuple #[vScp (decF s).1 e r g l x o,.int .i64 (decF s).2])/\RdScp w' w'.heap.size (decF s).1 e r g l x o/\Below w w w'
theorem DecR.no {s:zaa} (h:decF s=(noS,c)) (hb:Below w w w'):DecR s w (.returned (.tuple #[.agg aS,.int .i64 c])) w':=
 ⟨_,_,_,_,_,_,by rw[h];rfl,by rw[h];exact zn8 _ _,hb⟩
theorem zsx (s:zaa) (w:World) (hsl:s.length<=maxLen):
 Calls prog 24 #[str s] w (DecR s w):=by
 unfold maxLen at hsl;by_cases hlen:65536<s.length
 ·have HE:=jM (decF s=(noS,5)) (by unfold decF;rw[jb hlen]);have hli:(65536:Int)<(s.length:Int):=by omega
  go_enter func24,ntmps24;go_wp2;refine jO results24 (v:=.tuple #[.agg aS,.int .i64 5]) ?_;exact DecR.no HE.o (by go_grown)
 have hli:¬(65536:Int)<(s.length:Int):=by omega
 have HLEN:=Hd hlen;have HEL:=Hd (zxh (s,false) (show s.length<=1000000 by omega));have HBK:=Hd (λ(p:Nat) (W:World) (h:RfAt W p (s,false))=>z2m p (s,false) W h (show s.length<=1000000 by omega));have hR0:=jx (z0r (s,false)) (show s.length<=1000000 by omega);obtain ⟨bb,hbb⟩:=jN (bokF (s,false));rw[hbb] at HEL HBK hR0;obtain ⟨b,R0⟩:=bb;replace HEL:Hid (b.entries.length<=1000000):=HEL;replace hR0:R0.1.length<=1000000:=hR0;have HBB:=Hd hbb;clear hbb hlen;obtain ⟨io,oi0,oi1,oi2,oi3⟩:=info_parts (show (prog.info? 48).map (λi=>(i.zero,i.size,i.bytes))=some (some (.agg (aL 0)),13,112) by kernel_rfl);have Z0:=jM (Blk ((w.alloc (.cells aS 31)).alloc (.cells #[str s,.bool false] 122)) w.heap.size 31 #[.int .i64 0,.slice none 0 0,.slice none 0 0,.slice none 0 0,.slice none 0 0,.slice none 0 0,.int .i64 0,.slice none 0 0]) ((je w _ _).alloc _);have P0:=Hd (show RfAt ((w.alloc (.cells aS 31)).alloc (.cells #[str s,.bool false] 122)) (w.heap.size+1) (s,false) by
  have:=je (w.alloc (.cells aS 31)) 122 #[str s,.bool false];simpa [RfAt] using this)
 have B0:=jM (Below w w ((w.alloc (.cells aS 31)).alloc (.cells #[str s,.bool false] 122))) (by go_grown);obtain ⟨p,hp⟩:=jN (w.heap.size+1);have hzp:w.heap.size<p:=by omega
 rw[hp] at P0;go_enter func24,ntmps24;go_wp2_with fail
 try rw[hp]
 refine (HBK.o p _ P0.o).mono ?_;rintro u w1 ⟨ve,vr,vg,vl,vx,rfl,⟨oe,or_,og,ol,ox⟩,hnew,t1⟩;obtain ⟨Ae,ce,rfl, -⟩:=za9 oe;obtain ⟨Ar,cr,rfl, -⟩:=za9 or_;obtain ⟨Ag,cg,rfl, -⟩:=za9 og;obtain ⟨Al,cl,rfl, -⟩:=za9 ol;obtain ⟨Ax,cx,rfl, -⟩:=za9 ox;have hg0:=t1.chg.size;have hpw:=RfAt.lt t1.blk;obtain ⟨g,hg⟩:=jN w1.heap.size;have HNW:=Hd (λq h=>And.intro (show p<q by have h1:=hnew q h;have h2:=P0.o.lt;simp at h1;omega) (show q<g from hg▸(by
  rcases h with h | h | h | h | h
  ·exact oe.lt q h
  ·exact or_.lt q h
  ·exact og.lt q h
  ·exact ol.lt q h
  exact ox.lt q h)))
 have HOWN:=jM (Own cEnt 58 3 w1 (.slice Ae b.entries.length ce) b.entries/\Own cRul 79 7 w1 (.slice Ar b.rules.length cr) b.rules/\Own cGrt 85 8 w1 (.slice Ag b.grants.length cg) b.grants/\Own cEvt 110 9 w1 (.slice Al b.log.length cl) b.log/\Own cRls 116 11 w1 (.slice Ax b.releases.length cx) b.releases) ⟨oe,or_,og,ol,ox⟩;have P1:=jM (RfAt w1 p R0) t1.blk;have Z1:=Hd (t1.keep Z0.o (by omega));have B1:=jM (Below w w w1) (B0.o.trans (t1.chg.to_below (by simp;omega) (λk hk e=>by have e2:k=p:=e;omega)));clear oe or_ og ol ox hnew t1 Z0 P0 B0 HBK;have X1:=Hd (je w1 31 #[b.users,.slice Ae b.entries.length ce,.slice Ar b.rules.length cr,.slice Ag b.grants.length cg,.slice Al b.log.length cl,.slice Ax b.releases.length cx,b.step,.slice none 0 0]);rw[hg] at X1;obtain ⟨V,hV⟩:=jN (Obj.cells #[b.users,.slice Ae b.entries.length ce,.slice Ar b.rules.length cr,.slice Ag b.grants.length cg,.slice Al b.log.length cl,.slice Ax b.releases.length cx,b.step,.slice none 0 0] 31);have P2:=jM (RfAt (w1.alloc V) p R0) (Blk.alloc P1.o _);have Z2:=Hd (Blk.alloc Z1.o V);have B2:=Hd (B1.o.alloc B1.o.size V);have O2:=jM (Own cEnt 58 3 (w1.alloc V) (.slice Ae b.entries.length ce) b.entries/\Own cRul 79 7 (w1.alloc V) (.slice Ar b.rules.length cr) b.rules/\Own cGrt 85 8 (w1.alloc V) (.slice Ag b.grants.length cg) b.grants/\Own cEvt 110 9 (w1.alloc V) (.slice Al b.log.length cl) b.log/\Own cRls 116 11 (w1.alloc V) (.slice Ax b.releases.length cx) b.releases) ⟨HOWN.o.1.alloc _,HOWN.o.2.1.alloc _,HOWN.o.2.2.1.alloc _,HOWN.o.2.2.2.1.alloc _,HOWN.o.2.2.2.2.alloc _⟩;have hW2:(w1.alloc V).heap.size=g+1:=(by simp[hg]);subst hV
 have HCc:=Hd (λW=>zfj p R0 W);have hcl:=zde R0;obtain ⟨q0,hq⟩:=jN (cntF R0);rw[hq] at HCc hcl;have HLF:=jM (zb7 oprG R0=zam oprG q0.1 q0.2) (by unfold zb7;rw[hq]);clear hq HOWN P1 Z1 B1;obtain ⟨hcl1,hcl2⟩:=hcl;go_wp2_with fail
 try rw[hg]
 refine (HCc.o _ P2.o hR0).mono ?_;rintro u w2 ⟨rfl,t2⟩;have hnn:q0.1<=1000000:=by omega
 have hrl:q0.2.1.length<=1000000:=by omega
 have hw2:=t2.chg.size;obtain ⟨b0,hb0⟩:=jN w2.heap.size;have hgb:g<b0:=by omega
 have hpg:p<g:=by omega
 obtain ⟨D,hD⟩:∃D:World->Prop,D=λW=>Own cEnt 58 3 W (.slice Ae b.entries.length ce) b.entries/\Own cRul 79 7 W (.slice Ar b.rules.length cr) b.rules/\Own cGrt 85 8 W (.slice Ag b.grants.length cg) b.grants/\Own cEvt 110 9 W (.slice Al b.log.length cl) b.log/\Own cRls 116 11 W (.slice Ax b.releases.length cx) b.releases:=⟨_,rfl⟩;have HFAR:=Hd (λq (h:(Value.slice Ae b.entries.length ce).ownBlock=some q\/(Value.slice Ar b.rules.length cr).ownBlock=some q\/(Value.slice Ag b.grants.length cg).ownBlock=some q\/(Value.slice Al b.log.length cl).ownBlock=some q\/(Value.slice Ax b.releases.length cx).ownBlock=some q)=>show ¬(q=p\/q=g\/q=w.heap.size\/b0<=q) by have:=HNW.o q h;omega);have HK:=Hd (show zg8 p g w.heap.size b0 D by
  rw[hD];intro W W' hc h;exact ⟨h.1.chg hc (λq hq=>HFAR.o q (.inl hq)),h.2.1.chg hc (λq hq=>HFAR.o q (.inr (.inl hq))),h.2.2.1.chg hc (λq hq=>HFAR.o q (.inr (.inr (.inl hq)))),h.2.2.2.1.chg hc (λq hq=>HFAR.o q (.inr (.inr (.inr (.inl hq))))),h.2.2.2.2.chg hc (λq hq=>HFAR.o q (.inr (.inr (.inr (.inr hq)))))⟩)
 have HD2:=jM (D w2) (HK.o _ _ (t2.chg.mono (λk _ e=>.inl e)) (by rw[hD];exact O2.o));have HDD:=Hd hD;have S0:=jM (RD w p w.heap.size g b0 D (.slice none 0 0) [] #[.int .i64 b.users,.slice Ae b.entries.length ce,.slice Ar b.rules.length cr,.slice Ag b.grants.length cg,.slice Al b.log.length cl,.slice Ax b.releases.length cx,.int .i64 b.step,.slice none 0 0] q0.2 w2) ⟨t2.blk,t2.keep X1.o (by omega),t2.keep Z2.o (by omega),Own.nil _ _ _ _,(λq hq=>by cases hq),HD2.o,B2.o.trans (t2.chg.to_below B2.o.size (λk hk e=>by have e2:k=p:=e;omega)),by omega⟩;clear t2 hD HD2 HFAR O2 P2 Z2 B2 X1 HCc hw2 hg hW2;go_wp2_with fail;go_loopw [7] (λi wr=>∃(k:Nat) (l:List Opr) (r':Rd) (Ao:Option Addr) (no co:Nat),k<=q0.1/\i=.int .i64 k/\l.length<=k/\r'.1.length<=1000000/\zam oprG q0.1 q0.2=(l++(zam oprG (q0.1-k) r').1,(zam oprG (q0.1-k) r').2)/\RD w p w.heap.size g b0 D (.slice Ao no co) l #[.int .i64 b.users,.slice Ae b.entries.length ce,.slice Ar b.rules.length cr,.slice Ag b.grants.length cg,.slice Al b.log.length cl,.slice Ax b.releases.length cx,.int .i64 b.step,.slice Ao no co] r' wr) (λi _=>q0.1-(intOf i).toNat)
 case atStart=>exact ⟨0,[],q0.2,none,0,0,by omega,rfl,by simp,hrl,by simp,S0.o⟩
 rename World=>wr
 obtain ⟨k,lo,⟨rl,rb⟩,Ao,no,co,hk,rfl,hls,hrl2,hmany,hs⟩:=hrel;have HM:=Hd (HLF.o.trans hmany);have HS:=Hd hs;have hp1:wr.cell? (p,1)=some (.bool rb):=Blk.cell hs.rd 1;have hpl:p<wr.heap.size:=RfAt.lt hs.rd;have hi0:(0:Int)<=(k:Int):=jw _;clear hmany hs S0;by_cases hlt:k<q0.1/\rb=false
 ·obtain ⟨hlt,rfl⟩:=hlt;have hi1:(k:Int)<(q0.1:Int):=by omega
  have hop:=zzk (rl,false);have HRO:=Hd (λW h=>rf_op p (rl,false) W h hrl2);obtain ⟨y,hy⟩:=jN (oprG (rl,false));rw[zei oprG q0.1 k hlt rl y.1 y.2 (by rw[hy])] at HM;rw[hy] at hop HRO;obtain ⟨x,r2⟩:=y;rw[show Value.agg (cOpr x).toArray=.agg x from rfl] at HRO;have hr2:r2.1.length<=1000000:=jx hop hrl2;clear hy hop;have hgl:=HS.o.bk.lt;have ko5:=HS.o.bk.cell 7;go_wp2_with fail;have P7:=Hd (RD.drew HS.o HK.o 1);refine wp_region_noPanic ?_;refine zaw (λW=>Blk W g 31 #[b.users,.slice Ae b.entries.length ce,.slice Ar b.rules.length cr,.slice Ag b.grants.length cg,.slice Al b.log.length cl,.slice Ax b.releases.length cx,b.step,.slice Ao no co]) 7 (by kernel_rfl) ?_;have hHeld:(λW=>Blk W g 31 #[b.users,.slice Ae b.entries.length ce,.slice Ar b.rules.length cr,.slice Ag b.grants.length cg,.slice Al b.log.length cl,.slice Ax b.releases.length cx,b.step,.slice Ao no co]) _:=P7.o.bk;refine tU 0 (.pointer (some ⟨g,7,none⟩)) (λ_=>hHeld) ?_
  try go_frame
  refine tV 1 (.slice Ao no co) rfl hHeld (Or.inl ⟨by rfl,by intro W hW;have hc:W.cell? ⟨g,7,none⟩=some (.slice Ao no co):=hW.cell 7;go_simp⟩) ?_
  try go_frame
  refine tU 2 (.pointer (some ⟨p,0,none⟩)) (λ_=>hHeld) ?_
  try go_frame
  refine tS 3 rfl λK hK=>?_;go_simp;go_at_call 78;refine (HRO.o _ P7.o.rd).mono ?_;rintro e' w6 ⟨rfl,t6⟩;have P8:=Hd (RD.call P7.o HK.o (by omega) (by omega) (by omega) (by omega) t6);clear t6;refine hK.out _ _ (λ_=>P8.o.bk) ?_;have hHeld:(λW=>Blk W g 31 #[b.users,.slice Ae b.entries.length ce,.slice Ar b.rules.length cr,.slice Ag b.grants.length cg,.slice Al b.log.length cl,.slice Ax b.releases.length cx,b.step,.slice Ao no co]) _:=P8.o.bk;clear hK K
  try go_frame
  have P9:=Hd (RD.alloc P8.o HK.o (.cells x 48));refine tS 4 rfl λK hK=>?_;go_simp;refine hK.out _ _ (λ_=>P9.o.bk) ?_;have hHeld:(λW=>Blk W g 31 #[b.users,.slice Ae b.entries.length ce,.slice Ar b.rules.length cr,.slice Ag b.grants.length cg,.slice Al b.log.length cl,.slice Ax b.releases.length cx,b.step,.slice Ao no co]) _:=P9.o.bk;clear hK K
  try go_frame
  obtain ⟨r9,w9,hr9,o9,t9⟩:=zdp (P:=prog) _ cOpr 29 29 48 io _ 13 112 underlying29 oi0 oi1 oi2 oi3 rfl (by omega) (.slice Ao no co) lo P9.o.ow _ _ [x] (Sls.one (x:=x) (je _ _ _) rfl) zgo zry (by simp;omega) (by omega);have hn1:(Value.slice Ao no co).ownBlock≠some g:=λe=>by have:=P9.o.nw _ e;omega
  obtain ⟨A9,c9,hv9, -⟩:=za9 o9;obtain ⟨L9,hL9⟩:=jN ((lo++ [x]).length);rw[hL9] at hv9;clear hL9;subst hv9;have hB9:=P9.o.bk.outTo t9 hn1;refine tS 5 rfl λK hK=>?_;refine zbl (.tmp 35) (.tmp 38) _ _ rfl _ _ _ _ rfl rfl hr9 ?_;refine hK.out _ _ (λ_=>hB9) ?_;have hHeld:(λW=>Blk W g 31 #[b.users,.slice Ae b.entries.length ce,.slice Ar b.rules.length cr,.slice Ag b.grants.length cg,.slice Al b.log.length cl,.slice Ax b.releases.length cx,b.step,.slice Ao no co]) _:=hB9;clear hK K
  try go_frame
  refine tU 6 (.pointer (some ⟨g,7,none⟩)) (λ_=>hHeld) ?_
  try go_frame
  refine tS 7 rfl λK hK=>?_;have kc:=hB9.cell 7;have kf:=hB9.frozen;go_simp;refine hK.out _ _ (λh=>absurd h (by decide)) ?_;clear hK K
  try go_frame
  refine zax (by kernel_rfl) ?_;refine NoPanic.normal ?_;have P10:=Hd (RD.put P9.o HK.o (by omega) (by omega) (by omega) (by omega) (by omega) (by omega) (by omega) o9 t9 7 (cs1:=#[.int .i64 b.users,.slice Ae b.entries.length ce,.slice Ar b.rules.length cr,.slice Ag b.grants.length cg,.slice Al b.log.length cl,.slice Ax b.releases.length cx,.int .i64 b.step,.slice A9 L9 c9]) rfl);clear hHeld hB9 o9 t9 hr9;go_wp2;refine ⟨⟨k+1,lo++ [x],r2,A9,L9,c9,by omega,by go_num,by simp;omega,hr2,by rw[<- HLF.o,HM.o];simp,P10.o⟩,by simp[intOf];omega⟩
 have HM2:=Hd (show zb7 oprG R0=(lo,(rl,rb)) by
  rw[HM.o];cases rb;rotate_left
  ·rw[zfl,jh]
  rw[show q0.1-k=0 by have:¬k<q0.1:=λh=>hlt ⟨h,rfl⟩;omega];simp only[zam,jh])
 clear HM;have KZ:=Hd HS.o.zr;cases rb;rotate_left
 ·have HE:=Hd ((zxa HLEN.o (zo6 HBB.o HM2.o)).trans (jb (.inl rfl)));have HBW:=Hd HS.o.bw;clear hlt;rcases Nat.lt_or_ge k q0.1 with h | h
  all_goals
   first
    | have hi1:(k:Int)<(q0.1:Int):=by omega
    | have hi1:¬(k:Int)<(q0.1:Int):=by omega
   obtain ⟨z0,z1,z2,z3,z4,z5⟩:=KZ.o.c6 0 1 2 3 4 5;obtain ⟨z6,z7⟩:=KZ.o.c2 6 7;have zf:=KZ.o.frozen;have KF:=Hd (Blk.sets8 (u0:=.int .i64 0) (u1:=.slice none 0 0) (u2:=.slice none 0 0) (u3:=.slice none 0 0) (u4:=.slice none 0 0) (u5:=.slice none 0 0) (u6:=.int .i64 0) (u7:=.slice none 0 0) KZ.o);go_wp2;obtain ⟨d0,d1,d2,d3,d4,d5⟩:=KF.o.c6 0 1 2 3 4 5;obtain ⟨d6,d7⟩:=KF.o.c2 6 7;clear z0 z1 z2 z3 z4 z5 z6 z7 zf;refine jO results24 (v:=.tuple #[.agg aS,.int .i64 4]) ?_ (by simp (maxDischargeDepth:=9) [jQ,go_sem,d0,d1,d2,d3,d4,d5,d6,d7]);exact DecR.no HE.o (Below.sets8 HBW.o jy)
 have hi1:¬(k:Int)<(q0.1:Int):=by have:¬k<q0.1:=λh=>hlt ⟨h,rfl⟩;omega
 have HFX:=Hd (z3q HLEN.o (zo6 HBB.o HM2.o) rfl);have HDF2:=Hd (zxa HLEN.o (zo6 HBB.o HM2.o));have HRD:=jM (RdScp wr wr.heap.size ⟨b,lo⟩ (.slice Ae b.entries.length ce) (.slice Ar b.rules.length cr) (.slice Ag b.grants.length cg) (.slice Al b.log.length cl) (.slice Ax b.releases.length cx) (.slice Ao no co)) (by
  have h:=HS.o.dn;rw[HDD.o] at h;exact ⟨⟨h.1.sls (zcs h.1),h.2.1.sls (zcs h.2.1),h.2.2.1.sls (zcs h.2.2.1),h.2.2.2.1.sls (zcs h.2.2.2.1),h.2.2.2.2.sls (zcs h.2.2.2.2)⟩,HS.o.ow.sls (zcs HS.o.ow)⟩)
 obtain ⟨y0,y1,y2,y3,y4,y5⟩:=HS.o.bk.c6 0 1 2 3 4 5;obtain ⟨y6,y7⟩:=HS.o.bk.c2 6 7;clear hlt;go_wp2_with fail;refine (zsw ⟨b,lo⟩ _ _ _ _ _ _ wr.heap.size _ jy HRD.o HFX.o HEL.o).mono ?_;rintro u w5 ⟨rfl,hb5⟩;have K5:=Hd (KZ.o.below_ hb5);have G5:=Hd (HS.o.bk.below_ hb5);have B5:=Hd (jd HS.o.bw hb5 HS.o.bw.size);have O5:=Hd (HS.o.ow.below hb5);have D5:=jM (Own cEnt 58 3 w5 (.slice Ae b.entries.length ce) b.entries/\Own cRul 79 7 w5 (.slice Ar b.rules.length cr) b.rules/\Own cGrt 85 8 w5 (.slice Ag b.grants.length cg) b.grants/\Own cEvt 110 9 w5 (.slice Al b.log.length cl) b.log/\Own cRls 116 11 w5 (.slice Ax b.releases.length cx) b.releases) (by
  have h:=HS.o.dn;rw[HDD.o] at h;exact ⟨h.1.below hb5,h.2.1.below hb5,h.2.2.1.below hb5,h.2.2.2.1.below hb5,h.2.2.2.2.below hb5⟩)
 have HNQ:=Hd HS.o.nw;obtain ⟨E,hE⟩:=jN (encR ⟨b,lo⟩);rw[hE] at HDF2 ⊢;obtain ⟨be,ee⟩:=E;clear hb5 hE HRD y0 y1 y2 y3 y4 y5 y6 y7 hp1 hpl HS KZ;by_cases he:ee=0;rotate_left
 ·have HE:=jM (decF s=(noS,4)) (HDF2.o.trans (jb (.inr (.inl he))));have t1:(ee != 0)=true:=by simpa using he
  clear he;obtain ⟨z0,z1,z2,z3,z4,z5⟩:=K5.o.c6 0 1 2 3 4 5;obtain ⟨z6,z7⟩:=K5.o.c2 6 7;have zf:=K5.o.frozen;have KF:=Hd (Blk.sets8 (u0:=.int .i64 0) (u1:=.slice none 0 0) (u2:=.slice none 0 0) (u3:=.slice none 0 0) (u4:=.slice none 0 0) (u5:=.slice none 0 0) (u6:=.int .i64 0) (u7:=.slice none 0 0) K5.o);go_wp2;obtain ⟨d0,d1,d2,d3,d4,d5⟩:=KF.o.c6 0 1 2 3 4 5;obtain ⟨d6,d7⟩:=KF.o.c2 6 7;clear z0 z1 z2 z3 z4 z5 z6 z7 zf;refine jO results24 (v:=.tuple #[.agg aS,.int .i64 4]) ?_ (by simp (maxDischargeDepth:=9) [jQ,go_sem,d0,d1,d2,d3,d4,d5,d6,d7]);exact DecR.no HE.o (Below.sets8 B5.o jy)
 have t1:(ee != 0)=false:=by simpa using he
 by_cases hq:be=s;rotate_left
 ·have HE:=jM (decF s=(noS,4)) (HDF2.o.trans (jb (.inr (.inr hq))));have t2:(be != s)=true:=by simpa using hq
  have t3:(be==s)=false:=by simpa using hq
  clear he hq;obtain ⟨z0,z1,z2,z3,z4,z5⟩:=K5.o.c6 0 1 2 3 4 5;obtain ⟨z6,z7⟩:=K5.o.c2 6 7;have zf:=K5.o.frozen;have KF:=Hd (Blk.sets8 (u0:=.int .i64 0) (u1:=.slice none 0 0) (u2:=.slice none 0 0) (u3:=.slice none 0 0) (u4:=.slice none 0 0) (u5:=.slice none 0 0) (u6:=.int .i64 0) (u7:=.slice none 0 0) K5.o);go_wp2;obtain ⟨d0,d1,d2,d3,d4,d5⟩:=KF.o.c6 0 1 2 3 4 5;obtain ⟨d6,d7⟩:=KF.o.c2 6 7;clear z0 z1 z2 z3 z4 z5 z6 z7 zf;refine jO results24 (v:=.tuple #[.agg aS,.int .i64 4]) ?_ (by simp (maxDischargeDepth:=9) [jQ,go_sem,d0,d1,d2,d3,d4,d5,d6,d7]);exact DecR.no HE.o (Below.sets8 B5.o jy)
 have t2:(be != s)=false:=by simpa using hq
 have t3:(be==s)=true:=by simpa using hq
 have HE:=jM (decF s=(⟨b,lo⟩,0)) (HDF2.o.trans (ja (by rintro (h | h | h);exact absurd h (by decide);exact h he;exact h hq)));clear he hq HDF2;obtain ⟨y0,y1,y2,y3,y4,y5⟩:=G5.o.c6 0 1 2 3 4 5;obtain ⟨y6,y7⟩:=G5.o.c2 6 7;obtain ⟨z0,z1,z2,z3,z4,z5⟩:=K5.o.c6 0 1 2 3 4 5;obtain ⟨z6,z7⟩:=K5.o.c2 6 7;have zf:=K5.o.frozen;have KF:=Hd (Blk.sets8 (u0:=.int .i64 b.users) (u1:=.slice Ae b.entries.length ce) (u2:=.slice Ar b.rules.length cr) (u3:=.slice Ag b.grants.length cg) (u4:=.slice Al b.log.length cl) (u5:=.slice Ax b.releases.length cx) (u6:=.int .i64 b.step) (u7:=.slice Ao no co) K5.o);go_wp2;obtain ⟨d0,d1,d2,d3,d4,d5⟩:=KF.o.c6 0 1 2 3 4 5;obtain ⟨d6,d7⟩:=KF.o.c2 6 7;clear z0 y0 z1 y1 z2 y2 z3 y3 z4 y4 z5 y5 z6 y6 z7 y7 zf;refine jO results24 (v:=.tuple #[.agg #[b.users,.slice Ae b.entries.length ce,.slice Ar b.rules.length cr,.slice Ag b.grants.length cg,.slice Al b.log.length cl,.slice Ax b.releases.length cx,b.step,.slice Ao no co],.int .i64 0]) ?_ (by simp (maxDischargeDepth:=9) [jQ,go_sem,d0,d1,d2,d3,d4,d5,d6,d7]);have f0:(Value.slice Ae b.entries.length ce).ownBlock≠some w.heap.size:=λe=>by have:=HNW.o _ (.inl e);omega
 have f1:(Value.slice Ar b.rules.length cr).ownBlock≠some w.heap.size:=λe=>by have:=HNW.o _ (.inr (.inl e));omega
 have f2:(Value.slice Ag b.grants.length cg).ownBlock≠some w.heap.size:=λe=>by have:=HNW.o _ (.inr (.inr (.inl e)));omega
 have f3:(Value.slice Al b.log.length cl).ownBlock≠some w.heap.size:=λe=>by have:=HNW.o _ (.inr (.inr (.inr (.inl e))));omega
 have f4:(Value.slice Ax b.releases.length cx).ownBlock≠some w.heap.size:=λe=>by have:=HNW.o _ (.inr (.inr (.inr (.inr e))));omega
 have f5:(Value.slice Ao no co).ownBlock≠some w.heap.size:=λe=>by have:=HNQ.o _ e;omega
 have hd:=D5.o;refine ⟨_,_,_,_,_,_,by rw[HE.o],?_,Below.sets8 B5.o jy⟩;rw[HE.o];exact ⟨⟨(hd.1.sets f0 _ _ _ _ _ _ _ _).sls (zcs hd.1),(hd.2.1.sets f1 _ _ _ _ _ _ _ _).sls (zcs hd.2.1),(hd.2.2.1.sets f2 _ _ _ _ _ _ _ _).sls (zcs hd.2.2.1),(hd.2.2.2.1.sets f3 _ _ _ _ _ _ _ _).sls (zcs hd.2.2.2.1),(hd.2.2.2.2.sets f4 _ _ _ _ _ _ _ _).sls (zcs hd.2.2.2.2)⟩,(O5.o.sets f5 _ _ _ _ _ _ _ _).sls (zcs O5.o)⟩
theorem RdScp.upto {e r:Value} (h:RdScp w B s e r g l x o) (hB:B<=B'):RdScp w B' s e r g l x o:=
 ⟨⟨h.book.ents.more hB,h.book.ruls.more hB,h.book.grts.more hB,h.book.evts.more hB,h.book.rlss.more hB⟩,h.ops.more hB⟩
end Go.Proofs.YtamcgggmfghljaaGreatDoor
