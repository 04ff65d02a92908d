/- walk -/
import Derived.Test.YtamcgggmfghljaaGreatDoorE9
set_option maxRecDepth 100000
set_option maxHeartbeats 8000000
open Go.Proofs.Tryz
namespace Go.Proofs.YtamcgggmfghljaaGreatDoor
open Go.RowKit
variable {B g:Nat} {α:Type} {t:TypeId} {v:Value} {a w:World}
theorem zxb (g:Nat) (s:zaa) (w:World) (h1:(take 12 s).1=1) (k0:Blk w g 74 #[str s]):
 Calls prog 40 (aP g) w λe w'=>e=.returned (str [dig (take 10 (take 12 s).2).1.toNat])/\Blk w' g 74 #[str (take 10 (take 12 s).2).2]/\Chg (λk=>k=g) w w':=by
 have hg:=k0.lt;have K0:=Hd k0;have H1:=Hd h1;clear k0 h1;go_enter func40,ntmps40;go_wp2_with fail;refine (zd3 g s 12 _ (by decide) K0.o).mono ?_;rintro e w1 ⟨rfl,k1,hd1⟩;rw[H1.o];go_wp2_with fail;refine (zd3 g _ 10 _ (by decide) k1).mono ?_;rintro e w2 ⟨rfl,k2,hd2⟩;obtain ⟨n,hn,hn2⟩:∃n:Nat,(take 10 (take 12 s).2).1=(n:Int)/\n<10:=by have:=zlq 10 (by decide) (take 12 s).2;exact ⟨(take 10 (take 12 s).2).1.toNat,by omega,by omega⟩
 rw[hn];have HN:=Hd hn;have K2:=Hd k2;have HD:=Hd (hd1.trans hd2);clear hn k1 k2 hd1 hd2;go_wp2_with fail;refine (zto n hn2 _).mono ?_;rintro e w3 ⟨rfl,rfl⟩;go_wp2;go_ret;exact ⟨by rw[HN.o];rfl,K2.o,HD.o⟩
theorem zmi (cap:Nat) (A:Option Addr) (f:Value) (w:World):
 Calls prog 124 #[.slice A 0 cap,f] w λe w'=>e=.returned (.int .i64 (-1))/\w=w':=by
 go_enter func124,ntmps124;go_wp2;refine wp_loop_rounds 1 ?_;rw[rounds_succ];go_wp2;go_ret;exact ⟨rfl,rfl⟩
theorem Sls.one {c:α->List Value} {cs:Array Value} {x:α} (h:Blk w g t cs) (hx:cs=(c x).toArray):Sls c w w.heap.size (.slice (some (g,0)) 1 1) [x]:=
 ⟨_,1,rfl,by simp,by simp[maxLen],λ_=>⟨g,0,rfl,h.lt,h.range λj v hv=>by
  rw[Nat.zero_add,hx];simpa using hv⟩⟩
theorem ztp (x:Ent) (sv:Value) (w:World) (hs:Sls cEnt w w.heap.size sv [x]):
 Calls prog 128 #[.slice none 0 0,.int .i64 0,sv] w λe w'=>∃v,e=.returned v/\SlsN cEnt w.heap.size w' v [x]/\Below w w w':=by
 obtain ⟨A,cap,rfl,hc,hm,hr⟩:=id hs;obtain ⟨i0,hi0,hz0,hz1,hz2⟩:=info_parts (show (prog.info? 58).map (λi=>(i.zero,i.size,i.bytes))=some (some (.agg #[.int .i64 0,.int .i64 0,.string ⟨#[]⟩]),3,32) by kernel_rfl);have HS:=Hd hs;clear hs hr;simp only[List.length_singleton];have HS2:=jM (Sls cEnt w w.heap.size (.slice A 1 cap) [x]) HS.o;go_enter func128,ntmps128;go_wp2_with (first
  | (at_builtin
     refine zo0 cEnt rfl _ _ 22 rfl 58 i0 _ 3 32 rfl hi0 hz0 hz1 hz2 rfl (by omega) rfl w.heap.size _ [x] rfl HS2.o zct zmt (by simp) ?_;intro v1 w1 hs1 hb1))
 go_ret;exact ⟨v1,rfl,hs1,hb1⟩
theorem z2p (x:Ent) (w:World) (h:x.input≠ []):
 Calls prog 39 #[.slice none 0 0,.agg x] w λe w'=>∃v,e=.returned v/\SlsN cEnt w.heap.size w' v [x]/\Below w w w':=by
 go_enter func39,ntmps39;go_wp2_with fail;refine (zmi 0 none _ _).mono ?_;rintro e w1 ⟨rfl,rfl⟩;go_wp2_with fail;go_quiet (fail);have h0:(x.input==([]:List UInt8))=false:=by simpa using h
 have HH:=Hd h;clear h;go_wp2_with fail;have kk:Blk (((w.alloc (.cells x 58)).drewN nq).alloc (.cells x 58)) (w.heap.size+1) 58 #[.int .i64 x.at_.col,.int .i64 x.at_.row,str x.input]:=by have:=je ((w.alloc (.cells x 58)).drewN nq) 58 #[.int .i64 x.at_.col,.int .i64 x.at_.row,str x.input];simpa using this
 refine (ztp x _ _ (Sls.one kk rfl)).mono ?_;rintro e w2 ⟨v,rfl,hs,hb⟩;have HS:=Hd hs;have HB:=jM (Below w w w2) (jd (Below.alloc (jf ((jg w.heap.size w).alloc jy _) nq) (by simp) _) hb (by simp;omega));obtain ⟨A,cap,rfl,_⟩:=id hs.1;clear hs hb kk;go_wp2;go_ret;exact ⟨_,rfl,HS.o.older (by simp;omega),HB.o⟩
abbrev TokZ (w:World) (g:Nat):Prop:=Blk w g 239 aT
theorem zad (h:TokZ w g):w.cell? (g,0)=some (.int .u8 0)/\w.cell? (g,1)=some (.int .i64 0)/\w.cell? (g,2)=some (str [])/\w.cell? (g,3)=some (.int .i64 0)/\w.cell? (g,4)=some (.int .i64 0)/\w.cell? (g,5)=some (.int .i64 0)/\w.cell? (g,6)=some (.int .i64 0)/\w.cell? (g,7)=some (.int .i64 0)/\∀o,w.frozen? ⟨g,o,none⟩=false:=
 ⟨h.cell 0,h.cell 1,h.cell 2,h.cell 3,h.cell 4,h.cell 5,h.cell 6,h.cell 7,h.frozen⟩
theorem zan (h:Below B a w) (hg:B<=g) (v0 v1 v2 v3 v4 v5 v6 v7:Value):Below B a ((((((((w.setCell (g,0) v0).setCell (g,1) v1).setCell (g,2) v2).setCell (g,3) v3).setCell (g,4) v4).setCell (g,5) v5).setCell (g,6) v6).setCell (g,7) v7):=
 (((((((h.setCell hg _).setCell hg _).setCell hg _).setCell hg _).setCell hg _).setCell hg _).setCell hg _).setCell hg _
theorem zti (g:Nat) (s:zaa) (i:Nat) (w:World) (hs:s.length<=1000000) (hi:i<=s.length) (hg:Blk w g 263 #[str s]):
 Calls prog 246 #[(aA g),.int .i64 i] w λu w'=>u=.returned (.tuple #[.agg (cTok (zaq s i).1).toArray,.int .i64 (zaq s i).2])/\Below w w w':=by
 have hgl:=hg.lt;have hc:=hg.cell 0;have HG:=Hd hg;clear hg;have hi0:(0:Int)<=(i:Int):=jw _;have hi1:(i:Int)<=(s.length:Int):=by omega
 have KZ:=jM (TokZ _ w.heap.size) (je w 239 aT);go_enter func246,ntmps246;go_wp2_with fail;refine (zk7 ⟨s.toArray⟩ i _ (by rw[zae];exact hs) (by rw[zae];exact hi)).mono ?_;rintro u w1 ⟨rfl,hb1⟩;rw[show lenB digB (⟨s.toArray⟩:ByteArray).data.toList i=lenB digB s i from rfl];have hm:=zg4 digB s i;obtain ⟨m,hmm⟩:=jN (lenB digB s i);rw[hmm] at hm ⊢;have HM:=Hd hmm;clear hmm;have HB1:=jM (Below w w w1) (nxt hb1);have HG1:=Hd ((HG.o.alloc _).below_ hb1);have KZ1:=Hd (KZ.o.below_ hb1);have hm0:(0:Int)<=(m:Int):=by omega
 have hm1:(i:Int)+(m:Int)<=(s.length:Int):=by omega
 clear hb1 hc;by_cases hz:m=0
 ·have HE:=jM (zaq s i=(tok0,0)) (by unfold zaq;rw[HM.o,jb hz]);have hz1:((m:Int)==0)=true:=by simp[hz]
  obtain ⟨q0,q1,q2,q3,q4,q5,q6,q7,qf⟩:=zad KZ1.o;go_wp2;refine jO results246 (v:=.tuple #[.agg (cTok tok0).toArray,.int .i64 0]) ?_ (by simp (maxDischargeDepth:=9) [jQ,go_sem,q0,q1,q2,q3,q4,q5,q6,q7,cTok,tok0,z4]);rw[HE.o];exact ⟨rfl,zan HB1.o jy _ _ _ _ _ _ _ _⟩
 have hz1:((m:Int)==0)=false:=by simpa using hz
 have hgx:=HG1.o.cell 0;have hp0:(0:Int)<=(i:Int)+(m:Int):=by omega
 by_cases hp:i+m+1<s.length;rotate_left
 ·have hp1:¬(i:Int)+(m:Int)+1<(s.length:Int):=by omega
  have HD:=jM (dotB s (i+m)=false) (by unfold dotB;simp[hp]);have HNO:=jM (¬(dotB s (i+m)=true/\4<lenB digB s (i+m+1))) (by rw[HD.o];simp);have HNN:=jM (zbj s i=m) (by unfold zbj;rw[HM.o,HD.o];rfl);have hgc:=HG1.o.cell 0;go_wp2_with fail;rw[zdc];refine (zgm _ _ (by simp;omega)).mono ?_;rintro u w5 ⟨rfl,hb5⟩;have HB5:=jM (Below w w w5) (jd HB1.o hb5 HB1.o.size);have KZ5:=Hd (KZ1.o.below_ hb5);clear hb5 hgc;obtain ⟨r,hr⟩:=jN (zbf ((s.drop i).take (m)));rw[hr];have HR:=Hd hr;clear hr;by_cases he:r.2=0
  ·have HE:=Hd (show zaq s i=(⟨1,r.1,[],z4,i⟩,m) by
    unfold zaq;rw[HM.o,ja hz,ja HNO.o,HNN.o,HR.o,ja (by simpa using he)])
   obtain ⟨q0,q1,q2,q3,q4,q5,q6,q7,qf⟩:=zad KZ5.o;have he2:(r.2 != 0)=false:=by simpa using he
   clear he;go_wp2;refine jO results246 (v:=.tuple #[.agg (cTok ⟨1,r.1,[],z4,i⟩).toArray,.int .i64 (m:Nat)]) ?_ (by simp (maxDischargeDepth:=9) [jQ,go_sem,q0,q1,q2,q3,q4,q5,q6,q7,cTok,z4]);rw[HE.o];exact ⟨rfl,zan HB5.o jy _ _ _ _ _ _ _ _⟩
  have HE:=Hd (show zaq s i=(tok0,0) by
   unfold zaq;rw[HM.o,ja hz,ja HNO.o,HNN.o,HR.o,jb he])
  have he2:(r.2 != 0)=true:=by simpa using he
  clear he;obtain ⟨q0,q1,q2,q3,q4,q5,q6,q7,qf⟩:=zad KZ5.o;go_wp2;refine jO results246 (v:=.tuple #[.agg (cTok tok0).toArray,.int .i64 0]) ?_ (by simp (maxDischargeDepth:=9) [jQ,go_sem,q0,q1,q2,q3,q4,q5,q6,q7,cTok,tok0,z4]);rw[HE.o];exact ⟨rfl,zan HB5.o jy _ _ _ _ _ _ _ _⟩
 have hp1:(i:Int)+(m:Int)+1<(s.length:Int):=by omega
 have hp2:(i:Int)+(m:Int)<(s.length:Int):=by omega
 have hx0:=za3 s (i+m) (by rw[zae];omega);have hx1:=za3 s (i+m+1) (by rw[zae];omega);by_cases h46:ub s (i+m)=46;rotate_left
 ·have HD:=jM (dotB s (i+m)=false) (by unfold dotB;simp[h46]);have h46':(((s.getD (i+m) 0).toNat:Int)==46)=false:=by unfold ub at h46;simp only[jI,ne_eq];omega
  generalize s.getD (i+m) 0=c0 at hx0 h46';have HNO:=jM (¬(dotB s (i+m)=true/\4<lenB digB s (i+m+1))) (by rw[HD.o];simp);have HNN:=jM (zbj s i=m) (by unfold zbj;rw[HM.o,HD.o];rfl);have hgc:=HG1.o.cell 0;go_wp2_with fail;rw[zdc];refine (zgm _ _ (by simp;omega)).mono ?_;rintro u w5 ⟨rfl,hb5⟩;have HB5:=jM (Below w w w5) (jd HB1.o hb5 HB1.o.size);have KZ5:=Hd (KZ1.o.below_ hb5);clear hb5 hgc;obtain ⟨r,hr⟩:=jN (zbf ((s.drop i).take (m)));rw[hr];have HR:=Hd hr;clear hr;by_cases he:r.2=0
  ·have HE:=Hd (show zaq s i=(⟨1,r.1,[],z4,i⟩,m) by
    unfold zaq;rw[HM.o,ja hz,ja HNO.o,HNN.o,HR.o,ja (by simpa using he)])
   obtain ⟨q0,q1,q2,q3,q4,q5,q6,q7,qf⟩:=zad KZ5.o;have he2:(r.2 != 0)=false:=by simpa using he
   clear he;go_wp2;refine jO results246 (v:=.tuple #[.agg (cTok ⟨1,r.1,[],z4,i⟩).toArray,.int .i64 (m:Nat)]) ?_ (by simp (maxDischargeDepth:=9) [jQ,go_sem,q0,q1,q2,q3,q4,q5,q6,q7,cTok,z4]);rw[HE.o];exact ⟨rfl,zan HB5.o jy _ _ _ _ _ _ _ _⟩
  have HE:=Hd (show zaq s i=(tok0,0) by
   unfold zaq;rw[HM.o,ja hz,ja HNO.o,HNN.o,HR.o,jb he])
  have he2:(r.2 != 0)=true:=by simpa using he
  clear he;obtain ⟨q0,q1,q2,q3,q4,q5,q6,q7,qf⟩:=zad KZ5.o;go_wp2;refine jO results246 (v:=.tuple #[.agg (cTok tok0).toArray,.int .i64 0]) ?_ (by simp (maxDischargeDepth:=9) [jQ,go_sem,q0,q1,q2,q3,q4,q5,q6,q7,cTok,tok0,z4]);rw[HE.o];exact ⟨rfl,zan HB5.o jy _ _ _ _ _ _ _ _⟩
 have HD0:=jM (dotB s (i+m)=digB (s.getD (i+m+1) 0)) (by unfold dotB;simp[hp,h46]);have h46':(((s.getD (i+m) 0).toNat:Int)==46)=true:=by unfold ub at h46;rw[h46];rfl
 generalize s.getD (i+m) 0=c0 at hx0 h46';generalize s.getD (i+m+1) 0=c1 at hx1 HD0;clear h46;go_wp2_with fail;refine (zjv c1 _).mono ?_;rintro u w2 ⟨rfl,rfl⟩;by_cases hdg:digB c1=true;rotate_left
 ·have hdg':digB c1=false:=by simpa using hdg
  rw[hdg'] at HD0 ⊢;have HD:=HD0;have HNO:=jM (¬(dotB s (i+m)=true/\4<lenB digB s (i+m+1))) (by rw[HD.o];simp);have HNN:=jM (zbj s i=m) (by unfold zbj;rw[HM.o,HD.o];rfl);have hgc:=HG1.o.cell 0;go_wp2_with fail;rw[zdc];refine (zgm _ _ (by simp;omega)).mono ?_;rintro u w5 ⟨rfl,hb5⟩;have HB5:=jM (Below w w w5) (jd HB1.o hb5 HB1.o.size);have KZ5:=Hd (KZ1.o.below_ hb5);clear hb5 hgc;obtain ⟨r,hr⟩:=jN (zbf ((s.drop i).take (m)));rw[hr];have HR:=Hd hr;clear hr;by_cases he:r.2=0
  ·have HE:=Hd (show zaq s i=(⟨1,r.1,[],z4,i⟩,m) by
    unfold zaq;rw[HM.o,ja hz,ja HNO.o,HNN.o,HR.o,ja (by simpa using he)])
   obtain ⟨q0,q1,q2,q3,q4,q5,q6,q7,qf⟩:=zad KZ5.o;have he2:(r.2 != 0)=false:=by simpa using he
   clear he;go_wp2;refine jO results246 (v:=.tuple #[.agg (cTok ⟨1,r.1,[],z4,i⟩).toArray,.int .i64 (m:Nat)]) ?_ (by simp (maxDischargeDepth:=9) [jQ,go_sem,q0,q1,q2,q3,q4,q5,q6,q7,cTok,z4]);rw[HE.o];exact ⟨rfl,zan HB5.o jy _ _ _ _ _ _ _ _⟩
  have HE:=Hd (show zaq s i=(tok0,0) by
   unfold zaq;rw[HM.o,ja hz,ja HNO.o,HNN.o,HR.o,jb he])
  have he2:(r.2 != 0)=true:=by simpa using he
  clear he;obtain ⟨q0,q1,q2,q3,q4,q5,q6,q7,qf⟩:=zad KZ5.o;go_wp2;refine jO results246 (v:=.tuple #[.agg (cTok tok0).toArray,.int .i64 0]) ?_ (by simp (maxDischargeDepth:=9) [jQ,go_sem,q0,q1,q2,q3,q4,q5,q6,q7,cTok,tok0,z4]);rw[HE.o];exact ⟨rfl,zan HB5.o jy _ _ _ _ _ _ _ _⟩
 rw[hdg] at HD0 ⊢;go_wp2_with fail;have hq:(((i:Int)+(m:Int)+1:Int))=((i+m+1:Nat):Int):=by omega
 rw[hq];refine (zk7 ⟨s.toArray⟩ (i+m+1) _ (by rw[zae];exact hs) (by rw[zae];omega)).mono ?_;rintro u w3 ⟨rfl,hb3⟩;rw[show lenB digB (⟨s.toArray⟩:ByteArray).data.toList (i+m+1)=lenB digB s (i+m+1) from rfl];have hk:=zg4 digB s (i+m+1);obtain ⟨k,hkk⟩:=jN (lenB digB s (i+m+1));rw[hkk] at hk ⊢;have HK:=Hd hkk;clear hkk hq hx0 hx1 hgx;have HB3:=jM (Below w w w3) (jd HB1.o hb3 HB1.o.size);have HG3:=Hd (HG1.o.below_ hb3);have KZ3:=Hd (KZ1.o.below_ hb3);clear hb3;have hk0:(0:Int)<=(k:Int):=by omega
 have hk1:(i:Int)+((m:Int)+(1+(k:Int)))<=(s.length:Int):=by omega
 have hk2:(i:Int)<=(i:Int)+((m:Int)+(1+(k:Int))):=by omega
 by_cases hk4:(4:Int)<(k:Int)
 ·have HE:=jM (zaq s i=(tok0,0)) (by unfold zaq;rw[HM.o,ja hz,jb ⟨HD0.o,by rw[HK.o];omega⟩]);obtain ⟨q0,q1,q2,q3,q4,q5,q6,q7,qf⟩:=zad KZ3.o;go_wp2;refine jO results246 (v:=.tuple #[.agg (cTok tok0).toArray,.int .i64 0]) ?_ (by simp (maxDischargeDepth:=9) [jQ,go_sem,q0,q1,q2,q3,q4,q5,q6,q7,cTok,tok0,z4]);rw[HE.o];exact ⟨rfl,zan HB3.o jy _ _ _ _ _ _ _ _⟩
 have HNO:=jM (¬(dotB s (i+m)=true/\4<lenB digB s (i+m+1))) (by rw[HK.o];exact λh=>hk4 (by omega));have HNN:=jM (zbj s i=m+(1+k)) (by unfold zbj;rw[HM.o,HD0.o,jb rfl,HK.o];omega);have hgc:=HG3.o.cell 0;go_wp2_with fail;rw[zdc];refine (zgm _ _ (by simp;omega)).mono ?_;rintro u w5 ⟨rfl,hb5⟩;have HB5:=jM (Below w w w5) (jd HB3.o hb5 HB3.o.size);have KZ5:=Hd (KZ3.o.below_ hb5);clear hb5 hgc;obtain ⟨r,hr⟩:=jN (zbf ((s.drop i).take (m+(1+k))));rw[hr];have HR:=Hd hr;clear hr;by_cases he:r.2=0
 ·have HE:=Hd (show zaq s i=(⟨1,r.1,[],z4,i⟩,m+(1+k)) by
   unfold zaq;rw[HM.o,ja hz,ja HNO.o,HNN.o,HR.o,ja (by simpa using he)])
  obtain ⟨q0,q1,q2,q3,q4,q5,q6,q7,qf⟩:=zad KZ5.o;have he2:(r.2 != 0)=false:=by simpa using he
  clear he;go_wp2;refine jO results246 (v:=.tuple #[.agg (cTok ⟨1,r.1,[],z4,i⟩).toArray,.int .i64 (m+(1+k):Nat)]) ?_ (by simp (maxDischargeDepth:=9) [jQ,go_sem,q0,q1,q2,q3,q4,q5,q6,q7,cTok,z4]);rw[HE.o];exact ⟨rfl,zan HB5.o jy _ _ _ _ _ _ _ _⟩
 have HE:=Hd (show zaq s i=(tok0,0) by
  unfold zaq;rw[HM.o,ja hz,ja HNO.o,HNN.o,HR.o,jb he])
 have he2:(r.2 != 0)=true:=by simpa using he
 clear he;obtain ⟨q0,q1,q2,q3,q4,q5,q6,q7,qf⟩:=zad KZ5.o;go_wp2;refine jO results246 (v:=.tuple #[.agg (cTok tok0).toArray,.int .i64 0]) ?_ (by simp (maxDischargeDepth:=9) [jQ,go_sem,q0,q1,q2,q3,q4,q5,q6,q7,cTok,tok0,z4]);rw[HE.o];exact ⟨rfl,zan HB5.o jy _ _ _ _ _ _ _ _⟩
theorem z1o (c:UInt8) (t:zaa) (h:c≠34):unqL (c::t)=(unqL t).map (c::·):=by
 cases t with
 | nil=>
  conv=>lhs;unfold unqL
  rw[ja h];rfl
 | cons d t=>
  conv=>lhs;unfold unqL
  rw[ja h]
theorem z1n:unqL [34]=none:=by decide
theorem z1l (t:zaa):unqL (34::34::t)=(unqL t).map (34::·):=by
 conv=>lhs;unfold unqL
 simp
theorem z1m (d:UInt8) (t:zaa) (h:d≠34):unqL (34::d::t)=none:=by
 conv=>lhs;unfold unqL
 simp[h]
def zf0 (s:zaa) (j:Nat):zaa:=(s.drop j).take (s.length-1-j)
theorem znl (s:zaa):zf0 s (s.length-1)=[]:=by unfold zf0;simp
theorem zku (s:zaa) (j:Nat) (h:j<s.length-1):zf0 s j=s.getD j 0::zf0 s (j+1):=by
 unfold zf0;rw[jo (by omega),show s.length-1-j=s.length-1-(j+1)+1 by omega,jr,jL,jz (by omega)];rfl
theorem zwe (o:zaa) (c:UInt8) (x:Option zaa):(x.map (c::·)).map (o++·)=x.map ((o++ [c])++·):=by cases x <;> simp
theorem zzj {l:zaa} (h:Out w v l):∃A cap,v=.slice A l.length cap/\(convert 59 9 (.slice A l.length cap)).run prog w=.ok (str l) w:=by
 by_cases hp:0<l.length
 ·obtain ⟨g,cap,rfl,hr⟩:=zjm h hp;exact ⟨_,_,rfl,hr⟩
 have hl:l=[]:=js (by omega);subst hl;rcases h.2 with ⟨rfl,_⟩ | ⟨g,cap,cur,rfl,_⟩
 ·exact ⟨none,0,rfl,by kernel_rfl⟩
 exact ⟨_,cap,rfl,run_convert_bytes_back (P:=prog) w 59 9 5 ⟨g,0,none⟩ cap [] underlying59 underlying5 underlying9 (λj hj=>by simp at hj)⟩
theorem zi5 (s:zaa) (w:World) (hs:s.length<=1000000):
 Calls prog 275 #[str s] w λu w'=>u=.returned (.tuple #[str (unqB s).1,.int .i64 (unqB s).2])/\Below w w w':=by
 obtain ⟨i0,hi0,hz0,hz1,hz2⟩:=info_parts (show (prog.info? 5).map (λi=>(i.zero,i.size,i.bytes))=some (some (.int .u8 0),1,1) by kernel_rfl);by_cases h2:s.length<2
 ·have h2':(s.length:Int)<2:=by omega
  have HE:=jM (unqB s=([],4)) (by unfold unqB;rw[jb (.inl h2)]);go_enter func275,ntmps275;go_wp2;go_step3;go_wp2
  try rw[Exit.noGoto_ret]
  go_ret2;exact ⟨by rw[HE.o];rfl,by go_grown⟩
 have h2':¬(s.length:Int)<2:=by omega
 have hx0:=za3 s 0 (by rw[zae];omega);by_cases q0:ub s 0=34;rotate_left
 ·have q0':(((s.getD 0 0).toNat:Int) != 34)=true:=by unfold ub at q0;simp only[bne_iff_ne,ne_eq];omega
  generalize s.getD 0 0=c0 at hx0 q0';have HE:=jM (unqB s=([],4)) (by unfold unqB;rw[jb (.inr (.inl q0))]);go_enter func275,ntmps275;go_wp2;go_step3;go_wp2
  try rw[Exit.noGoto_ret]
  go_ret2;exact ⟨by rw[HE.o];rfl,by go_grown⟩
 have q0':(((s.getD 0 0).toNat:Int) != 34)=false:=by unfold ub at q0;rw[q0];rfl
 generalize s.getD 0 0=c0 at hx0 q0';have hb1:(0:Int)<=(s.length:Int)-1:=by omega
 have hb2:(s.length:Int)-1<(s.length:Int):=by omega
 have hx1:=za3 s (s.length-1) (by rw[zae];omega);have hb3:((s.length:Int)-1).toNat=s.length-1:=by omega
 by_cases q1:ub s (s.length-1)=34;rotate_left
 ·have q1':(((s.getD (s.length-1) 0).toNat:Int) != 34)=true:=by unfold ub at q1;simp only[bne_iff_ne,ne_eq];omega
  generalize s.getD (s.length-1) 0=c1 at hx1 q1';have HE:=jM (unqB s=([],4)) (by unfold unqB;rw[jb (.inr (.inr (.inl q1)))]);go_enter func275,ntmps275;go_wp2;go_step3;go_wp2
  try rw[Exit.noGoto_ret]
  go_ret2;exact ⟨by rw[HE.o];rfl,by go_grown⟩
 have q1':(((s.getD (s.length-1) 0).toNat:Int) != 34)=false:=by unfold ub at q1;rw[q1];rfl
 generalize s.getD (s.length-1) 0=c1 at hx1 q1';go_enter func275,ntmps275;go_wp2;go_step3;go_wp2_with fail;refine (zhi s _ hs).mono ?_;rintro u w1 ⟨rfl,hbw⟩;have HB:=Hd hbw;clear hbw;by_cases hp:prB s=true;rotate_left
 ·have hp':prB s=false:=by simpa using hp
  have HE:=jM (unqB s=([],4)) (by unfold unqB;rw[jb (.inr (.inr (.inr hp')))]);rw[hp'];go_wp2
  try rw[Exit.noGoto_ret]
  go_ret2;exact ⟨by rw[HE.o];rfl,HB.o⟩
 have HE:=jM (unqB s=_) (by unfold unqB;rw[ja (by simp[h2,q0,q1];exact hp)]);clear hx0 hx1 q0' q1';rw[hp];go_wp2;go_step3;go_wp2;have hn1:1<=s.length-1:=by omega
 go_loopw [5,6] (λv i wr=>∃(j:Nat) (o:zaa),1<=j/\j<=s.length-1/\i=.int .i64 j/\Out wr v o/\OutTo w1 (.slice none 0 0) wr v/\o.length<=j/\unqL (zf0 s 1)=(unqL (zf0 s j)).map (o++·)) (λ_ i _=>s.length-(intOf i).toNat)
 case atStart=>exact ⟨1,[],by omega,hn1,rfl,Out.nil _,OutTo.refl _ _,by simp,by cases unqL (zf0 s 1) <;> simp⟩
 obtain ⟨j,o,hj1,hjn,rfl,ho,ht,hol,hun⟩:=hrel;have HO:=Hd ho;have HT:=Hd ht;have HUN:=Hd hun;clear ho ht hun;by_cases hend:j=s.length-1
 ·have HR:=jM (unqL (zf0 s 1)=some o) (by rw[HUN.o,hend,znl];unfold unqL;simp);have hj2:((j:Int)==(s.length:Int)-1)=true:=by simp only[beq_iff_eq];omega
  obtain ⟨A,cap,hv,hcv⟩:=zzj HO.o;subst hv;have hol2:(o.length:Int)<=1000000:=by omega
  by_cases hbig:256<o.length
  ·have hb':(256:Int)<(o.length:Int):=by omega
   have HF:=jM (unqB s=([],5)) (by rw[HE.o,show (s.drop 1).take (s.length-2)=zf0 s 1 by unfold zf0;rw[show s.length-1-1=s.length-2 by omega],HR.o];simp[hbig]);go_wp2
   try rw[Exit.noGoto_ret]
   go_ret2;exact ⟨by rw[HF.o];rfl,HB.o.trans (HT.o.old HB.o.size (λk hk=>by simp[Value.ownBlock] at hk))⟩
  have hb':¬(256:Int)<(o.length:Int):=by omega
  have HF:=jM (unqB s=(o,0)) (by rw[HE.o,show (s.drop 1).take (s.length-2)=zf0 s 1 by unfold zf0;rw[show s.length-1-1=s.length-2 by omega],HR.o];simp[hbig]);go_wp2
  try rw[Exit.noGoto_ret]
  go_ret2;exact ⟨by rw[HF.o];rfl,HB.o.trans (HT.o.old HB.o.size (λk hk=>by simp[Value.ownBlock] at hk))⟩
 have hj2:((j:Int)==(s.length:Int)-1)=false:=by simp only[jI,ne_eq];omega
 have hj3:(j:Int)<(s.length:Int):=by omega
 have hj4:(0:Int)<=(j:Int):=by omega
 have hx:=za3 s j (by rw[zae];omega);have HST:=Hd (zku s j (by omega));generalize s.getD j 0=c at *;have hcl:=c.toNat_lt;by_cases hc:c=34;rotate_left
 ·have hc2:((c.toNat:Int) != 34)=true:=by
   simp only[bne_iff_ne,ne_eq];intro e;exact hc (UInt8.toNat_inj.1 (by simpa using (by omega:c.toNat=34)))
  go_wp2_with (at_builtin;refine zbu rfl _ _ 59 rfl i0 rfl hi0 hz0 hz1 hz2 u5 o rfl (HO.o.alloc _) wr.heap.size ((c.toNat:Int)) rfl (by omega) (by omega) (World.cell?_alloc_at _ _ _ _ rfl) (by omega) ?_;intro v2 w2 o2 t2);have T2:=Hd (HT.o.trans (((OutTo.refl wr u5).alloc _).trans t2));have O2:=Hd o2;clear t2 o2;go_wp2;refine ⟨⟨j+1,o++ [c],by omega,by omega,by go_num,?_,T2.o,by simp;omega,?_⟩,by simp[intOf];omega⟩
  ·have h:=O2.o;rw[show UInt8.ofNat ((c.toNat:Int)).toNat=c by simp] at h;exact h
  rw[HUN.o,HST.o,z1o c _ hc,zwe]
 subst hc;by_cases hl:j+1=s.length-1
 ·have hl2:((j:Int)+1==(s.length:Int)-1)=true:=by simp only[beq_iff_eq];omega
  have HF:=jM (unqB s=([],4)) (by rw[HE.o,show (s.drop 1).take (s.length-2)=zf0 s 1 by unfold zf0;rw[show s.length-1-1=s.length-2 by omega],HUN.o,HST.o,hl,znl,z1n];rfl);have hx34:((34:UInt8).toNat:Int)=34:=rfl;go_wp2
  try rw[Exit.noGoto_ret]
  go_ret2;exact ⟨by rw[HF.o];rfl,HB.o.trans (HT.o.old HB.o.size (λk hk=>by simp[Value.ownBlock] at hk))⟩
 have hl2:((j:Int)+1==(s.length:Int)-1)=false:=by simp only[jI,ne_eq];omega
 have hj5:(j:Int)+1<(s.length:Int):=by omega
 have hx2:=za3 s (j+1) (by rw[zae];omega);have HST2:=Hd (zku s (j+1) (by omega));generalize s.getD (j+1) 0=d at *;by_cases hd:d=34
 ·subst hd;go_wp2_with (at_builtin;refine zbu rfl _ _ 59 rfl i0 rfl hi0 hz0 hz1 hz2 u5 o rfl (HO.o.alloc _) wr.heap.size (34) rfl (by omega) (by omega) (World.cell?_alloc_at _ _ _ _ rfl) (by omega) ?_;intro v2 w2 o2 t2);have T2:=Hd (HT.o.trans (((OutTo.refl wr u5).alloc _).trans t2));have O2:=Hd o2;clear t2 o2;go_wp2;refine ⟨⟨j+2,o++ [34],by omega,by omega,by go_num,?_,T2.o,by simp;omega,?_⟩,by simp[intOf];omega⟩
  ·exact O2.o
  rw[HUN.o,HST.o,HST2.o,z1l,zwe]
 have hd2:((d.toNat:Int) != 34)=true:=by simp only[bne_iff_ne,ne_eq];intro e;exact hd (UInt8.toNat_inj.1 (by simpa using (by omega:d.toNat=34)))
 have HF:=jM (unqB s=([],4)) (by rw[HE.o,show (s.drop 1).take (s.length-2)=zf0 s 1 by unfold zf0;rw[show s.length-1-1=s.length-2 by omega],HUN.o,HST.o,HST2.o,z1m d _ hd];rfl);go_wp2
 try rw[Exit.noGoto_ret]
 go_ret2;exact ⟨by rw[HF.o];rfl,HB.o.trans (HT.o.old HB.o.size (λk hk=>by simp[Value.ownBlock] at hk))⟩
theorem zw1 (n:Int) (w:World) (h1:1<=n) (h7:n<=7):
 Calls prog 218 #[.int .i64 n] w λu w'=>u=.returned (.agg #[.int .u8 4,.int .i64 n,str []])/\Below w w w':=by
 go_enter func218,ntmps218;go_wp2;refine jO results218 (v:=.agg #[.int .u8 4,.int .i64 n,str []]) ?_;exact ⟨rfl,by go_grown⟩
theorem zt8 (n:Int) (w:World) (h1:1<=n) (h6:n<=6):
 Calls prog 270 #[.agg #[.int .u8 4,.int .i64 n,str []]] w λu w'=>u=.returned (.int .i64 0)/\Below w w w':=by
 go_enter func270,ntmps270;go_wp2;go_ret;exact ⟨rfl,by go_grown⟩
theorem z1j (n:Int) (w:World) (h0:0<=n):
 Calls prog 270 #[.agg #[.int .u8 1,.int .i64 n,str []]] w λu w'=>u=.returned (.int .i64 0)/\Below w w w':=by
 have hn:(n != -9223372036854775808)=true:=by simp only[bne_iff_ne,ne_eq];omega
 go_enter func270,ntmps270;go_wp2;go_ret;exact ⟨rfl,by go_grown⟩
theorem zx4 (n:Int) (w:World) (h:n=0\/n=1):
 Calls prog 270 #[.agg #[.int .u8 2,.int .i64 n,str []]] w λu w'=>u=.returned (.int .i64 0)/\Below w w w':=by
 rcases h with rfl|rfl
 ·skip
  go_enter func270,ntmps270;go_wp2;go_ret;exact ⟨rfl,by go_grown⟩
 skip
 go_enter func270,ntmps270;go_wp2;go_ret;exact ⟨rfl,by go_grown⟩
theorem zx2 (h:Words w) (n:Nat) (s:zaa) (hs:zi2[n]?=some s):w.cell? (0,n)=some (str s):=h.1 n s hs
theorem zyh (n:Nat) (s:zaa) (w:World) (h1:1<=n) (h5:n<=5) (hs:zi2[n]?=some s) (hw:Words w):
 Calls prog 281 #[.agg #[.int .u8 4,.int .i64 n,str []]] w λu w'=>u=.returned (str s)/\Below w w w':=by
 have HW:=Hd hw;have hne:((n:Int)==7)=false:=by simp only[jI,ne_eq];omega
 have he:∀W,(binOp .eql 189 (.agg #[.int .u8 4,.int .i64 n,str []]) (.agg #[.int .u8 4,.int .i64 7,str []])).run prog W=.ok (.bool false) W:=by intro W;simp[go_sem,hne]
 have n0:(0:Int)<=(n:Int):=by omega
 have n8:(n:Int)<8:=by omega
 clear hw;have c0:(w.alloc (.cells #[.int .u8 4,.int .i64 n,str []] 189)).cell? (w,0)=some (.int .u8 4):=(je w _ _).cell 0;have c1:(w.alloc (.cells #[.int .u8 4,.int .i64 n,str []] 189)).cell? (w,1)=some (.int .i64 n):=(je w _ _).cell 1;have c2:(w.alloc (.cells #[.int .u8 4,.int .i64 n,str []] 189)).cell? (w,2)=some (str []):=(je w _ _).cell 2;have C0:=Hd c0;have C1:=Hd c1;have C2:=Hd c2;clear c0 c1 c2;go_enter func281,ntmps281;go_wp2;have hlt:w.heap.size<(w.alloc (.cells #[.int .u8 4,.int .i64 n,str []] 189)).heap.size:=by simp
 obtain ⟨W0,hW0⟩:=jN (w.alloc (.cells #[.int .u8 4,.int .i64 n,str []] 189));have HB0:=jM (Below w w W0) (by rw[<- hW0];go_grown);rw[hW0] at C0 C1 C2 hlt ⊢;clear hW0
 go_region_held3 (λW:World=>W.cell? ⟨w.heap.size,0,none⟩=some (.int .u8 4)/\W.cell? ⟨w.heap.size,1,none⟩=some (.int .i64 n)/\W.cell? ⟨w.heap.size,2,none⟩=some (str []))
  (first
   | exact ⟨C0.o,C1.o,C2.o⟩
   | exact ⟨(hb1.cell hlt).trans C0.o,(hb1.cell hlt).trans C1.o,(hb1.cell hlt).trans C2.o⟩
   | exact ⟨(hb2.cell (jG hlt hb1.size)).trans ((hb1.cell hlt).trans C0.o),(hb2.cell (jG hlt hb1.size)).trans ((hb1.cell hlt).trans C1.o),(hb2.cell (jG hlt hb1.size)).trans ((hb1.cell hlt).trans C2.o)⟩)
  (first
   | (go_at_call 218;refine (zw1 7 _ (by omega) (by omega)).mono ?_;rintro e w1 ⟨rfl,hb1⟩)
   | (go_at_call 270;refine (zt8 n _ (by omega) (by omega)).mono ?_;rintro e w2 ⟨rfl,hb2⟩))
 have HB2:=jM (Below w w w2) (jd (jd HB0.o (Below.trans ((jg _ _).drew) hb1) HB0.o.size) hb2 (jx HB0.o.size hb1.size));have d1:w2.cell? (w,1)=some (.int .i64 n):=(hb2.cell (jG hlt hb1.size)).trans ((hb1.cell hlt).trans C1.o);have hwd:w2.cell? (0,n)=some (str s):=zx2 (HW.o.below HB2.o) n s hs;clear he hb1 hb2 hs;go_wp2;go_ret;exact ⟨rfl,HB2.o⟩
theorem zia (s:zaa):∃k m,zj8 s=.agg #[.int .u8 k,.int .i64 m,str []]:=by
 unfold zj8;split
 ·exact ⟨_,_,rfl⟩
 split
 ·exact ⟨_,_,rfl⟩
 exact ⟨_,_,rfl⟩
theorem zor (s:zaa) (w:World) (hs:txtE s=0) (hl:s.length<=1000000):
 Calls prog 238 #[vVal 3 0 s,.func (.func 239) #[] #[]] w λu w'=>u=.returned (zj8 s)/\Below w w w':=by
 have HS:=Hd hs;clear hs;go_enter func238,ntmps238;go_wp2_with fail
 go_region_held3 (λW:World=>W.cell? ⟨w.heap.size,0,none⟩=some (.int .u8 3)/\W.cell? ⟨w.heap.size,1,none⟩=some (.int .i64 0)/\W.cell? ⟨w.heap.size,2,none⟩=some (str s))
  (first
   | (go_simp;done)
   | exact ⟨(hb1.cell (p:=⟨w.heap.size,0,none⟩) (by simp;omega)).trans (by go_simp),(hb1.cell (p:=⟨w.heap.size,1,none⟩) (by simp;omega)).trans (by go_simp),(hb1.cell (p:=⟨w.heap.size,2,none⟩) (by simp;omega)).trans (by go_simp)⟩)
  (first
   | (go_at_call 239;refine (zyb s _).mono ?_;rintro e w1 ⟨n,rfl,hmp,hb1⟩;have hlk:=zo7 (P:=prog) _ _ _ underlying253 underlying5 w1 n (zp3 s) 5 3 3 _ hmp rfl;clear hmp))
 have hb9:=hb1;have c0:w1.cell? (w,0)=some (.int .u8 3):=(hb1.cell (p:=(w,0)) (by simp;omega)).trans (by go_simp);have c1:w1.cell? (w,1)=some (.int .i64 0):=(hb1.cell (p:=(w,1)) (by simp;omega)).trans (by go_simp);have c2:w1.cell? (w,2)=some (str s):=(hb1.cell (p:=(w,2)) (by simp;omega)).trans (by go_simp);have hz:=hb1.size;have HB:=jM (Below w w w1) (nxt hb1);have hf:∀o,w1.frozen? ⟨w.heap.size+1,o,none⟩=_:=λo=>hb1.frozen (p:=⟨w.heap.size+1,o,none⟩) (by simp);have hc:∀o,w1.cell? ⟨w.heap.size+1,o,none⟩=_:=λo=>hb1.cell (p:=⟨w.heap.size+1,o,none⟩) (by simp);clear hb1 hb9 hlk;go_wp2_with fail;refine (zm1 s _ HS.o hl).mono ?_;rintro e w2 ⟨rfl,hb2⟩;have hz2:=hb2.size;have HB2:=jM (Below w w w2) (jd HB.o hb2 HB.o.size);simp at hz;have hf2:∀o,w2.frozen? ⟨w.heap.size+1,o,none⟩=_:=λo=>(hb2.frozen (p:=⟨w.heap.size+1,o,none⟩) (by simp;omega)).trans (hf o);have hc2:∀o,w2.cell? ⟨w.heap.size+1,o,none⟩=_:=λo=>(hb2.cell (p:=⟨w.heap.size+1,o,none⟩) (by simp;omega)).trans (hc o);clear hb2 hf hc c0 c1 c2;go_wp2_with fail;refine (zv5 s _ hl).mono ?_;rintro e w3 ⟨rfl,hb3⟩;obtain ⟨k,m,hk⟩:=zia s;rw[hk];have HK:=Hd hk;have hz3:=hb3.size;have HB3:=jM (Below w w w3) (jd HB2.o hb3 HB2.o.size);have hf3:∀o,w3.frozen? ⟨w.heap.size+1,o,none⟩=_:=λo=>(hb3.frozen (p:=⟨w.heap.size+1,o,none⟩) (by simp;omega)).trans (hf2 o);have hc3:∀o,w3.cell? ⟨w.heap.size+1,o,none⟩=_:=λo=>(hb3.cell (p:=⟨w.heap.size+1,o,none⟩) (by simp;omega)).trans (hc2 o);have hl3:w.heap.size+1<w3.heap.size:=by omega
 clear hb3 hf2 hc2 hk;go_wp2;refine jO results238 (v:=.agg #[.int .u8 k,.int .i64 m,str []]) ?_ (by simp (maxDischargeDepth:=9) [jQ,go_sem,hc3]);exact ⟨by rw[HK.o],jc (jc (jc HB3.o (by simp) _) (by simp) _) (by simp) _⟩
theorem zsd (s:zaa) (w:World) (hs:txtE s=0) (hl:s.length<=1000000):
 Calls prog 215 #[vVal 3 0 s] w λu w'=>u=.returned (zj8 s)/\Below w w w':=by
 have HS:=Hd hs;clear hs;obtain ⟨k,m,hk⟩:=zia s;have HK:=Hd hk;clear hk;go_enter func215,ntmps215;go_wp2_with fail;refine (zor s _ HS.o hl).mono ?_;rintro e w1 ⟨rfl,hb1⟩;have hz1:=hb1.size
 try simp at hz1
 have hB1:Below w w w1:=nxt hb1;obtain ⟨hc1_0,hl1_0,hm1_0,hn1_0,ho1_0,hf1_0⟩:=oldB (g:=w) hb1;obtain ⟨hc1_1,hl1_1,hm1_1,hn1_1,ho1_1,hf1_1⟩:=oldB (g:=w.heap.size+1) hb1;rw[HK.o];go_wp2;refine jO results215 (v:=.agg #[.int .u8 k,.int .i64 m,str []]) ?_ (by simp (maxDischargeDepth:=9) [jQ,go_sem,hc1_1]);exact ⟨by rw[HK.o],by go_grown⟩
theorem zhh (s:zaa) (w:World) (hs:s.length<=1000000):
 Calls prog 254 #[str s] w λu w'=>u=.returned (str (s.map upU))/\Below w w w':=by
 have hcv:=run_bytes_of_string (P:=prog) w 9 59 5 ⟨s.toArray⟩ rfl rfl rfl;have hsz:(⟨s.toArray⟩:ByteArray).size=s.length:=by show s.toArray.size=_;simp
 rw[hsz] at hcv;generalize hcap:grownCap w s.length 0 5=cap at hcv;have hge:s.length<=cap:=hcap▸grownCap_ge w s.length 0 5;generalize hrow:bytesRow ⟨s.toArray⟩ cap=row at hcv;have hat:∀(j:Nat) (c:UInt8),s[j]?=some c->row[j]?=some (.int .u8 c.toNat):=λj c hj=>by
  have hjl:=(jE.1 hj).1;rw[<- hrow,bytesRow_at _ cap j (by simpa using hjl)];have:s[j]=c:=by rw[jz hjl] at hj;simpa using hj
  simp[this]
 have hrs:s.length<=row.size:=by rw[<- hrow];simp[bytesRow]
 have HR:=Hd hat;clear hat hcap hrow;have H1:=jM (Rowb (w.alloc (.cells row 5 (row.size,row.size+1))).drew w.heap.size row) (heap_alloc_new w _);go_enter func254,ntmps254;go_wp2;go_loopw [4] (λi wr=>∃(k:Nat) (cs:Array Value),k<=s.length/\i=.int .i64 k/\Rowb wr w.heap.size cs/\s.length<=cs.size/\(∀(j:Nat) (c:UInt8),s[j]?=some c->cs[j]?=some (.int .u8 (if j<k then upU c else c).toNat))/\Below w w wr) (λi _=>s.length-(intOf i).toNat)
 case atStart=>exact ⟨0,row,by omega,rfl,H1.o,hrs,by simpa using HR.o,by go_grown⟩
 obtain ⟨k,cs,hk,rfl,hrb,hcs,hall,hbw⟩:=hrel;have RB:=Hd hrb;have HA:=Hd hall;have HBW:=Hd hbw;by_cases hlt:k<s.length;rotate_left
 ·obtain rfl:k=s.length:=by omega
  have hcv2:=run_convert_bytes_back (P:=prog) wr 59 9 5 (w,0) cap (s.map upU) rfl rfl rfl (λj hj=>by
   have hj':j<s.length:=by simpa using hj
   have h1:=HA.o j _ (jz hj');rw[zhv,RB.o.cell,h1,jb hj'];simp)
  rw[List.length_map] at hcv2;clear hrb hall hbw;go_wp2;go_ret;exact ⟨rfl,HBW.o⟩
 have hx:s[k]?=some s[k]:=jz hlt;have hc0:=(hrb.cell k).trans (hall k _ hx);rw[jS] at hc0;have hlw:=hrb.lt;have hf1:=hrb.frozen k (by omega);have HX:=Hd hx;clear hrb hall hbw hx;generalize s[k]=c at *;have hi0:(0:Int)<=(k:Int):=jw _;have hi1:(k:Int)<(s.length:Int):=by omega
 have hcl:=c.toNat_lt;have NEXT:∀cs',cs'=cs.setIfInBounds k (.int .u8 (upU c).toNat)\/(cs'=cs/\upU c=c)->∀(j:Nat) (d:UInt8),s[j]?=some d->cs'[j]?=some (.int .u8 (if j<k+1 then upU d else d).toNat):=by
  intro cs' hcs' j d hj;have h0:=HA.o j d hj;have hjl:=(jE.1 hj).1;by_cases hjk:j=k
  ·subst hjk;have hd:c=d:=by have:=HX.o.symm.trans hj;simpa using this
   rw[jT,<- hd];rcases hcs' with rfl | ⟨rfl,he⟩
   ·rw[Array.getElem?_setIfInBounds_self_of_lt (by omega)]
   rw[h0,jS,he,hd]
  have:cs'[j]?=cs[j]?:=by
   rcases hcs' with rfl | ⟨rfl,_⟩
   ·rw[Array.getElem?_setIfInBounds_ne (by omega)]
   rfl
  rw[this,h0];by_cases hjk2:j<k
  ·rw[jb hjk2,jT]
  rw[ja hjk2,jS]
 have HNX:=Hd NEXT;clear NEXT;by_cases c1:97<=c.toNat
 ·by_cases c2:c.toNat<=122
  ·have d1:(97:Int)<=(c.toNat:Int):=by omega
   have d2:(c.toNat:Int)<=122:=by omega
   have hw:IntKind.u8.wrap ((c.toNat:Int)-32)=(c.toNat:Int)-32:=by rw[IntKind.wrap_u8];omega
   have HU:=Hd (show ((c.toNat:Int)-32)=((upU c).toNat:Int) by
    unfold upU;rw[jb ⟨c1,c2⟩,UInt8.toNat_ofNat'];omega)
   go_wp2;rw[HU.o];exact ⟨⟨k+1,cs.setIfInBounds k (.int .u8 (upU c).toNat),by omega,by go_num,RB.o.set_ k _,by simpa using hcs,HNX.o _ (.inl rfl),HBW.o.setCell jy _⟩,by simp[intOf];omega⟩
  have d1:(97:Int)<=(c.toNat:Int):=by omega
  have d2:¬(c.toNat:Int)<=122:=by omega
  have HU:=jM (upU c=c) (by unfold upU;rw[jS]);go_wp2;exact ⟨⟨k+1,cs,by omega,by go_num,RB.o,hcs,HNX.o _ (.inr ⟨rfl,HU.o⟩),HBW.o⟩,by simp[intOf];omega⟩
 have d1:¬(97:Int)<=(c.toNat:Int):=by omega
 have HU:=jM (upU c=c) (by unfold upU;rw[jS]);go_wp2;exact ⟨⟨k+1,cs,by omega,by go_num,RB.o,hcs,HNX.o _ (.inr ⟨rfl,HU.o⟩),HBW.o⟩,by simp[intOf];omega⟩
theorem zvd (s:zaa) (w:World) (hs:s.length<=1000000000):
 Calls prog 366 #[str s] w λu w'=>u=.returned (.bool (pltB s))/\w=w':=by
 go_enter func366,ntmps366;go_wp2;go_loopw [3] (λv wr=>∃k:Nat,k<=s.length/\v=.int .i64 k/\pltB (s.take k)=true/\w=wr) (λv _=>s.length-(intOf v).toNat)
 case atStart=>exact ⟨0,by omega,rfl,rfl,rfl⟩
 obtain ⟨k,hk,rfl,he,rfl⟩:=hrel;have HE:=Hd he;clear he;have hi0:(0:Int)<=(k:Int):=jw _;by_cases hlt:k<s.length;rotate_left
 ·have hi1:¬(k:Int)<(s.length:Int):=by omega
  have H:=jM (pltB s=true) (by have:=HE.o;rwa [jK (by omega)] at this);go_wp2;go_ret;exact ⟨by rw[H.o];rfl,by trivial⟩
 have hi1:(k:Int)<(s.length:Int):=by omega
 have hx:=za3 s k (by rw[zae];exact hlt);have htk:s.take (k+1)=s.take k++ [s.getD k 0]:=by rw[jC hlt,jL,jz hlt];rfl
 have hmem:s.getD k 0∈s:=by rw[jL,jz hlt];exact jj hlt
 have HTK:=Hd htk;have HNO:=Hd (λ(h:¬(32<=(s.getD k 0).toNat/\(s.getD k 0).toNat<=126))=>show pltB s=false by
  rw[Bool.eq_false_iff];intro q;have:=List.all_eq_true.1 q _ hmem;simp only[ji,decide_eq_true_eq] at this;exact h this)
 clear htk hmem;generalize s.getD k 0=c at *;by_cases c1:32<=c.toNat
 ·by_cases c2:c.toNat<=126
  ·have d1:¬(c.toNat:Int)<32:=by omega
   have d2:¬(126:Int)<(c.toNat:Int):=by omega
   go_wp2;refine ⟨⟨k+1,by omega,by go_num,?_,by trivial⟩,by simp[intOf];omega⟩;rw[HTK.o];unfold pltB;rw[List.all_append,show List.all (s.take k) _=true from HE.o];simp[c1,c2]
  have d1:¬(c.toNat:Int)<32:=by omega
  have d2:(126:Int)<(c.toNat:Int):=by omega
  have H:=Hd (HNO.o (by omega));go_wp2;go_ret;exact ⟨by rw[H.o];rfl,by trivial⟩
 have d1:(c.toNat:Int)<32:=by omega
 have H:=Hd (HNO.o (by omega));go_wp2;go_ret;exact ⟨by rw[H.o];rfl,by trivial⟩
def txtR (s:zaa):Int:=if 256<s.length then 5 else if pltB s=true then 0 else 4
theorem zkf (s:zaa) (w:World) (hs:s.length<=1000000000):
 Calls prog 359 #[str s] w λu w'=>u=.returned (.int .i64 (txtR s))/\w=w':=by
 by_cases hl:256<s.length
 ·have hl':(256:Int)<(s.length:Int):=by omega
  have H:=jM (txtR s=5) (jb hl);go_enter func359,ntmps359;go_wp2;go_ret;exact ⟨by rw[H.o];rfl,rfl⟩
 have hl':¬(256:Int)<(s.length:Int):=by omega
 have HC:=Hd (zvd s · hs);have HT:=jM (txtR s=if pltB s=true then 0 else 4) (ja hl);generalize pltB s=b at *;cases b
 ·have H:=jM (txtR s=4) HT.o;go_enter func359,ntmps359;go_wp2_with fail;refine (HC.o _).mono ?_;rintro u w1 ⟨rfl,rfl⟩;go_wp2;go_ret;exact ⟨by rw[H.o];rfl,by trivial⟩
 have H:=jM (txtR s=0) HT.o;go_enter func359,ntmps359;go_wp2_with fail;refine (HC.o _).mono ?_;rintro u w1 ⟨rfl,rfl⟩;go_wp2;go_ret;exact ⟨by rw[H.o];rfl,by trivial⟩
def zg3:List Tok->Bool
 | []=>true
 | [t]=>decide (t.kind≠7)
 | t::u::l=>(decide (t.kind≠7)||decide (u.kind=9))&&zg3 (u::l)
theorem zte (t:Tok) (l:List Tok) (h:t.kind≠7\/∃u,l.head?=some u/\u.kind=9) (hl:zg3 l=true):zg3 (t::l)=true:=by
 cases l with
 | nil=>
  rcases h with h | ⟨u,h,_⟩
  ·simp[zg3,h]
  cases h
 | cons u l=>
  rcases h with h | ⟨v,h,k⟩
  ·simp[zg3,h,hl]
  simp only[List.head?_cons,jl] at h;simp[zg3,h,k];rw[<- h];exact hl
theorem zk3 {t:Tok} {l:List Tok} (h:zg3 (t::l)=true):zg3 l=true/\(t.kind=7->∃u,l.head?=some u/\u.kind=9):=by
 cases l with
 | nil=>refine ⟨rfl,λk=>?_⟩;simp[zg3,k] at h
 | cons u l=>simp only[zg3,ji,Bool.or_eq_true,decide_eq_true_eq] at h;exact ⟨h.2,λk=>⟨u,rfl,h.1.resolve_left (λq=>q k)⟩⟩
theorem zla (s:zaa) (i:Nat):∀(l:List zaa) (code:Int),(zd0 s i code l).1.kind≠7
 | [],_=>by simp[zd0,tok0]
 | x::l,code=>by
  unfold zd0;split
  ·simp
  exact zla s i l _
theorem znx (s:zaa) (i:Nat):∀(l:List (zaa × Int)) (r:Tok × Nat),opsL s i l=some r->r.1.kind=8
 | [],r,h=>by cases h
 | (x,n)::l,r,h=>by
  unfold opsL at h;split at h
  ·simp only[jl] at h;rw[<- h]
  exact znx s i l r h
theorem zsg (s:zaa) (i:Nat):(zdl s i).1.kind≠7:=by
 unfold zdl;split
 ·rename_i r hr;rw[znx s i _ r hr]
  decide
 repeat' split
 all_goals simp[tok0]
theorem zn6 (s:zaa) (i:Nat):(zaq s i).1.kind≠7:=by
 unfold zaq
 repeat' split
 all_goals simp[tok0]
theorem zse (s:zaa) (i:Nat):(zdk s i).1.kind≠7:=by
 unfold zdk;split
 ·simp[tok0]
 split
 ·simp[tok0]
 split
 all_goals simp[tok0]
theorem zr9 (s:zaa) (i:Nat) (h:(zbq s i).1.kind=7):ub s (i+(zbq s i).2)=40:=by
 unfold zbq at *;split at h
 ·simp[tok0] at h
 rename_i h1;rw[ja h1];split at h
 ·rename_i h2;rw[jb h2];exact h2
 split at h
 ·simp at h
 split at h
 ·simp at h
 split at h
 ·simp[tok0] at h
 split at h
 ·simp only at h;split at h <;> simp at h
 simp at h
theorem zsh (s:zaa) (i:Nat) (h:(zc4 s i).1.kind=7):ub s (i+(zc4 s i).2)=40:=by
 unfold zc4 at *;split at h
 ·exact absurd h (zn6 s i)
 rename_i h1;rw[ja h1];split at h
 ·exact absurd h (zse s i)
 rename_i h2;rw[ja h2];split at h
 ·rename_i h3;rw[jb h3];exact zr9 s i h
 split at h
 ·exact absurd h (zla s i _ _)
 exact absurd h (zsg s i)
theorem zut (s:zaa) (i:Nat) (h:ub s i=40):(zc4 s i).1.kind=9/\(zc4 s i).2=1:=by
 have hi:i<s.length:=by rw[<- Nat.not_le];intro q;unfold ub at h;rw[jL,List.getElem?_eq_none q] at h;simp at h
 have hd:=zh5 s i hi;have hc:(s.getD i 0).toNat=40:=h;generalize s.getD i 0=c at *;have ec:c=40:=UInt8.toNat_inj.1 (by simpa using hc);have gc:s.getD i 0=c:=by rw[zj0,hd];rfl
 unfold zc4;rw[zk1 s i (by rw[gc,ec];rfl),ja (by simp),zlp s i (by omega),ja (by simp),zil s i (by rw[gc,ec];rfl),ja (by simp),ziy s i c _ hd (zx5 (by omega)),ja (by simp)];unfold zdl;rw[zpf s i c _ hd (by rw[ec];decide) opsW zk0];simp only;rw[jb h];exact ⟨rfl,rfl⟩
theorem ub_in (s:zaa) (i:Nat) (h:ub s i≠0):i<s.length:=by
 rw[<- Nat.not_le];intro q;unfold ub at h;rw[jL,List.getElem?_eq_none q] at h;simp at h
theorem zhy (s:zaa):∀(f i:Nat) (l:List Tok),ze0 s f i=some l->zg3 l=true/\(ub s i=40->∃u,l.head?=some u/\u.kind=9)
 | 0,_,_,h=>by cases h
 | f+1,i,l,h=>by
  unfold ze0 at h;split at h
  ·rename_i hi;simp only[jl] at h;rw[<- h];exact ⟨rfl,λq=>by have:=ub_in s i (by omega);omega⟩
  split at h
  ·rename_i h32;exact ⟨(zhy s f _ l h).1,λq=>by omega⟩
  split at h
  ·cases h
  obtain ⟨m,hm,rfl⟩:=Option.map_eq_some_iff.1 h;obtain ⟨k1,k2⟩:=zhy s f _ m hm;refine ⟨zte _ _ ?_ k1,λq=>⟨_,rfl,(zut s i q).1⟩⟩;by_cases h7:(zc4 s i).1.kind=7
  ·exact .inr (k2 (zsh s i h7))
  exact .inl h7
theorem zm6 (s:zaa):zg3 (zaf s).1=true:=by
 unfold zaf;split
 ·rfl
 split
 ·rfl
 split
 ·rfl
 rename_i l hl;exact (zhy s _ _ l hl).1
end Go.Proofs.YtamcgggmfghljaaGreatDoor
