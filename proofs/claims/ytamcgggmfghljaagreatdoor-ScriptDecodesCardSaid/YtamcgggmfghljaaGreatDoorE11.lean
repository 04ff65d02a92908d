/- walk -/
import Derived.Deep.Cut
import Derived.Laws.Tables
import Derived.Laws.Rows
import Derived.Test.YtamcgggmfghljaaGreatDoorE10
set_option maxRecDepth 100000
set_option maxHeartbeats 8000000
open Go.Proofs.Tryz
namespace Go.Proofs.YtamcgggmfghljaaGreatDoor
open Go.RowKit
variable {B:Nat} {p:Tmp} {c:UInt8}
theorem zw7 (s:zaa) (f k:Nat) (h:s.length<=k):endQ s (f+1) k=none:=by unfold endQ;rw[jb h]
theorem ztz (s:zaa) (f k:Nat) (h:k<s.length) (hc:ub s k≠34):endQ s (f+1) k=endQ s f (k+1):=by
 conv=>lhs;unfold endQ
 rw[jS,jb hc]
theorem z0n (s:zaa) (f k:Nat) (_h:k<s.length) (hc:ub s k=34) (h2:k+1<s.length) (hd:ub s (k+1)=34):endQ s (f+1) k=endQ s f (k+2):=by
 conv=>lhs;unfold endQ
 rw[jS,ja (by simp[hc]),jb ⟨h2,hd⟩]
theorem zrr (s:zaa) (f k:Nat) (h:k<s.length) (hc:ub s k=34) (h2:¬(k+1<s.length/\ub s (k+1)=34)):endQ s (f+1) k=some k:=by
 conv=>lhs;unfold endQ
 rw[jS,ja (by simp[hc]),ja h2]
theorem zm2 (s:zaa) (k:Nat) (h:s.getD k 0=c):ub s k=c.toNat:=by unfold ub;rw[h]
theorem zhs (c:UInt8) (n:Nat) (h:c.toNat=n):((c.toNat:Int)==(n:Int))=true:=by rw[h];simp
theorem z1e (c:UInt8) (n:Nat) (h:c.toNat=n):((c.toNat:Int) != (n:Int))=false:=by rw[h];simp
theorem zf4 (c:UInt8) (n:Nat) (h:c.toNat≠n):((c.toNat:Int)==(n:Int))=false:=by simp only[jI,ne_eq];omega
theorem zv2 (c:UInt8) (n:Nat) (h:c.toNat≠n):((c.toNat:Int) != (n:Int))=true:=by simp only[bne_iff_ne,ne_eq];omega
theorem zz1 (g:Nat) (s:zaa) (i:Nat) (w:World) (hs:s.length<=1000000) (hi:i<s.length) (hg:Blk w g 263 #[str s]):
 Calls prog 247 #[(aA g),.int .i64 i] w λu w'=>u=.returned (.tuple #[.agg (cTok (zdk s i).1).toArray,.int .i64 (zdk s i).2])/\Below w w w':=by
 have hgl:=hg.lt;have hc:=hg.cell 0;have HG:=Hd hg;clear hg;have hi0:(0:Int)<=(i:Int):=jw _;have hi1:(i:Int)<(s.length:Int):=by omega
 have hx0:=za3 s i (by rw[zae];exact hi);have hu0:=zm2 s i rfl;obtain ⟨c0,hc0⟩:=jN (s.getD i 0);rw[hc0] at hx0 hu0;clear hc0;by_cases h34:c0.toNat=34;rotate_left
 ·have t0:((c0.toNat:Int) != 34)=true:=zv2 c0 34 h34;have HE:=jM (zdk s i=(tok0,0)) (by unfold zdk;rw[jb (by rw[hu0];exact h34)]);go_enter func247,ntmps247;go_wp2;refine jO results247 (v:=.tuple #[.agg (cTok tok0).toArray,.int .i64 0]) ?_ (by simp (maxDischargeDepth:=9) [jQ,go_sem,cTok,tok0,z4]);rw[HE.o];exact ⟨rfl,by go_grown⟩
 have t0:((c0.toNat:Int) != 34)=false:=z1e c0 34 h34;have HS:=Hd (show zdk s i=match endQ s s.length (i+1) with
  | none=>(tok0,0)
  | some k=>if (unqB ((s.drop i).take (k+1-i))).2≠0 then (tok0,0) else (⟨3-1,0,(unqB ((s.drop i).take (k+1-i))).1,z4,i⟩,k+1-i) by unfold zdk;rw[ja (by rw[hu0,h34];simp)];rfl)
 have KZ:=jM (TokZ _ w.heap.size) (je w 239 aT);have HG1:=Hd (HG.o.alloc (.cells aT 239));have HB1:=jM (Below w w (w.alloc (.cells aT 239))) (by go_grown);clear hu0 h34;go_enter func247,ntmps247;go_wp2;clear hc;obtain ⟨W1,hW1⟩:=jN (w.alloc (.cells aT 239));have hW1':w.alloc (.cells aU 239)=W1:=hW1;rw[hW1] at KZ HG1 HB1
 first | rw[hW1'] | rw[hW1]
 clear hW1 hW1' hx0 t0;go_loopw [6] (λv wr=>∃k f:Nat,i<k/\k<=s.length/\s.length-k<f/\v=.int .i64 k/\endQ s s.length (i+1)=endQ s f k/\W1=wr) (λv _=>s.length+1-(intOf v).toNat)
 case atStart=>exact ⟨i+1,s.length,by omega,by omega,by omega,rfl,rfl,rfl⟩
 obtain ⟨k,f,hik,hk,hf,rfl,hq,rfl⟩:=hrel;have HQ:=Hd hq;clear hq;obtain ⟨f,rfl⟩:∃f',f=f'+1:=⟨f-1,by omega⟩;have hgc:=HG1.o.cell 0;have hk0:(0:Int)<=(k:Int):=by omega
 by_cases hlt:k<s.length;rotate_left
 ·have hk1:¬(k:Int)<(s.length:Int):=by omega
  have HE:=jM (zdk s i=(tok0,0)) (by rw[HS.o,HQ.o,zw7 s f k (by omega)]);obtain ⟨q0,q1,q2,q3,q4,q5,q6,q7,qf⟩:=zad KZ.o;go_wp2;refine jO results247 (v:=.tuple #[.agg (cTok tok0).toArray,.int .i64 0]) ?_ (by simp (maxDischargeDepth:=9) [jQ,go_sem,q0,q1,q2,q3,q4,q5,q6,q7,cTok,tok0,z4]);rw[HE.o];exact ⟨rfl,zan HB1.o jy _ _ _ _ _ _ _ _⟩
 have hk1:(k:Int)<(s.length:Int):=by omega
 have hx:=za3 s k (by rw[zae];exact hlt);have hu:=zm2 s k rfl;obtain ⟨c,hcc⟩:=jN (s.getD k 0);rw[hcc] at hx hu;clear hcc;by_cases h34:c.toNat=34;rotate_left
 ·have t1:((c.toNat:Int) != 34)=true:=zv2 c 34 h34;have HN:=Hd (ztz s f k hlt (by rw[hu];exact h34));clear hu h34;go_wp2;exact ⟨⟨k+1,f,by omega,by omega,by omega,by go_num,by rw[HQ.o,HN.o],trivial⟩,by simp[intOf];omega⟩
 have t1:((c.toNat:Int) != 34)=false:=z1e c 34 h34;by_cases hk2:k+1<s.length
 ·have hk3:(k:Int)+1<(s.length:Int):=by omega
  have hx2:=za3 s (k+1) (by rw[zae];exact hk2);have hu2:=zm2 s (k+1) rfl;obtain ⟨d,hdd⟩:=jN (s.getD (k+1) 0);rw[hdd] at hx2 hu2;clear hdd;by_cases h34d:d.toNat=34
  ·have t2:((d.toNat:Int)==34)=true:=zhs d 34 h34d;have HN:=Hd (z0n s f k hlt (by rw[hu,h34]) hk2 (by rw[hu2,h34d]));clear hu hu2 h34 h34d;go_wp2;exact ⟨⟨k+2,f,by omega,by omega,by omega,by go_num,by rw[HQ.o,HN.o],trivial⟩,by simp[intOf];omega⟩
  have t2:((d.toNat:Int)==34)=false:=zf4 d 34 h34d;have HN:=Hd (zrr s f k hlt (by rw[hu,h34]) (λh=>h34d (by rw[<- hu2];exact h.2)));clear hu hu2 h34 h34d;have he1:(k:Int)+1<=(s.length:Int):=by omega
  have he2:(i:Int)<=(k:Int)+1:=by omega
  go_wp2_with fail;rw[show k+1=i+(k+1-i) by omega,zdc];refine (zi5 _ _ (by simp;omega)).mono ?_;rintro u w5 ⟨rfl,hb5⟩;have HB5:=jM (Below w w w5) (jd HB1.o hb5 HB1.o.size);have KZ5:=Hd (KZ.o.below_ hb5);clear hb5 hgc;obtain ⟨r,hr⟩:=jN (unqB ((s.drop i).take (k+1-i)));rw[hr];have HR:=Hd hr;clear hr;by_cases he:r.2=0
  ·have HE:=Hd (show zdk s i=(⟨3-1,0,r.1,z4,i⟩,k+1-i) by
    rw[HS.o,HQ.o,HN.o];dsimp only;rw[HR.o,ja (by simpa using he)])
   obtain ⟨q0,q1,q2,q3,q4,q5,q6,q7,qf⟩:=zad KZ5.o;have he3:(r.2 != 0)=false:=by simpa using he
   clear he;go_wp2;refine jO results247 (v:=.tuple #[.agg (cTok ⟨3-1,0,r.1,z4,i⟩).toArray,.int .i64 ((k:Int)+1-(i:Int))]) ?_ (by simp (maxDischargeDepth:=9) [jQ,go_sem,q0,q1,q2,q3,q4,q5,q6,q7,cTok,z4]);rw[HE.o];exact ⟨by rw[show ((k+1-i:Nat):Int)=(k:Int)+1-(i:Int) by omega],zan HB5.o jy _ _ _ _ _ _ _ _⟩
  have HE:=Hd (show zdk s i=(tok0,0) by
   rw[HS.o,HQ.o,HN.o];dsimp only;rw[HR.o,jb he])
  have he3:(r.2 != 0)=true:=by simpa using he
  clear he;obtain ⟨q0,q1,q2,q3,q4,q5,q6,q7,qf⟩:=zad KZ5.o;go_wp2;refine jO results247 (v:=.tuple #[.agg (cTok tok0).toArray,.int .i64 0]) ?_ (by simp (maxDischargeDepth:=9) [jQ,go_sem,q0,q1,q2,q3,q4,q5,q6,q7,cTok,tok0,z4]);rw[HE.o];exact ⟨rfl,zan HB5.o jy _ _ _ _ _ _ _ _⟩
 have hk3:¬(k:Int)+1<(s.length:Int):=by omega
 have HN:=Hd (zrr s f k hlt (by rw[hu,h34]) (λh=>hk2 h.1));clear hu h34;have he1:(k:Int)+1<=(s.length:Int):=by omega
 have he2:(i:Int)<=(k:Int)+1:=by omega
 go_wp2_with fail;rw[show k+1=i+(k+1-i) by omega,zdc];refine (zi5 _ _ (by simp;omega)).mono ?_;rintro u w5 ⟨rfl,hb5⟩;have HB5:=jM (Below w w w5) (jd HB1.o hb5 HB1.o.size);have KZ5:=Hd (KZ.o.below_ hb5);clear hb5 hgc;obtain ⟨r,hr⟩:=jN (unqB ((s.drop i).take (k+1-i)));rw[hr];have HR:=Hd hr;clear hr;by_cases he:r.2=0
 ·have HE:=Hd (show zdk s i=(⟨3-1,0,r.1,z4,i⟩,k+1-i) by
   rw[HS.o,HQ.o,HN.o];dsimp only;rw[HR.o,ja (by simpa using he)])
  obtain ⟨q0,q1,q2,q3,q4,q5,q6,q7,qf⟩:=zad KZ5.o;have he3:(r.2 != 0)=false:=by simpa using he
  clear he;go_wp2;refine jO results247 (v:=.tuple #[.agg (cTok ⟨3-1,0,r.1,z4,i⟩).toArray,.int .i64 ((k:Int)+1-(i:Int))]) ?_ (by simp (maxDischargeDepth:=9) [jQ,go_sem,q0,q1,q2,q3,q4,q5,q6,q7,cTok,z4]);rw[HE.o];exact ⟨by rw[show ((k+1-i:Nat):Int)=(k:Int)+1-(i:Int) by omega],zan HB5.o jy _ _ _ _ _ _ _ _⟩
 have HE:=Hd (show zdk s i=(tok0,0) by
  rw[HS.o,HQ.o,HN.o];dsimp only;rw[HR.o,jb he])
 have he3:(r.2 != 0)=true:=by simpa using he
 clear he;obtain ⟨q0,q1,q2,q3,q4,q5,q6,q7,qf⟩:=zad KZ5.o;go_wp2;refine jO results247 (v:=.tuple #[.agg (cTok tok0).toArray,.int .i64 0]) ?_ (by simp (maxDischargeDepth:=9) [jQ,go_sem,q0,q1,q2,q3,q4,q5,q6,q7,cTok,tok0,z4]);rw[HE.o];exact ⟨rfl,zan HB5.o jy _ _ _ _ _ _ _ _⟩
theorem zhm (g:Nat) (s:zaa) (i:Int) (k:Nat) (w:World) (hi:i=k) (hg:Blk w g 263 #[str s]):
 Calls prog 278 #[(aA g),.int .i64 i] w λu w'=>u=.returned (.int .u8 (ub s k))/\w=w':=by
 subst hi;exact zz3 g s k w hg
theorem zk5 (g:Nat) (s:zaa) (i:Int) (k:Nat) (w:World) (hi:i=k) (hs:s.length<=1000000) (hk:k<=s.length) (hg:Blk w g 263 #[str s]):
 Calls prog 277 #[(aA g),.int .i64 i] w λu w'=>u=.returned (str (zag s k))/\Below w w w':=by
 subst hi;exact zwg g s k w hs hk hg
theorem zkc (l:zaa) (w:World) (hl:l.length<=1000000):
 Calls prog 279 #[str l] w λu w'=>u=.returned (.tuple #[.agg #[.int .i64 (parA l).1.col,.int .i64 (parA l).1.row],.int .i64 (parA l).2])/\Below w w w':=
 zt5 ⟨l.toArray⟩ w (by rw[zae];exact hl)
theorem zkx (s:zaa) (i:Nat):(zag s i).length=lenB alnB s i:=by
 have:=zg4 alnB s i;unfold zag;simp;omega
theorem z1q (s:zaa) (k:Nat):ub s k<256:=by unfold ub;exact UInt8.toNat_lt _
theorem ub_len (s:zaa) (k:Nat) (h:ub s k≠0):k<s.length:=by
 rcases Nat.lt_or_ge k s.length with h1 | h1
 ·exact h1
 exact absurd (by unfold ub;rw[jL,List.getElem?_eq_none h1];rfl) h
theorem z0l (x y:Ref) (w:World):(binOp .eql 56 (.agg x) (.agg y)).run prog w=.ok (.bool (decide (x=y))) w:=by
 obtain ⟨a,b⟩:=x;obtain ⟨a',b'⟩:=y;simp[go_sem];by_cases q0:a=a'
 ·by_cases q1:b=b'
  ·simp[q0,q1]
  simp[q0,q1]
 simp[q0]
theorem zz0 (g:Nat) (s:zaa) (i:Nat) (w:World) (hs:s.length<=1000000) (hi:i<s.length) (hg:Blk w g 263 #[str s]):
 Calls prog 248 #[(aA g),.int .i64 i] w λu w'=>u=.returned (.tuple #[.agg (cTok (zbq s i).1).toArray,.int .i64 (zbq s i).2])/\Below w w w':=by
 have hgl:=hg.lt;have hc:=hg.cell 0;have HG0:=Hd (hg.alloc (.cells aT 239));clear hg;have hi0:(0:Int)<=(i:Int):=jw _;have hi1:(i:Int)<(s.length:Int):=by omega
 have hx0:=za3 s i (by rw[zae];exact hi);obtain ⟨c0,hc0⟩:=jN (s.getD i 0);rw[hc0] at hx0;have HC0:=Hd hc0;clear hc0;have KZ:=jM (TokZ _ w.heap.size) (je w 239 aT);have HB0:=jM (Below w w (w.alloc (.cells aT 239))) (by go_grown);go_enter func248,ntmps248;go_wp2_with fail;refine (zgi c0 _).mono ?_;rintro u w1 ⟨rfl,rfl⟩;by_cases hl:letB c0=true;rotate_left
 ·have hl':letB c0=false:=by simpa using hl
  have HE:=jM (zbq s i=(tok0,0)) (by unfold zbq;rw[jb (by rw[HC0.o];exact hl')]);rw[hl'];go_wp2_with fail;refine jO results248 (v:=.tuple #[.agg (cTok tok0).toArray,.int .i64 0]) ?_ (by simp (maxDischargeDepth:=9) [jQ,go_sem,cTok,tok0,z4]);rw[HE.o];exact ⟨rfl,by go_grown⟩
 have HL0:=jM (¬letB (s.getD i 0)=false) (by rw[HC0.o,hl];simp);rw[hl];go_wp2_with fail;refine (zk5 g s _ i _ rfl hs (by omega) HG0.o).mono ?_;rintro u w1 ⟨rfl,hb⟩;have HB1:=jM (Below w w w1) (jd HB0.o hb HB0.o.size);have HG1:=Hd (HG0.o.below_ hb);have KZ1:=Hd (KZ.o.below_ hb);clear hb hc hx0;have hpl:=zkx s i;have hpa:=zg4 alnB s i;obtain ⟨W,hW⟩:=jN (zag s i);rw[hW] at hpl ⊢;have HW:=Hd hW;clear hW;have hn1:(i:Int)+(W.length:Int)<=(s.length:Int):=by omega
 have hn2:(W.length:Int)<=1000000:=by omega
 have hwl:W.length<=1000000:=by omega
 clear hpl hpa;obtain ⟨q0,q1,q2,q3,q4,q5,q6,q7,qf⟩:=zad KZ1.o;go_wp2_with fail;refine (zhm g s _ (i+W.length) _ (by omega) HG1.o).mono ?_;rintro u w1' ⟨rfl,rfl⟩;have hu:=z1q s (i+W.length);by_cases h40:ub s (i+W.length)=40
 ·have HE:=jM (zbq s i=(⟨7,0,W,z4,i⟩,W.length)) (by unfold zbq;rw[ja HL0.o,HW.o,jb h40]);rw[h40];go_wp2_with fail;refine jO results248 (v:=.tuple #[.agg (cTok ⟨7,0,W,z4,i⟩).toArray,.int .i64 (W.length:Nat)]) ?_ (by simp (maxDischargeDepth:=9) [jQ,go_sem,q0,q1,q2,q3,q4,q5,q6,q7,cTok,z4]);rw[HE.o];exact ⟨rfl,zan HB1.o jy _ _ _ _ _ _ _ _⟩
 have h40':((ub s (i+W.length):Int)==40)=false:=by simp only[jI,ne_eq];omega
 have HN40:=Hd h40;clear h40 hu;by_cases hT:W=zx8
 ·have HE:=jM (zbq s i=(⟨3,1,[],z4,i⟩,W.length)) (by unfold zbq;rw[ja HL0.o,HW.o,ja HN40.o,jb hT]);have hT2:(W==([84,82,85,69]:List UInt8))=true:=by rw[hT];rfl
  clear hT;go_wp2_with fail;refine jO results248 (v:=.tuple #[.agg (cTok ⟨3,1,[],z4,i⟩).toArray,.int .i64 (W.length:Nat)]) ?_ (by simp (maxDischargeDepth:=9) [jQ,go_sem,q0,q1,q2,q3,q4,q5,q6,q7,cTok,z4]);rw[HE.o];exact ⟨rfl,zan HB1.o jy _ _ _ _ _ _ _ _⟩
 have hT2:(W==([84,82,85,69]:List UInt8))=false:=by simpa [zx8] using hT
 have HNT:=Hd hT;clear hT;by_cases hF:W=zrn
 ·have HE:=jM (zbq s i=(⟨3,0,[],z4,i⟩,W.length)) (by unfold zbq;rw[ja HL0.o,HW.o,ja HN40.o,ja HNT.o,jb hF]);have hF2:(W==([70,65,76,83,69]:List UInt8))=true:=by rw[hF];rfl
  clear hF;go_wp2_with fail;refine jO results248 (v:=.tuple #[.agg (cTok ⟨3,0,[],z4,i⟩).toArray,.int .i64 (W.length:Nat)]) ?_ (by simp (maxDischargeDepth:=9) [jQ,go_sem,q0,q1,q2,q3,q4,q5,q6,q7,cTok,z4]);rw[HE.o];exact ⟨rfl,zan HB1.o jy _ _ _ _ _ _ _ _⟩
 have hF2:(W==([70,65,76,83,69]:List UInt8))=false:=by simpa [zrn] using hF
 have HNF:=Hd hF;clear hF q0 q1 q2 q3 q4 q5 q6 q7 qf;have HE1:=Hd (show zbq s i=if (parA W).2≠0 then (tok0,0) else if twoB s (i+W.length) then
  (⟨if (parA W).1=(parA (zag s (i+W.length+1))).1 then 5 else 6,0,[],zoe (parA W).1 (parA (zag s (i+W.length+1))).1,i⟩,W.length+1+(zag s (i+W.length+1)).length)
  else (⟨5,0,[],⟨(parA W).1.col,(parA W).1.row,(parA W).1.col,(parA W).1.row⟩,i⟩,W.length) by
  unfold zbq;rw[ja HL0.o,HW.o,ja HN40.o,ja HNT.o,ja HNF.o])
 go_wp2_with fail;refine (zkc W _ hwl).mono ?_;rintro u w2 ⟨rfl,hb⟩;have HB2:=jM (Below w w w2) (jd HB1.o hb HB1.o.size);have HG2:=Hd (HG1.o.below_ hb);have KZ2:=Hd (KZ1.o.below_ hb);clear hb;obtain ⟨a,ha⟩:=jN (parA W);rw[ha] at HE1 ⊢;have HA:=Hd ha;clear ha;have hB3:=HB2.o.alloc HB2.o.size (.cells a.1 56);have hG3:=HG2.o.alloc (.cells a.1 56);have hK3:=KZ2.o.alloc (.cells a.1 56);have hA3:=je w2 56 a.1;go_upto_region 12 with (fail)
 obtain ⟨W3,hW3⟩:=jN (w2.alloc (.cells a.1 56));obtain ⟨ga,hga⟩:=jN w2.heap.size;rw[hW3] at hB3 hG3 hK3 hA3 ⊢;rw[hga] at hA3 ⊢;have HB3:=Hd hB3;have HG3:=Hd hG3;have KZ3:=jM (TokZ W3 w.heap.size) hK3;have KA3:=Hd hA3;clear hW3 hga hB3 hG3 hK3 hA3;by_cases he:a.2=0;rotate_left
 ·have he2:(a.2 != 0)=true:=by simpa using he
  have HE:=jM (zbq s i=(tok0,0)) (by rw[HE1.o,jb he]);obtain ⟨q0,q1,q2,q3,q4,q5,q6,q7,qf⟩:=zad KZ3.o;clear he;go_wp2_with fail;refine jO results248 (v:=.tuple #[.agg (cTok tok0).toArray,.int .i64 (0:Nat)]) ?_ (by simp (maxDischargeDepth:=9) [jQ,go_sem,q0,q1,q2,q3,q4,q5,q6,q7,cTok,z4,tok0]);rw[HE.o];exact ⟨rfl,zan HB3.o jy _ _ _ _ _ _ _ _⟩
 have he2:(a.2 != 0)=false:=by simpa using he
 have HE2:=Hd (show zbq s i=if twoB s (i+W.length) then
  (⟨if a.1=(parA (zag s (i+W.length+1))).1 then 5 else 6,0,[],zoe a.1 (parA (zag s (i+W.length+1))).1,i⟩,W.length+1+(zag s (i+W.length+1)).length)
  else (⟨5,0,[],⟨a.1.col,a.1.row,a.1.col,a.1.row⟩,i⟩,W.length) by rw[HE1.o,ja (by simp[he])])
 go_wp2_with fail;refine (zhm g s _ (i+W.length) _ (by omega) HG3.o).mono ?_;rintro u w3 ⟨rfl,rfl⟩;have hu1:=z1q s (i+W.length);by_cases h58:ub s (i+W.length)=58;rotate_left
 ·have HE:=Hd (show zbq s i=(⟨5,0,[],⟨a.1.col,a.1.row,a.1.col,a.1.row⟩,i⟩,W.length) by
   rw[HE2.o,ja];unfold twoB;simp[h58])
  have h58':((ub s (i+W.length):Int)==58)=false:=by simp only[jI,ne_eq];omega
  obtain ⟨x0,x1⟩:=KA3.o.c2 0 1;go_wp2_with fail;refine (zir a.1.col a.1.row _).mono ?_;rintro u w8 ⟨rfl,hb⟩;have HB8:=jM (Below w w w8) (jd HB3.o hb HB3.o.size);have KZ8:=Hd (KZ3.o.below_ hb);clear hb;obtain ⟨q0,q1,q2,q3,q4,q5,q6,q7,qf⟩:=zad KZ8.o;go_wp2_with fail;refine jO results248 (v:=.tuple #[.agg (cTok ⟨5,0,[],⟨a.1.col,a.1.row,a.1.col,a.1.row⟩,i⟩).toArray,.int .i64 (W.length:Nat)]) ?_ (by simp (maxDischargeDepth:=9) [jQ,go_sem,q0,q1,q2,q3,q4,q5,q6,q7,cTok]);rw[HE.o];exact ⟨rfl,zan HB8.o jy _ _ _ _ _ _ _ _⟩
 have hlt:=ub_len s (i+W.length) (by omega);have hp1:(i:Int)+(W.length:Int)+1<=(s.length:Int):=by omega
 have HD58:=Hd h58;rw[h58];go_wp2_with fail;refine (zhm g s _ (i+W.length+1) _ (by omega) HG3.o).mono ?_;rintro u w3 ⟨rfl,rfl⟩;go_wp2_with fail;refine (zgi (s.getD (i+W.length+1) 0) _).mono ?_;rintro u w3 ⟨rfl,rfl⟩;by_cases hl2:letB (s.getD (i+W.length+1) 0)=true;rotate_left
 ·have HE:=Hd (show zbq s i=(⟨5,0,[],⟨a.1.col,a.1.row,a.1.col,a.1.row⟩,i⟩,W.length) by
   rw[HE2.o,ja];unfold twoB;rw[show letB (s.getD (i+W.length+1) 0)=false by simpa using hl2];simp)
  have hl2':letB (s.getD (i+W.length+1) 0)=false:=by simpa using hl2
  rw[hl2'];obtain ⟨x0,x1⟩:=KA3.o.c2 0 1;go_wp2_with fail;refine (zir a.1.col a.1.row _).mono ?_;rintro u w8 ⟨rfl,hb⟩;have HB8:=jM (Below w w w8) (jd HB3.o hb HB3.o.size);have KZ8:=Hd (KZ3.o.below_ hb);clear hb;obtain ⟨q0,q1,q2,q3,q4,q5,q6,q7,qf⟩:=zad KZ8.o;go_wp2_with fail;refine jO results248 (v:=.tuple #[.agg (cTok ⟨5,0,[],⟨a.1.col,a.1.row,a.1.col,a.1.row⟩,i⟩).toArray,.int .i64 (W.length:Nat)]) ?_ (by simp (maxDischargeDepth:=9) [jQ,go_sem,q0,q1,q2,q3,q4,q5,q6,q7,cTok]);rw[HE.o];exact ⟨rfl,zan HB8.o jy _ _ _ _ _ _ _ _⟩
 have HL2:=Hd hl2;rw[hl2];clear hl2 h58 hu1;go_wp2_with fail;refine (zk5 g s _ (i+W.length+1) _ (by omega) hs (by omega) HG3.o).mono ?_;rintro u w4 ⟨rfl,hb⟩;have HB4:=jM (Below w w w4) (jd HB3.o hb HB3.o.size);have HG4:=Hd (HG3.o.below_ hb);have KZ4:=Hd (KZ3.o.below_ hb);have KA4:=Hd (KA3.o.below_ hb);clear hb;have hpl:=zkx s (i+W.length+1);have hpa:=zg4 alnB s (i+W.length+1);obtain ⟨V,hV⟩:=jN (zag s (i+W.length+1));rw[hV] at hpl HE2 ⊢;have HV:=Hd hV;clear hV;have hvl:V.length<=1000000:=by omega
 have hv1:(i:Int)+(W.length:Int)+1+(V.length:Int)<=(s.length:Int):=by omega
 clear hpl hpa;go_wp2_with fail;refine (zkc V _ hvl).mono ?_;rintro u w5 ⟨rfl,hb⟩;have HB5:=jM (Below w w w5) (jd HB4.o hb HB4.o.size);have HG5:=Hd (HG4.o.below_ hb);have KZ5:=Hd (KZ4.o.below_ hb);have KA5:=Hd (KA4.o.below_ hb);clear hb;obtain ⟨b,hbb⟩:=jN (parA V);rw[hbb] at HE2 ⊢;have HBB:=Hd hbb;clear hbb;have hB6:=HB5.o.alloc HB5.o.size (.cells b.1 56);have hG6:=HG5.o.alloc (.cells b.1 56);have hK6:=KZ5.o.alloc (.cells b.1 56);have hA6:=KA5.o.alloc (.cells b.1 56);have hC6:=je w5 56 b.1;go_upto_region 18 with (fail)
 obtain ⟨W6,hW6⟩:=jN (w5.alloc (.cells b.1 56));obtain ⟨gc,hgc⟩:=jN w5.heap.size;rw[hW6] at hB6 hG6 hK6 hA6 hC6 ⊢;rw[hgc] at hC6 ⊢;have HB6:=Hd hB6;have HG6:=Hd hG6;have KZ6:=jM (TokZ W6 w.heap.size) hK6;have KA6:=Hd hA6;have KC6:=Hd hC6;clear hW6 hgc hB6 hG6 hK6 hA6 hC6;obtain ⟨x0,x1⟩:=KA6.o.c2 0 1;obtain ⟨y0,y1⟩:=KC6.o.c2 0 1;obtain ⟨q0,q1,q2,q3,q4,q5,q6,q7,qf⟩:=zad KZ6.o;by_cases hbe:b.2=0;rotate_left
 ·have hbe2:(b.2==0)=false:=by simpa using hbe
  have HE:=Hd (show zbq s i=(⟨5,0,[],⟨a.1.col,a.1.row,a.1.col,a.1.row⟩,i⟩,W.length) by
   rw[HE2.o,ja];unfold twoB;rw[HV.o,HBB.o];simp[hbe])
  clear q0 q1 q2 q3 q4 q5 q6 q7 qf;go_wp2_with fail;refine (zir a.1.col a.1.row _).mono ?_;rintro u w8 ⟨rfl,hb⟩;have HB8:=jM (Below w w w8) (jd HB6.o hb HB6.o.size);have KZ8:=Hd (KZ6.o.below_ hb);clear hb;obtain ⟨q0,q1,q2,q3,q4,q5,q6,q7,qf⟩:=zad KZ8.o;go_wp2_with fail;refine jO results248 (v:=.tuple #[.agg (cTok ⟨5,0,[],⟨a.1.col,a.1.row,a.1.col,a.1.row⟩,i⟩).toArray,.int .i64 (W.length:Nat)]) ?_ (by simp (maxDischargeDepth:=9) [jQ,go_sem,q0,q1,q2,q3,q4,q5,q6,q7,cTok]);rw[HE.o];exact ⟨rfl,zan HB8.o jy _ _ _ _ _ _ _ _⟩
 have hbe2:(b.2==0)=true:=by simpa using hbe
 go_wp2_with fail;refine (zhm g s _ (i+W.length+1+V.length) _ (by omega) HG6.o).mono ?_;rintro u w6 ⟨rfl,rfl⟩;have hu2:=z1q s (i+W.length+1+V.length);by_cases h40b:ub s (i+W.length+1+V.length)=40
 ·have HE:=Hd (show zbq s i=(⟨5,0,[],⟨a.1.col,a.1.row,a.1.col,a.1.row⟩,i⟩,W.length) by
   rw[HE2.o,ja];unfold twoB;rw[HV.o,h40b];simp)
  have hn40:((ub s (i+W.length+1+V.length):Int) != 40)=false:=by rw[h40b];rfl
  clear q0 q1 q2 q3 q4 q5 q6 q7 qf;go_wp2_with fail;refine (zir a.1.col a.1.row _).mono ?_;rintro u w8 ⟨rfl,hb⟩;have HB8:=jM (Below w w w8) (jd HB6.o hb HB6.o.size);have KZ8:=Hd (KZ6.o.below_ hb);clear hb;obtain ⟨q0,q1,q2,q3,q4,q5,q6,q7,qf⟩:=zad KZ8.o;go_wp2_with fail;refine jO results248 (v:=.tuple #[.agg (cTok ⟨5,0,[],⟨a.1.col,a.1.row,a.1.col,a.1.row⟩,i⟩).toArray,.int .i64 (W.length:Nat)]) ?_ (by simp (maxDischargeDepth:=9) [jQ,go_sem,q0,q1,q2,q3,q4,q5,q6,q7,cTok]);rw[HE.o];exact ⟨rfl,zan HB8.o jy _ _ _ _ _ _ _ _⟩
 have hn40:((ub s (i+W.length+1+V.length):Int) != 40)=true:=by simp only[bne_iff_ne,ne_eq];omega
 have HE:=Hd (show zbq s i=(⟨if a.1=b.1 then 5 else 6,0,[],zoe a.1 b.1,i⟩,W.length+1+V.length) by
  rw[HE2.o,jb];unfold twoB;rw[HV.o,HD58.o,HL2.o,HBB.o,hbe];simp[h40b])
 clear h40b hu2;have hmn:∀x y:Int,(if y<x then y else x)=min x y:=λx y=>by split <;> omega
 have hmx:∀x y:Int,(if x<y then y else x)=max x y:=λx y=>by split <;> omega
 go_upto_region 20 with (fail)
 clear hmn hmx q0 q1 q2 q3 q4 q5 q6 q7 qf;obtain ⟨mm,hmm⟩:∃mm:Rct,mm=zoe a.1 b.1:=⟨_,rfl⟩;have hB7:=HB6.o.alloc HB6.o.size (.cells #[.int .i64 (min a.1.col b.1.col),.int .i64 (min a.1.row b.1.row),.int .i64 (max a.1.col b.1.col),.int .i64 (max a.1.row b.1.row)] 43);have hK7:=KZ6.o.alloc (.cells #[.int .i64 (min a.1.col b.1.col),.int .i64 (min a.1.row b.1.row),.int .i64 (max a.1.col b.1.col),.int .i64 (max a.1.row b.1.row)] 43);have hA7:=KA6.o.alloc (.cells #[.int .i64 (min a.1.col b.1.col),.int .i64 (min a.1.row b.1.row),.int .i64 (max a.1.col b.1.col),.int .i64 (max a.1.row b.1.row)] 43);have hC7:=KC6.o.alloc (.cells #[.int .i64 (min a.1.col b.1.col),.int .i64 (min a.1.row b.1.row),.int .i64 (max a.1.col b.1.col),.int .i64 (max a.1.row b.1.row)] 43);have hM7:=je W6 43 #[.int .i64 (min a.1.col b.1.col),.int .i64 (min a.1.row b.1.row),.int .i64 (max a.1.col b.1.col),.int .i64 (max a.1.row b.1.row)];obtain ⟨W7,hW7⟩:=jN (W6.alloc (.cells #[.int .i64 (min a.1.col b.1.col),.int .i64 (min a.1.row b.1.row),.int .i64 (max a.1.col b.1.col),.int .i64 (max a.1.row b.1.row)] 43));obtain ⟨gm,hgm⟩:=jN W6.heap.size;rw[hW7] at hB7 hK7 hA7 hC7 hM7 ⊢;rw[hgm] at hM7 ⊢;have HB7:=Hd hB7;have KZ7:=jM (TokZ W7 w.heap.size) hK7;have KM7:=jM (Blk W7 gm 43 mm) (by rw[hmm];exact hM7);obtain ⟨x0,x1⟩:=hA7.c2 0 1;obtain ⟨y0,y1⟩:=hC7.c2 0 1;obtain ⟨m0,m1,m2,m3⟩:=KM7.o.c4 0 1 2 3;have HMM:=Hd hmm;rw[<- hmm] at HE;clear hW7 hgm hB7 hK7 hA7 hC7 hM7 hmm;obtain ⟨q0,q1,q2,q3,q4,q5,q6,q7,qf⟩:=zad KZ7.o;have heq:∀W,(binOp .eql 56 (.agg a.1) (.agg b.1)).run prog W=.ok (.bool (decide (a.1=b.1))) W:=z0l a.1 b.1;by_cases hab:a.1=b.1
 ·have HE':=jM (zbq s i=(⟨5,0,[],mm,i⟩,W.length+1+V.length)) (by rw[HE.o,jb hab]);have HE:=HE';have hd:decide (a.1=b.1)=true:=by simpa using hab
  rw[hd] at heq;clear hab hd HE';go_wp2_with fail;refine jO results248 (v:=.tuple #[.agg (cTok ⟨5,0,[],mm,i⟩).toArray,.int .i64 (W.length+1+V.length:Nat)]) ?_ (by simp (maxDischargeDepth:=9) [jQ,go_sem,q0,q1,q2,q3,q4,q5,q6,q7,cTok]);rw[HE.o];exact ⟨rfl,zan HB7.o jy _ _ _ _ _ _ _ _⟩
 have HE':=jM (zbq s i=(⟨6,0,[],mm,i⟩,W.length+1+V.length)) (by rw[HE.o,ja hab]);have HE:=HE';have hd:decide (a.1=b.1)=false:=by simpa using hab
 rw[hd] at heq;clear hab hd HE';go_wp2_with fail;refine jO results248 (v:=.tuple #[.agg (cTok ⟨6,0,[],mm,i⟩).toArray,.int .i64 (W.length+1+V.length:Nat)]) ?_ (by simp (maxDischargeDepth:=9) [jQ,go_sem,q0,q1,q2,q3,q4,q5,q6,q7,cTok]);rw[HE.o];exact ⟨rfl,zan HB7.o jy _ _ _ _ _ _ _ _⟩
section
variable {w w' W:World} {g k:Nat} {t T:TypeId} {cs old:Array Value}
theorem Blk.row (h:Blk w g t old) (cs:Array Value):Blk (w.setRow g cs) g t cs:=setRow_heap w g old cs t (0,0) h
theorem Chg.setRow {S:Nat->Prop} (h:Chg S W w) (hg:S g\/W.heap.size<=g) (cs:Array Value):Chg S W (w.setRow g cs):=
 ⟨h.os,h.tape,h.output,by simpa using h.size,λk hk hs=>(setRow_other w g k cs (by rintro rfl;exact hg.elim hs (λh=>by omega))).trans (h.block k hk hs)⟩
theorem Below.setRow (h:Below B W w) (hg:B<=g) (cs:Array Value):Below B W (w.setRow g cs):=
 ⟨h.os,h.tape,h.output,by simpa using h.size,λk hk=>(setRow_other w g k cs (by omega)).trans (h.block k hk)⟩
end
section
variable {P:Program} {fn:Func} {tmps:Array Value} {w:World} {g:Nat} {t ty:TypeId} {cs:Array Value} {d:TypeDesc}
theorem znk (h:fn.results=#[.cell p ty]) (hp:tmps.getD p undef=.pointer (some (g,0))) (hg:Blk w g t cs)
 (hu:P.underlying ty=some d) (hd:(match d with | .struct _ | .array _ _=>true | _=>false)=true) (hi:(P.info? ty).map (·.size)=some cs.size):
 (results fn tmps).run P w=.ok (.agg cs) w:=results_cell_row h tmps w g t cs (0,0) d hp hg hu hd hi
end
section
variable {P:Program} {ops:Array Oper} {rest:List Oper} {dst:Option Tmp} {tt:TypeId} {ps:String} {af:Array Edge} {a:Act} {w:World} {Q:Exit->Act->World->Prop} {g:Nat} {t ty:TypeId} {x y:Operand} {old cells:Array Value}
end
theorem zsv (w:World):Calls prog 290 #[.int .i64 1] w λu w'=>u=.returned (str [35,68,73,86,47,48,33])/\w=w':=by
 go_enter func290,ntmps290;go_wp2;go_ret;exact ⟨rfl,rfl⟩
theorem zsu (w:World):Calls prog 290 #[.int .i64 2] w λu w'=>u=.returned (str [35,86,65,76,85,69,33])/\w=w':=by
 go_enter func290,ntmps290;go_wp2;go_ret;exact ⟨rfl,rfl⟩
theorem zst (w:World):Calls prog 290 #[.int .i64 3] w λu w'=>u=.returned (str [35,78,85,77,33])/\w=w':=by
 go_enter func290,ntmps290;go_wp2;go_ret;exact ⟨rfl,rfl⟩
theorem zss (w:World):Calls prog 290 #[.int .i64 4] w λu w'=>u=.returned (str [35,78,47,65])/\w=w':=by
 go_enter func290,ntmps290;go_wp2;go_ret;exact ⟨rfl,rfl⟩
theorem zsr (w:World):Calls prog 290 #[.int .i64 5] w λu w'=>u=.returned (str [35,82,69,70,33])/\w=w':=by
 go_enter func290,ntmps290;go_wp2;go_ret;exact ⟨rfl,rfl⟩
theorem zsq (w:World):Calls prog 290 #[.int .i64 6] w λu w'=>u=.returned (str [35,67,89,67,76,69,33])/\w=w':=by
 go_enter func290,ntmps290;go_wp2;go_ret;exact ⟨rfl,rfl⟩
theorem zsp (w:World):Calls prog 290 #[.int .i64 7] w λu w'=>u=.returned (str [35,68,69,78,73,69,68])/\w=w':=by
 go_enter func290,ntmps290;go_wp2;go_ret;exact ⟨rfl,rfl⟩
def errN:Nat->zaa
 | 1=>[35,68,73,86,47,48,33]
 | 2=>[35,86,65,76,85,69,33]
 | 3=>[35,78,85,77,33]
 | 4=>[35,78,47,65]
 | 5=>[35,82,69,70,33]
 | 6=>[35,67,89,67,76,69,33]
 | 7=>[35,68,69,78,73,69,68]
 | _=>[]
theorem zqn (k:Nat) (h1:1<=k) (h7:k<=7) (w:World):Calls prog 290 #[.int .i64 k] w λu w'=>u=.returned (str (errN k))/\w=w':=by
 have hk:k=1\/k=2\/k=3\/k=4\/k=5\/k=6\/k=7:=by omega
 rcases hk with rfl|rfl|rfl|rfl|rfl|rfl|rfl
 ·exact zsv w
 ·exact zsu w
 ·exact zst w
 ·exact zss w
 ·exact zsr w
 ·exact zsq w
 exact zsp w
theorem zy1 (n:Int) (w:World) (h1:1<=n) (h7:n<=7):
 Calls prog 257 #[.int .i64 n] w λu w'=>u=.returned (.agg #[.int .u8 4,.int .i64 n,str []])/\Below w w w':=by
 have e1:¬n<1:=by omega
 have e2:¬7<n:=by omega
 go_enter func257,ntmps257;go_wp2;refine jO results257 (v:=.agg #[.int .u8 4,.int .i64 n,str []]) ?_;exact ⟨rfl,by go_grown⟩
theorem zy0 (n:Int) (w:World) (h: -9223372036854775807<=n):
 Calls prog 259 #[.int .i64 n] w λu w'=>u=.returned (.agg #[.int .u8 1,.int .i64 n,str []])/\Below w w w':=by
 have e1:¬n< -9223372036854775807:=by omega
 go_enter func259,ntmps259;go_wp2;refine jO results259 (v:=.agg #[.int .u8 1,.int .i64 n,str []]) ?_;exact ⟨rfl,by go_grown⟩
theorem zqu (n:Int) (w:World) (h1:1<=n) (h6:n<=6):
 Calls prog 346 #[.agg #[.int .u8 4,.int .i64 n,str []]] w λu w'=>u=.returned (.int .i64 0)/\Below w w w':=by
 go_enter func346,ntmps346;go_wp2;go_ret;exact ⟨rfl,by go_grown⟩
theorem zy2 (n:Int) (w:World) (h0:0<=n):
 Calls prog 346 #[.agg #[.int .u8 1,.int .i64 n,str []]] w λu w'=>u=.returned (.int .i64 0)/\Below w w w':=by
 have e1: -9223372036854775807<=n:=by omega
 go_enter func346,ntmps346;go_wp2;go_ret;exact ⟨rfl,by go_grown⟩
theorem zs0 (w:World):
 Calls prog 346 #[.agg #[.int .u8 2,.int .i64 0,str []]] w λu w'=>u=.returned (.int .i64 0)/\Below w w w':=by
 go_enter func346,ntmps346;go_wp2;go_ret;exact ⟨rfl,by go_grown⟩
theorem zsz (w:World):
 Calls prog 346 #[.agg #[.int .u8 2,.int .i64 1,str []]] w λu w'=>u=.returned (.int .i64 0)/\Below w w w':=by
 go_enter func346,ntmps346;go_wp2;go_ret;exact ⟨rfl,by go_grown⟩
theorem zvi (x:zaa) (w:World) (h:txtR x=0) (hl:x.length<=1000000000):
 Calls prog 346 #[.agg #[.int .u8 3,.int .i64 0,str x]] w λu w'=>u=.returned (.int .i64 0)/\Below w w w':=by
 have HT:=Hd h;clear h;go_enter func346,ntmps346;go_wp2_with fail;refine (zkf x _ hl).mono ?_;rintro u w1 ⟨rfl,rfl⟩;rw[HT.o];go_wp2;go_ret;exact ⟨rfl,by go_grown⟩
theorem znm (n:Nat) (w:World) (h1:1<=n) (h5:n<=5):
 Calls prog 331 #[.agg #[.int .u8 4,.int .i64 n,str []]] w λu w'=>u=.returned (str (errN n))/\Below w w w':=by
 have hne:((n:Int)==7)=false:=by simp only[jI,ne_eq];omega
 have he:∀W,(binOp .eql 189 (.agg #[.int .u8 4,.int .i64 n,str []]) (.agg #[.int .u8 4,.int .i64 7,str []])).run prog W=.ok (.bool false) W:=by intro W;simp[go_sem,hne]
 have n0:(0:Int)<=(n:Int):=by omega
 have HN:=Hd (zqn n h1 (by omega));have C0:=Hd ((je w 189 #[.int .u8 4,.int .i64 n,str []]).cell 0);have C1:=Hd ((je w 189 #[.int .u8 4,.int .i64 n,str []]).cell 1);have C2:=Hd ((je w 189 #[.int .u8 4,.int .i64 n,str []]).cell 2);go_enter func331,ntmps331;go_wp2;have hlt:w.heap.size<(w.alloc (.cells #[.int .u8 4,.int .i64 n,str []] 189)).heap.size:=by simp
 obtain ⟨W0,hW0⟩:=jN (w.alloc (.cells #[.int .u8 4,.int .i64 n,str []] 189));have HB0:=jM (Below w w W0) (by rw[<- hW0];go_grown);rw[hW0] at C0 C1 C2 hlt ⊢;clear hW0
 go_region_held3 (λW:World=>W.cell? ⟨w.heap.size,0,none⟩=some (.int .u8 4)/\W.cell? ⟨w.heap.size,1,none⟩=some (.int .i64 n)/\W.cell? ⟨w.heap.size,2,none⟩=some (str []))
  (first
   | exact ⟨C0.o,C1.o,C2.o⟩
   | exact ⟨(hb1.cell hlt).trans C0.o,(hb1.cell hlt).trans C1.o,(hb1.cell hlt).trans C2.o⟩)
  (first
   | (go_at_call 257;refine (zy1 7 _ (by omega) (by omega)).mono ?_;rintro e w1 ⟨rfl,hb1⟩))
 have HB1:=jM (Below w w w1) (jd HB0.o (Below.trans ((jg _ _).drew) hb1) HB0.o.size);have hlt1:=jG hlt hb1.size;have d0:=(hb1.cell (p:=⟨w.heap.size,0,none⟩) hlt).trans C0.o;have d1:=(hb1.cell (p:=⟨w.heap.size,1,none⟩) hlt).trans C1.o;have d2:=(hb1.cell (p:=⟨w.heap.size,2,none⟩) hlt).trans C2.o;clear he hb1;go_wp2_with fail;refine (zqu n _ (by omega) (by omega)).mono ?_;rintro u w2 ⟨rfl,hb2⟩;have HB2:=Hd (jd HB1.o hb2 HB1.o.size);have f0:=(hb2.cell (p:=⟨w.heap.size,0,none⟩) hlt1).trans d0;have f1:=(hb2.cell (p:=⟨w.heap.size,1,none⟩) hlt1).trans d1;clear hb2;go_wp2_with fail;refine (HN.o _).mono ?_;rintro u w3 ⟨rfl,rfl⟩;go_wp2;go_ret;exact ⟨rfl,HB2.o⟩
def opT:Nat->zaa
 | 1=>[43] | 2=>[45] | 3=>[42] | 4=>[47] | 5=>[94] | 6=>[38] | 7=>[61] | 8=>[60,62] | 9=>[60] | 10=>[60,61] | 11=>[62] | 12=>[62,61] | 13=>[37] | _=>[]
def opF (size op:Nat):List (zaa × Int):=
 opsW.drop (if size=2 then (if op<=8 then 0 else if op<=10 then 1 else if op<=12 then 2 else 3) else (if op<=7 then 2+op else if op<=9 then 10 else if op<=11 then 11 else if op<=13 then 12 else 13))
theorem zvu:∀(a:Fin 2) (b:Fin 13),opF (a.val+1) (b.val+1)=if (opT (b.val+1)).length=a.val+1 then (opT (b.val+1),((b.val+1:Nat):Int))::opF (a.val+1) (b.val+2) else opF (a.val+1) (b.val+2):=by decide
theorem zzl (size op:Nat) (h:size=1\/size=2) (h1:1<=op) (h2:op<=13):
 opF size op=if (opT op).length=size then (opT op,(op:Int))::opF size (op+1) else opF size (op+1):=by
 obtain ⟨b,rfl⟩:∃b,op=b+1:=⟨op-1,by omega⟩;rcases h with rfl|rfl
 ·exact zvu ⟨0,by decide⟩ ⟨b,by omega⟩
 exact zvu ⟨1,by decide⟩ ⟨b,by omega⟩
theorem zvv:opF 2 1=opsW:=rfl
theorem zvt:∀(b:Fin 14),∀c∈opT b.val,¬(65<=c.toNat/\c.toNat<=90)/\¬(97<=c.toNat/\c.toNat<=122):=by decide
theorem z20:∀(b:Fin 14),(opT b.val).length<=2:=by decide
theorem z1k {t:zaa} (h:c≠34):unqP (c::t)=(unqP t).map (λr=>(c::r.1,r.2+1)):=by
 cases t with
 | nil=>simp[unqP,h]
 | cons d t=>simp[unqP,h]
theorem zx6 {t:zaa}:unqP (34::34::t)=(unqP t).map (λr=>(34::r.1,r.2+2)):=by simp[unqP]
theorem zp9 {t:zaa} (h:t.head?≠some 34):unqP (34::t)=some ([],1):=by
 cases t with
 | nil=>simp[unqP]
 | cons d t=>simp only[List.head?_cons,ne_eq,jl] at h;simp[unqP,h]
end Go.Proofs.YtamcgggmfghljaaGreatDoor
