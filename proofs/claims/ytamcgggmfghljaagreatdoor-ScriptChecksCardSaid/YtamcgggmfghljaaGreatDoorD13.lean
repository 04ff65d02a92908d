/- Layer 7 (program): a number's token. -/
import Derived.Test.YtamcgggmfghljaaGreatDoorD10
set_option maxRecDepth 100000
set_option maxHeartbeats 8000000
open Go.Proofs.Tryz
namespace Go.Proofs.YtamcgggmfghljaaGreatDoor
open Go.RowKit
abbrev TokZ (w:World) (g:Nat):Prop:=Blk w g 239 #[.int .u8 0,.int .i64 0,str [],.int .i64 0,.int .i64 0,.int .i64 0,.int .i64 0,.int .i64 0]
theorem zac {w:World} {g:Nat} (h:TokZ w g):w.cell? ⟨g,0,none⟩=some (.int .u8 0)∧w.cell? ⟨g,1,none⟩=some (.int .i64 0)∧w.cell? ⟨g,2,none⟩=some (str [])∧w.cell? ⟨g,3,none⟩=some (.int .i64 0)∧w.cell? ⟨g,4,none⟩=some (.int .i64 0)∧w.cell? ⟨g,5,none⟩=some (.int .i64 0)∧w.cell? ⟨g,6,none⟩=some (.int .i64 0)∧w.cell? ⟨g,7,none⟩=some (.int .i64 0)∧∀o,w.frozen? ⟨g,o,none⟩=false:=
 ⟨h.cell 0,h.cell 1,h.cell 2,h.cell 3,h.cell 4,h.cell 5,h.cell 6,h.cell 7,h.frozen⟩
theorem zal {B:Nat} {a w:World} (h:Below B a w) {g:Nat} (hg:B≤g) (v0 v1 v2 v3 v4 v5 v6 v7:Value):Below B a ((((((((w.setCell ⟨g,0,none⟩ v0).setCell ⟨g,1,none⟩ v1).setCell ⟨g,2,none⟩ v2).setCell ⟨g,3,none⟩ v3).setCell ⟨g,4,none⟩ v4).setCell ⟨g,5,none⟩ v5).setCell ⟨g,6,none⟩ v6).setCell ⟨g,7,none⟩ v7):=
 (((((((h.setCell hg _).setCell hg _).setCell hg _).setCell hg _).setCell hg _).setCell hg _).setCell hg _).setCell hg _
theorem zpt (g:Nat) (s:zaa) (i:Nat) (w:World) (hs:s.length≤1000000) (hi:i≤s.length) (hg:Blk w g 263 #[str s]):
 Calls prog 246 #[.pointer (some ⟨g,0,none⟩),.int .i64 i] w fun u w'=>u=.returned (.tuple #[.agg (cTok (zao s i).1).toArray,.int .i64 (zao s i).2])∧Below w.heap.size w w':=by
 have hgl:=hg.lt
 have hc:w.cell? ⟨g,0,none⟩=some (str s):=hg.cell 0
 have HG:=Hd hg
 clear hg
 have hi0:(0:Int)≤(i:Int):=Int.natCast_nonneg _
 have hi1:(i:Int)≤(s.length:Int):=by omega
 have KZ:=Hd (show TokZ _ w.heap.size from Blk.new w 239 #[.int .u8 0,.int .i64 0,str [],.int .i64 0,.int .i64 0,.int .i64 0,.int .i64 0,.int .i64 0])
 go_enter func246,ntmps246
 go_wp2_with fail
 refine (ziz ⟨s.toArray⟩ i _ (by rw [zad];exact hs) (by rw [zad];exact hi)).mono ?_
 rintro u w1 ⟨rfl,hb1⟩
 rw [show lenB digB (⟨s.toArray⟩:ByteArray).data.toList i=lenB digB s i from rfl]
 have hm:=zfj digB s i
 obtain ⟨m,hmm⟩:∃m,lenB digB s i=m:=⟨_,rfl⟩
 rw [hmm] at hm ⊢
 have HM:=Hd hmm
 clear hmm
 have HB1:=Hd (show Below w.heap.size w w1 from nxt hb1)
 have HG1:=Hd ((HG.out.alloc _).below_ hb1)
 have KZ1:=Hd (KZ.out.below_ hb1)
 have hm0:(0:Int)≤(m:Int):=by omega
 have hm1:(i:Int)+(m:Int)≤(s.length:Int):=by omega
 clear hb1 hc
 by_cases hz:m=0
 ·have HE:=Hd (show zao s i=(tok0,0) by unfold zao;rw [HM.out,if_pos hz])
  have hz1:((m:Int)==0)=true:=by simp [hz]
  obtain ⟨q0,q1,q2,q3,q4,q5,q6,q7,qf⟩:=zac KZ1.out
  go_wp2
  refine bodyPost_ret (v:=.tuple #[.agg (cTok tok0).toArray,.int .i64 0]) (by simp (maxDischargeDepth:=9) [results,results246,go_sem,q0,q1,q2,q3,q4,q5,q6,q7,cTok,tok0,z4]) rfl ?_
  rw [HE.out]
  exact ⟨rfl,zal HB1.out (Nat.le_refl _) _ _ _ _ _ _ _ _⟩
 have hz1:((m:Int)==0)=false:=by simpa using hz
 have hgx:w1.cell? ⟨g,0,none⟩=some (str s):=HG1.out.cell 0
 have hp0:(0:Int)≤(i:Int)+(m:Int):=by omega
 by_cases hp:i+m+1<s.length
 rotate_left
 ·have hp1:¬(i:Int)+(m:Int)+1<(s.length:Int):=by omega
  have HD:=Hd (show dotB s (i+m)=false by unfold dotB;simp [hp])
  have HNO:=Hd (show ¬(dotB s (i+m)=true∧4<lenB digB s (i+m+1)) by rw [HD.out];simp)
  have HNN:=Hd (show zbe s i=m by unfold zbe;rw [HM.out,HD.out];rfl)
  have hgc:w1.cell? ⟨g,0,none⟩=some (str s):=HG1.out.cell 0
  go_wp2_with fail
  rw [zcs]
  refine (ze8 _ _ (by simp;omega)).mono ?_
  rintro u w5 ⟨rfl,hb5⟩
  have HB5:=Hd (show Below w.heap.size w w5 from Below.next HB1.out hb5 HB1.out.size)
  have KZ5:=Hd (KZ1.out.below_ hb5)
  clear hb5 hgc
  obtain ⟨r,hr⟩:∃r,zbc ((s.drop i).take (m))=r:=⟨_,rfl⟩
  rw [hr]
  have HR:=Hd hr
  clear hr
  by_cases he:r.2=0
  ·have HE:=Hd (show zao s i=(⟨1,r.1,[],z4,i⟩,m) by
    unfold zao
    rw [HM.out,if_neg hz,if_neg HNO.out,HNN.out,HR.out,if_neg (by simpa using he)])
   obtain ⟨q0,q1,q2,q3,q4,q5,q6,q7,qf⟩:=zac KZ5.out
   have he2:(r.2 != 0)=false:=by simpa using he
   clear he
   go_wp2
   refine bodyPost_ret (v:=.tuple #[.agg (cTok ⟨1,r.1,[],z4,i⟩).toArray,.int .i64 (m:Nat)]) (by simp (maxDischargeDepth:=9) [results,results246,go_sem,q0,q1,q2,q3,q4,q5,q6,q7,cTok,z4]) rfl ?_
   rw [HE.out]
   exact ⟨rfl,zal HB5.out (Nat.le_refl _) _ _ _ _ _ _ _ _⟩
  have HE:=Hd (show zao s i=(tok0,0) by
   unfold zao
   rw [HM.out,if_neg hz,if_neg HNO.out,HNN.out,HR.out,if_pos he])
  have he2:(r.2 != 0)=true:=by simpa using he
  clear he
  obtain ⟨q0,q1,q2,q3,q4,q5,q6,q7,qf⟩:=zac KZ5.out
  go_wp2
  refine bodyPost_ret (v:=.tuple #[.agg (cTok tok0).toArray,.int .i64 0]) (by simp (maxDischargeDepth:=9) [results,results246,go_sem,q0,q1,q2,q3,q4,q5,q6,q7,cTok,tok0,z4]) rfl ?_
  rw [HE.out]
  exact ⟨rfl,zal HB5.out (Nat.le_refl _) _ _ _ _ _ _ _ _⟩
 have hp1:(i:Int)+(m:Int)+1<(s.length:Int):=by omega
 have hp2:(i:Int)+(m:Int)<(s.length:Int):=by omega
 have hx0:=za2 s (i+m) (by rw [zad];omega)
 have hx1:=za2 s (i+m+1) (by rw [zad];omega)
 by_cases h46:ub s (i+m)=46
 rotate_left
 ·have HD:=Hd (show dotB s (i+m)=false by unfold dotB;simp [h46])
  have h46':(((s.getD (i+m) 0).toNat:Int)==46)=false:=by unfold ub at h46;simp only [beq_eq_false_iff_ne,ne_eq];omega
  generalize s.getD (i+m) 0=c0 at hx0 h46'
  have HNO:=Hd (show ¬(dotB s (i+m)=true∧4<lenB digB s (i+m+1)) by rw [HD.out];simp)
  have HNN:=Hd (show zbe s i=m by unfold zbe;rw [HM.out,HD.out];rfl)
  have hgc:w1.cell? ⟨g,0,none⟩=some (str s):=HG1.out.cell 0
  go_wp2_with fail
  rw [zcs]
  refine (ze8 _ _ (by simp;omega)).mono ?_
  rintro u w5 ⟨rfl,hb5⟩
  have HB5:=Hd (show Below w.heap.size w w5 from Below.next HB1.out hb5 HB1.out.size)
  have KZ5:=Hd (KZ1.out.below_ hb5)
  clear hb5 hgc
  obtain ⟨r,hr⟩:∃r,zbc ((s.drop i).take (m))=r:=⟨_,rfl⟩
  rw [hr]
  have HR:=Hd hr
  clear hr
  by_cases he:r.2=0
  ·have HE:=Hd (show zao s i=(⟨1,r.1,[],z4,i⟩,m) by
    unfold zao
    rw [HM.out,if_neg hz,if_neg HNO.out,HNN.out,HR.out,if_neg (by simpa using he)])
   obtain ⟨q0,q1,q2,q3,q4,q5,q6,q7,qf⟩:=zac KZ5.out
   have he2:(r.2 != 0)=false:=by simpa using he
   clear he
   go_wp2
   refine bodyPost_ret (v:=.tuple #[.agg (cTok ⟨1,r.1,[],z4,i⟩).toArray,.int .i64 (m:Nat)]) (by simp (maxDischargeDepth:=9) [results,results246,go_sem,q0,q1,q2,q3,q4,q5,q6,q7,cTok,z4]) rfl ?_
   rw [HE.out]
   exact ⟨rfl,zal HB5.out (Nat.le_refl _) _ _ _ _ _ _ _ _⟩
  have HE:=Hd (show zao s i=(tok0,0) by
   unfold zao
   rw [HM.out,if_neg hz,if_neg HNO.out,HNN.out,HR.out,if_pos he])
  have he2:(r.2 != 0)=true:=by simpa using he
  clear he
  obtain ⟨q0,q1,q2,q3,q4,q5,q6,q7,qf⟩:=zac KZ5.out
  go_wp2
  refine bodyPost_ret (v:=.tuple #[.agg (cTok tok0).toArray,.int .i64 0]) (by simp (maxDischargeDepth:=9) [results,results246,go_sem,q0,q1,q2,q3,q4,q5,q6,q7,cTok,tok0,z4]) rfl ?_
  rw [HE.out]
  exact ⟨rfl,zal HB5.out (Nat.le_refl _) _ _ _ _ _ _ _ _⟩
 have HD0:=Hd (show dotB s (i+m)=digB (s.getD (i+m+1) 0) by unfold dotB;simp [hp,h46])
 have h46':(((s.getD (i+m) 0).toNat:Int)==46)=true:=by unfold ub at h46;rw [h46];rfl
 generalize s.getD (i+m) 0=c0 at hx0 h46'
 generalize s.getD (i+m+1) 0=c1 at hx1 HD0
 clear h46
 go_wp2_with fail
 refine (zhr c1 _).mono ?_
 rintro u w2 ⟨rfl,rfl⟩
 by_cases hdg:digB c1=true
 rotate_left
 ·have hdg':digB c1=false:=by simpa using hdg
  rw [hdg'] at HD0 ⊢
  have HD:=HD0
  have HNO:=Hd (show ¬(dotB s (i+m)=true∧4<lenB digB s (i+m+1)) by rw [HD.out];simp)
  have HNN:=Hd (show zbe s i=m by unfold zbe;rw [HM.out,HD.out];rfl)
  have hgc:w1.cell? ⟨g,0,none⟩=some (str s):=HG1.out.cell 0
  go_wp2_with fail
  rw [zcs]
  refine (ze8 _ _ (by simp;omega)).mono ?_
  rintro u w5 ⟨rfl,hb5⟩
  have HB5:=Hd (show Below w.heap.size w w5 from Below.next HB1.out hb5 HB1.out.size)
  have KZ5:=Hd (KZ1.out.below_ hb5)
  clear hb5 hgc
  obtain ⟨r,hr⟩:∃r,zbc ((s.drop i).take (m))=r:=⟨_,rfl⟩
  rw [hr]
  have HR:=Hd hr
  clear hr
  by_cases he:r.2=0
  ·have HE:=Hd (show zao s i=(⟨1,r.1,[],z4,i⟩,m) by
    unfold zao
    rw [HM.out,if_neg hz,if_neg HNO.out,HNN.out,HR.out,if_neg (by simpa using he)])
   obtain ⟨q0,q1,q2,q3,q4,q5,q6,q7,qf⟩:=zac KZ5.out
   have he2:(r.2 != 0)=false:=by simpa using he
   clear he
   go_wp2
   refine bodyPost_ret (v:=.tuple #[.agg (cTok ⟨1,r.1,[],z4,i⟩).toArray,.int .i64 (m:Nat)]) (by simp (maxDischargeDepth:=9) [results,results246,go_sem,q0,q1,q2,q3,q4,q5,q6,q7,cTok,z4]) rfl ?_
   rw [HE.out]
   exact ⟨rfl,zal HB5.out (Nat.le_refl _) _ _ _ _ _ _ _ _⟩
  have HE:=Hd (show zao s i=(tok0,0) by
   unfold zao
   rw [HM.out,if_neg hz,if_neg HNO.out,HNN.out,HR.out,if_pos he])
  have he2:(r.2 != 0)=true:=by simpa using he
  clear he
  obtain ⟨q0,q1,q2,q3,q4,q5,q6,q7,qf⟩:=zac KZ5.out
  go_wp2
  refine bodyPost_ret (v:=.tuple #[.agg (cTok tok0).toArray,.int .i64 0]) (by simp (maxDischargeDepth:=9) [results,results246,go_sem,q0,q1,q2,q3,q4,q5,q6,q7,cTok,tok0,z4]) rfl ?_
  rw [HE.out]
  exact ⟨rfl,zal HB5.out (Nat.le_refl _) _ _ _ _ _ _ _ _⟩
 rw [hdg] at HD0 ⊢
 go_wp2_with fail
 have hq:(((i:Int)+(m:Int)+1:Int))=((i+m+1:Nat):Int):=by omega
 rw [hq]
 refine (ziz ⟨s.toArray⟩ (i+m+1) _ (by rw [zad];exact hs) (by rw [zad];omega)).mono ?_
 rintro u w3 ⟨rfl,hb3⟩
 rw [show lenB digB (⟨s.toArray⟩:ByteArray).data.toList (i+m+1)=lenB digB s (i+m+1) from rfl]
 have hk:=zfj digB s (i+m+1)
 obtain ⟨k,hkk⟩:∃k,lenB digB s (i+m+1)=k:=⟨_,rfl⟩
 rw [hkk] at hk ⊢
 have HK:=Hd hkk
 clear hkk hq hx0 hx1 hgx
 have HB3:=Hd (show Below w.heap.size w w3 from Below.next HB1.out hb3 HB1.out.size)
 have HG3:=Hd (HG1.out.below_ hb3)
 have KZ3:=Hd (KZ1.out.below_ hb3)
 clear hb3
 have hk0:(0:Int)≤(k:Int):=by omega
 have hk1:(i:Int)+((m:Int)+(1+(k:Int)))≤(s.length:Int):=by omega
 have hk2:(i:Int)≤(i:Int)+((m:Int)+(1+(k:Int))):=by omega
 by_cases hk4:(4:Int)<(k:Int)
 ·have HE:=Hd (show zao s i=(tok0,0) by unfold zao;rw [HM.out,if_neg hz,if_pos ⟨HD0.out,by rw [HK.out];omega⟩])
  obtain ⟨q0,q1,q2,q3,q4,q5,q6,q7,qf⟩:=zac KZ3.out
  go_wp2
  refine bodyPost_ret (v:=.tuple #[.agg (cTok tok0).toArray,.int .i64 0]) (by simp (maxDischargeDepth:=9) [results,results246,go_sem,q0,q1,q2,q3,q4,q5,q6,q7,cTok,tok0,z4]) rfl ?_
  rw [HE.out]
  exact ⟨rfl,zal HB3.out (Nat.le_refl _) _ _ _ _ _ _ _ _⟩
 have HNO:=Hd (show ¬(dotB s (i+m)=true∧4<lenB digB s (i+m+1)) by rw [HK.out];exact fun h=>hk4 (by omega))
 have HNN:=Hd (show zbe s i=m+(1+k) by unfold zbe;rw [HM.out,HD0.out,if_pos rfl,HK.out];omega)
 have hgc:w3.cell? ⟨g,0,none⟩=some (str s):=HG3.out.cell 0
 go_wp2_with fail
 rw [zcs]
 refine (ze8 _ _ (by simp;omega)).mono ?_
 rintro u w5 ⟨rfl,hb5⟩
 have HB5:=Hd (show Below w.heap.size w w5 from Below.next HB3.out hb5 HB3.out.size)
 have KZ5:=Hd (KZ3.out.below_ hb5)
 clear hb5 hgc
 obtain ⟨r,hr⟩:∃r,zbc ((s.drop i).take (m+(1+k)))=r:=⟨_,rfl⟩
 rw [hr]
 have HR:=Hd hr
 clear hr
 by_cases he:r.2=0
 ·have HE:=Hd (show zao s i=(⟨1,r.1,[],z4,i⟩,m+(1+k)) by
   unfold zao
   rw [HM.out,if_neg hz,if_neg HNO.out,HNN.out,HR.out,if_neg (by simpa using he)])
  obtain ⟨q0,q1,q2,q3,q4,q5,q6,q7,qf⟩:=zac KZ5.out
  have he2:(r.2 != 0)=false:=by simpa using he
  clear he
  go_wp2
  refine bodyPost_ret (v:=.tuple #[.agg (cTok ⟨1,r.1,[],z4,i⟩).toArray,.int .i64 (m+(1+k):Nat)]) (by simp (maxDischargeDepth:=9) [results,results246,go_sem,q0,q1,q2,q3,q4,q5,q6,q7,cTok,z4]) rfl ?_
  rw [HE.out]
  exact ⟨rfl,zal HB5.out (Nat.le_refl _) _ _ _ _ _ _ _ _⟩
 have HE:=Hd (show zao s i=(tok0,0) by
  unfold zao
  rw [HM.out,if_neg hz,if_neg HNO.out,HNN.out,HR.out,if_pos he])
 have he2:(r.2 != 0)=true:=by simpa using he
 clear he
 obtain ⟨q0,q1,q2,q3,q4,q5,q6,q7,qf⟩:=zac KZ5.out
 go_wp2
 refine bodyPost_ret (v:=.tuple #[.agg (cTok tok0).toArray,.int .i64 0]) (by simp (maxDischargeDepth:=9) [results,results246,go_sem,q0,q1,q2,q3,q4,q5,q6,q7,cTok,tok0,z4]) rfl ?_
 rw [HE.out]
 exact ⟨rfl,zal HB5.out (Nat.le_refl _) _ _ _ _ _ _ _ _⟩
end Go.Proofs.YtamcgggmfghljaaGreatDoor
