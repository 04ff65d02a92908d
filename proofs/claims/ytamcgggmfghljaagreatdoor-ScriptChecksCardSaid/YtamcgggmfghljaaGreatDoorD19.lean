/- Layer 7 (program): a word's token. -/
import Derived.Deep.Cut
import Derived.Test.YtamcgggmfghljaaGreatDoorD14
set_option maxRecDepth 100000
set_option maxHeartbeats 8000000
open Go.Proofs.Tryz
namespace Go.Proofs.YtamcgggmfghljaaGreatDoor
open Go.RowKit
theorem zfu (g:Nat) (s:zaa) (i:Int) (k:Nat) (w:World) (hi:i=k) (hg:Blk w g 263 #[str s]):
 Calls prog 278 #[.pointer (some ⟨g,0,none⟩),.int .i64 i] w fun u w'=>u=.returned (.int .u8 (ub s k))∧w=w':=by
 subst hi
 exact zvt g s k w hg
theorem zix (g:Nat) (s:zaa) (i:Int) (k:Nat) (w:World) (hi:i=k) (hs:s.length≤1000000) (hk:k≤s.length) (hg:Blk w g 263 #[str s]):
 Calls prog 277 #[.pointer (some ⟨g,0,none⟩),.int .i64 i] w fun u w'=>u=.returned (str (zaf s k))∧Below w.heap.size w w':=by
 subst hi
 exact zr6 g s k w hs hk hg
theorem zh8 (l:zaa) (w:World) (hl:l.length≤1000000):
 Calls prog 279 #[str l] w fun u w'=>u=.returned (.tuple #[.agg #[.int .i64 (parA l).1.col,.int .i64 (parA l).1.row],.int .i64 (parA l).2])∧Below w.heap.size w w':=
 zqf ⟨l.toArray⟩ w (by rw [zad];exact hl)
theorem zir (s:zaa) (i:Nat):(zaf s i).length=lenB alnB s i:=by
 have:=zfj alnB s i
 unfold zaf
 simp
 omega
theorem zxn (s:zaa) (k:Nat):ub s k<256:=by unfold ub;exact UInt8.toNat_lt _
theorem ub_len (s:zaa) (k:Nat) (h:ub s k≠0):k<s.length:=by
 rcases Nat.lt_or_ge k s.length with h1 | h1
 ·exact h1
 exact absurd (by unfold ub;rw [List.getD_eq_getElem?_getD,List.getElem?_eq_none h1];rfl) h
theorem zv9 (x y:Ref) (w:World):(binOp .eql 56 (.agg #[.int .i64 x.col,.int .i64 x.row]) (.agg #[.int .i64 y.col,.int .i64 y.row])).run prog w=.ok (.bool (decide (x=y))) w:=by
 obtain ⟨a,b⟩:=x
 obtain ⟨a',b'⟩:=y
 simp [go_sem]
 by_cases q0:a=a'
 ·by_cases q1:b=b'
  ·simp [q0,q1]
  simp [q0,q1]
 simp [q0]
theorem zvq (g:Nat) (s:zaa) (i:Nat) (w:World) (hs:s.length≤1000000) (hi:i<s.length) (hg:Blk w g 263 #[str s]):
 Calls prog 248 #[.pointer (some ⟨g,0,none⟩),.int .i64 i] w fun u w'=>u=.returned (.tuple #[.agg (cTok (zbj s i).1).toArray,.int .i64 (zbj s i).2])∧Below w.heap.size w w':=by
 have hgl:=hg.lt
 have hc:w.cell? ⟨g,0,none⟩=some (str s):=hg.cell 0
 have HG0:=Hd (hg.alloc (.cells #[.int .u8 0,.int .i64 0,str [],.int .i64 0,.int .i64 0,.int .i64 0,.int .i64 0,.int .i64 0] 239))
 clear hg
 have hi0:(0:Int)≤(i:Int):=Int.natCast_nonneg _
 have hi1:(i:Int)<(s.length:Int):=by omega
 have hx0:=za2 s i (by rw [zad];exact hi)
 obtain ⟨c0,hc0⟩:∃c0,s.getD i 0=c0:=⟨_,rfl⟩
 rw [hc0] at hx0
 have HC0:=Hd hc0
 clear hc0
 have KZ:=Hd (show TokZ _ w.heap.size from Blk.new w 239 #[.int .u8 0,.int .i64 0,str [],.int .i64 0,.int .i64 0,.int .i64 0,.int .i64 0,.int .i64 0])
 have HB0:=Hd (show Below w.heap.size w (w.alloc (.cells #[.int .u8 0,.int .i64 0,str [],.int .i64 0,.int .i64 0,.int .i64 0,.int .i64 0,.int .i64 0] 239)) from by go_grown)
 go_enter func248,ntmps248
 go_wp2_with fail
 refine (ze4 c0 _).mono ?_
 rintro u w1 ⟨rfl,rfl⟩
 by_cases hl:letB c0=true
 rotate_left
 ·have hl':letB c0=false:=by simpa using hl
  have HE:=Hd (show zbj s i=(tok0,0) by unfold zbj;rw [if_pos (by rw [HC0.out];exact hl')])
  rw [hl']
  go_wp2_with fail
  refine bodyPost_ret (v:=.tuple #[.agg (cTok tok0).toArray,.int .i64 0]) (by simp (maxDischargeDepth:=9) [results,results248,go_sem,cTok,tok0,z4]) rfl ?_
  rw [HE.out]
  exact ⟨rfl,by go_grown⟩
 have HL0:=Hd (show ¬letB (s.getD i 0)=false by rw [HC0.out,hl];simp)
 rw [hl]
 go_wp2_with fail
 refine (zix g s _ i _ rfl hs (by omega) HG0.out).mono ?_
 rintro u w1 ⟨rfl,hb⟩
 have HB1:=Hd (show Below w.heap.size w w1 from Below.next HB0.out hb HB0.out.size)
 have HG1:=Hd (HG0.out.below_ hb)
 have KZ1:=Hd (KZ.out.below_ hb)
 clear hb hc hx0
 have hpl:=zir s i
 have hpa:=zfj alnB s i
 obtain ⟨W,hW⟩:∃W,zaf s i=W:=⟨_,rfl⟩
 rw [hW] at hpl ⊢
 have HW:=Hd hW
 clear hW
 have hn1:(i:Int)+(W.length:Int)≤(s.length:Int):=by omega
 have hn2:(W.length:Int)≤1000000:=by omega
 have hwl:W.length≤1000000:=by omega
 clear hpl hpa
 obtain ⟨q0,q1,q2,q3,q4,q5,q6,q7,qf⟩:=zac KZ1.out
 go_wp2_with fail
 refine (zfu g s _ (i+W.length) _ (by omega) HG1.out).mono ?_
 rintro u w1' ⟨rfl,rfl⟩
 have hu:=zxn s (i+W.length)
 by_cases h40:ub s (i+W.length)=40
 ·have HE:=Hd (show zbj s i=(⟨7,0,W,z4,i⟩,W.length) by unfold zbj;rw [if_neg HL0.out,HW.out,if_pos h40])
  rw [h40]
  go_wp2_with fail
  refine bodyPost_ret (v:=.tuple #[.agg (cTok ⟨7,0,W,z4,i⟩).toArray,.int .i64 (W.length:Nat)]) (by simp (maxDischargeDepth:=9) [results,results248,go_sem,q0,q1,q2,q3,q4,q5,q6,q7,cTok,z4]) rfl ?_
  rw [HE.out]
  exact ⟨rfl,zal HB1.out (Nat.le_refl _) _ _ _ _ _ _ _ _⟩
 have h40':((ub s (i+W.length):Int)==40)=false:=by simp only [beq_eq_false_iff_ne,ne_eq];omega
 have HN40:=Hd h40
 clear h40 hu
 by_cases hT:W=ztu
 ·have HE:=Hd (show zbj s i=(⟨3,1,[],z4,i⟩,W.length) by unfold zbj;rw [if_neg HL0.out,HW.out,if_neg HN40.out,if_pos hT])
  have hT2:(W==([84,82,85,69]:List UInt8))=true:=by rw [hT];rfl
  clear hT
  go_wp2_with fail
  refine bodyPost_ret (v:=.tuple #[.agg (cTok ⟨3,1,[],z4,i⟩).toArray,.int .i64 (W.length:Nat)]) (by simp (maxDischargeDepth:=9) [results,results248,go_sem,q0,q1,q2,q3,q4,q5,q6,q7,cTok,z4]) rfl ?_
  rw [HE.out]
  exact ⟨rfl,zal HB1.out (Nat.le_refl _) _ _ _ _ _ _ _ _⟩
 have hT2:(W==([84,82,85,69]:List UInt8))=false:=by simpa [ztu] using hT
 have HNT:=Hd hT
 clear hT
 by_cases hF:W=zn6
 ·have HE:=Hd (show zbj s i=(⟨3,0,[],z4,i⟩,W.length) by unfold zbj;rw [if_neg HL0.out,HW.out,if_neg HN40.out,if_neg HNT.out,if_pos hF])
  have hF2:(W==([70,65,76,83,69]:List UInt8))=true:=by rw [hF];rfl
  clear hF
  go_wp2_with fail
  refine bodyPost_ret (v:=.tuple #[.agg (cTok ⟨3,0,[],z4,i⟩).toArray,.int .i64 (W.length:Nat)]) (by simp (maxDischargeDepth:=9) [results,results248,go_sem,q0,q1,q2,q3,q4,q5,q6,q7,cTok,z4]) rfl ?_
  rw [HE.out]
  exact ⟨rfl,zal HB1.out (Nat.le_refl _) _ _ _ _ _ _ _ _⟩
 have hF2:(W==([70,65,76,83,69]:List UInt8))=false:=by simpa [zn6] using hF
 have HNF:=Hd hF
 clear hF q0 q1 q2 q3 q4 q5 q6 q7 qf
 have HE1:=Hd (show zbj s i=if (parA W).2≠0 then (tok0,0) else if twoB s (i+W.length) then
  (⟨if (parA W).1=(parA (zaf s (i+W.length+1))).1 then 5 else 6,0,[],zlk (parA W).1 (parA (zaf s (i+W.length+1))).1,i⟩,W.length+1+(zaf s (i+W.length+1)).length)
  else (⟨5,0,[],⟨(parA W).1.col,(parA W).1.row,(parA W).1.col,(parA W).1.row⟩,i⟩,W.length) by
  unfold zbj;rw [if_neg HL0.out,HW.out,if_neg HN40.out,if_neg HNT.out,if_neg HNF.out])
 go_wp2_with fail
 refine (zh8 W _ hwl).mono ?_
 rintro u w2 ⟨rfl,hb⟩
 have HB2:=Hd (show Below w.heap.size w w2 from Below.next HB1.out hb HB1.out.size)
 have HG2:=Hd (HG1.out.below_ hb)
 have KZ2:=Hd (KZ1.out.below_ hb)
 clear hb
 obtain ⟨a,ha⟩:∃a,parA W=a:=⟨_,rfl⟩
 rw [ha] at HE1 ⊢
 have HA:=Hd ha
 clear ha
 have hB3:=HB2.out.alloc HB2.out.size (.cells #[.int .i64 a.1.col,.int .i64 a.1.row] 56)
 have hG3:=HG2.out.alloc (.cells #[.int .i64 a.1.col,.int .i64 a.1.row] 56)
 have hK3:=KZ2.out.alloc (.cells #[.int .i64 a.1.col,.int .i64 a.1.row] 56)
 have hA3:=Blk.new w2 56 #[.int .i64 a.1.col,.int .i64 a.1.row]
 go_upto_region 12 with (fail)
 obtain ⟨W3,hW3⟩:∃W3,w2.alloc (.cells #[.int .i64 a.1.col,.int .i64 a.1.row] 56)=W3:=⟨_,rfl⟩
 obtain ⟨ga,hga⟩:∃ga,w2.heap.size=ga:=⟨_,rfl⟩
 rw [hW3] at hB3 hG3 hK3 hA3 ⊢
 rw [hga] at hA3 ⊢
 have HB3:=Hd hB3
 have HG3:=Hd hG3
 have KZ3:=Hd (show TokZ W3 w.heap.size from hK3)
 have KA3:=Hd hA3
 clear hW3 hga hB3 hG3 hK3 hA3
 by_cases he:a.2=0
 rotate_left
 ·have he2:(a.2 != 0)=true:=by simpa using he
  have HE:=Hd (show zbj s i=(tok0,0) by rw [HE1.out,if_pos he])
  obtain ⟨q0,q1,q2,q3,q4,q5,q6,q7,qf⟩:=zac KZ3.out
  clear he
  go_wp2_with fail
  refine bodyPost_ret (v:=.tuple #[.agg (cTok tok0).toArray,.int .i64 (0:Nat)]) (by simp (maxDischargeDepth:=9) [results,results248,go_sem,q0,q1,q2,q3,q4,q5,q6,q7,cTok,z4,tok0]) rfl ?_
  rw [HE.out]
  exact ⟨rfl,zal HB3.out (Nat.le_refl _) _ _ _ _ _ _ _ _⟩
 have he2:(a.2 != 0)=false:=by simpa using he
 have HE2:=Hd (show zbj s i=if twoB s (i+W.length) then
  (⟨if a.1=(parA (zaf s (i+W.length+1))).1 then 5 else 6,0,[],zlk a.1 (parA (zaf s (i+W.length+1))).1,i⟩,W.length+1+(zaf s (i+W.length+1)).length)
  else (⟨5,0,[],⟨a.1.col,a.1.row,a.1.col,a.1.row⟩,i⟩,W.length) by rw [HE1.out,if_neg (by simp [he])])
 go_wp2_with fail
 refine (zfu g s _ (i+W.length) _ (by omega) HG3.out).mono ?_
 rintro u w3 ⟨rfl,rfl⟩
 have hu1:=zxn s (i+W.length)
 by_cases h58:ub s (i+W.length)=58
 rotate_left
 ·have HE:=Hd (show zbj s i=(⟨5,0,[],⟨a.1.col,a.1.row,a.1.col,a.1.row⟩,i⟩,W.length) by
   rw [HE2.out,if_neg]
   unfold twoB
   simp [h58])
  have h58':((ub s (i+W.length):Int)==58)=false:=by simp only [beq_eq_false_iff_ne,ne_eq];omega
  have x0:W3.cell? ⟨ga,0,none⟩=some (.int .i64 a.1.col):=KA3.out.cell 0
  have x1:W3.cell? ⟨ga,1,none⟩=some (.int .i64 a.1.row):=KA3.out.cell 1
  go_wp2_with fail
  refine (zgu a.1.col a.1.row _).mono ?_
  rintro u w8 ⟨rfl,hb⟩
  have HB8:=Hd (show Below w.heap.size w w8 from Below.next HB3.out hb HB3.out.size)
  have KZ8:=Hd (KZ3.out.below_ hb)
  clear hb
  obtain ⟨q0,q1,q2,q3,q4,q5,q6,q7,qf⟩:=zac KZ8.out
  go_wp2_with fail
  refine bodyPost_ret (v:=.tuple #[.agg (cTok ⟨5,0,[],⟨a.1.col,a.1.row,a.1.col,a.1.row⟩,i⟩).toArray,.int .i64 (W.length:Nat)]) (by simp (maxDischargeDepth:=9) [results,results248,go_sem,q0,q1,q2,q3,q4,q5,q6,q7,cTok]) rfl ?_
  rw [HE.out]
  exact ⟨rfl,zal HB8.out (Nat.le_refl _) _ _ _ _ _ _ _ _⟩
 have hlt:=ub_len s (i+W.length) (by omega)
 have hp1:(i:Int)+(W.length:Int)+1≤(s.length:Int):=by omega
 have HD58:=Hd h58
 rw [h58]
 go_wp2_with fail
 refine (zfu g s _ (i+W.length+1) _ (by omega) HG3.out).mono ?_
 rintro u w3 ⟨rfl,rfl⟩
 go_wp2_with fail
 refine (ze4 (s.getD (i+W.length+1) 0) _).mono ?_
 rintro u w3 ⟨rfl,rfl⟩
 by_cases hl2:letB (s.getD (i+W.length+1) 0)=true
 rotate_left
 ·have HE:=Hd (show zbj s i=(⟨5,0,[],⟨a.1.col,a.1.row,a.1.col,a.1.row⟩,i⟩,W.length) by
   rw [HE2.out,if_neg]
   unfold twoB
   rw [show letB (s.getD (i+W.length+1) 0)=false by simpa using hl2]
   simp)
  have hl2':letB (s.getD (i+W.length+1) 0)=false:=by simpa using hl2
  rw [hl2']
  have x0:W3.cell? ⟨ga,0,none⟩=some (.int .i64 a.1.col):=KA3.out.cell 0
  have x1:W3.cell? ⟨ga,1,none⟩=some (.int .i64 a.1.row):=KA3.out.cell 1
  go_wp2_with fail
  refine (zgu a.1.col a.1.row _).mono ?_
  rintro u w8 ⟨rfl,hb⟩
  have HB8:=Hd (show Below w.heap.size w w8 from Below.next HB3.out hb HB3.out.size)
  have KZ8:=Hd (KZ3.out.below_ hb)
  clear hb
  obtain ⟨q0,q1,q2,q3,q4,q5,q6,q7,qf⟩:=zac KZ8.out
  go_wp2_with fail
  refine bodyPost_ret (v:=.tuple #[.agg (cTok ⟨5,0,[],⟨a.1.col,a.1.row,a.1.col,a.1.row⟩,i⟩).toArray,.int .i64 (W.length:Nat)]) (by simp (maxDischargeDepth:=9) [results,results248,go_sem,q0,q1,q2,q3,q4,q5,q6,q7,cTok]) rfl ?_
  rw [HE.out]
  exact ⟨rfl,zal HB8.out (Nat.le_refl _) _ _ _ _ _ _ _ _⟩
 have HL2:=Hd hl2
 rw [hl2]
 clear hl2 h58 hu1
 go_wp2_with fail
 refine (zix g s _ (i+W.length+1) _ (by omega) hs (by omega) HG3.out).mono ?_
 rintro u w4 ⟨rfl,hb⟩
 have HB4:=Hd (show Below w.heap.size w w4 from Below.next HB3.out hb HB3.out.size)
 have HG4:=Hd (HG3.out.below_ hb)
 have KZ4:=Hd (KZ3.out.below_ hb)
 have KA4:=Hd (KA3.out.below_ hb)
 clear hb
 have hpl:=zir s (i+W.length+1)
 have hpa:=zfj alnB s (i+W.length+1)
 obtain ⟨V,hV⟩:∃V,zaf s (i+W.length+1)=V:=⟨_,rfl⟩
 rw [hV] at hpl HE2 ⊢
 have HV:=Hd hV
 clear hV
 have hvl:V.length≤1000000:=by omega
 have hv1:(i:Int)+(W.length:Int)+1+(V.length:Int)≤(s.length:Int):=by omega
 clear hpl hpa
 go_wp2_with fail
 refine (zh8 V _ hvl).mono ?_
 rintro u w5 ⟨rfl,hb⟩
 have HB5:=Hd (show Below w.heap.size w w5 from Below.next HB4.out hb HB4.out.size)
 have HG5:=Hd (HG4.out.below_ hb)
 have KZ5:=Hd (KZ4.out.below_ hb)
 have KA5:=Hd (KA4.out.below_ hb)
 clear hb
 obtain ⟨b,hbb⟩:∃b,parA V=b:=⟨_,rfl⟩
 rw [hbb] at HE2 ⊢
 have HBB:=Hd hbb
 clear hbb
 have hB6:=HB5.out.alloc HB5.out.size (.cells #[.int .i64 b.1.col,.int .i64 b.1.row] 56)
 have hG6:=HG5.out.alloc (.cells #[.int .i64 b.1.col,.int .i64 b.1.row] 56)
 have hK6:=KZ5.out.alloc (.cells #[.int .i64 b.1.col,.int .i64 b.1.row] 56)
 have hA6:=KA5.out.alloc (.cells #[.int .i64 b.1.col,.int .i64 b.1.row] 56)
 have hC6:=Blk.new w5 56 #[.int .i64 b.1.col,.int .i64 b.1.row]
 go_upto_region 18 with (fail)
 obtain ⟨W6,hW6⟩:∃W6,w5.alloc (.cells #[.int .i64 b.1.col,.int .i64 b.1.row] 56)=W6:=⟨_,rfl⟩
 obtain ⟨gc,hgc⟩:∃gc,w5.heap.size=gc:=⟨_,rfl⟩
 rw [hW6] at hB6 hG6 hK6 hA6 hC6 ⊢
 rw [hgc] at hC6 ⊢
 have HB6:=Hd hB6
 have HG6:=Hd hG6
 have KZ6:=Hd (show TokZ W6 w.heap.size from hK6)
 have KA6:=Hd hA6
 have KC6:=Hd hC6
 clear hW6 hgc hB6 hG6 hK6 hA6 hC6
 have x0:W6.cell? ⟨ga,0,none⟩=some (.int .i64 a.1.col):=KA6.out.cell 0
 have x1:W6.cell? ⟨ga,1,none⟩=some (.int .i64 a.1.row):=KA6.out.cell 1
 have y0:W6.cell? ⟨gc,0,none⟩=some (.int .i64 b.1.col):=KC6.out.cell 0
 have y1:W6.cell? ⟨gc,1,none⟩=some (.int .i64 b.1.row):=KC6.out.cell 1
 obtain ⟨q0,q1,q2,q3,q4,q5,q6,q7,qf⟩:=zac KZ6.out
 by_cases hbe:b.2=0
 rotate_left
 ·have hbe2:(b.2==0)=false:=by simpa using hbe
  have HE:=Hd (show zbj s i=(⟨5,0,[],⟨a.1.col,a.1.row,a.1.col,a.1.row⟩,i⟩,W.length) by
   rw [HE2.out,if_neg]
   unfold twoB
   rw [HV.out,HBB.out]
   simp [hbe])
  clear q0 q1 q2 q3 q4 q5 q6 q7 qf
  go_wp2_with fail
  refine (zgu a.1.col a.1.row _).mono ?_
  rintro u w8 ⟨rfl,hb⟩
  have HB8:=Hd (show Below w.heap.size w w8 from Below.next HB6.out hb HB6.out.size)
  have KZ8:=Hd (KZ6.out.below_ hb)
  clear hb
  obtain ⟨q0,q1,q2,q3,q4,q5,q6,q7,qf⟩:=zac KZ8.out
  go_wp2_with fail
  refine bodyPost_ret (v:=.tuple #[.agg (cTok ⟨5,0,[],⟨a.1.col,a.1.row,a.1.col,a.1.row⟩,i⟩).toArray,.int .i64 (W.length:Nat)]) (by simp (maxDischargeDepth:=9) [results,results248,go_sem,q0,q1,q2,q3,q4,q5,q6,q7,cTok]) rfl ?_
  rw [HE.out]
  exact ⟨rfl,zal HB8.out (Nat.le_refl _) _ _ _ _ _ _ _ _⟩
 have hbe2:(b.2==0)=true:=by simpa using hbe
 go_wp2_with fail
 refine (zfu g s _ (i+W.length+1+V.length) _ (by omega) HG6.out).mono ?_
 rintro u w6 ⟨rfl,rfl⟩
 have hu2:=zxn s (i+W.length+1+V.length)
 by_cases h40b:ub s (i+W.length+1+V.length)=40
 ·have HE:=Hd (show zbj s i=(⟨5,0,[],⟨a.1.col,a.1.row,a.1.col,a.1.row⟩,i⟩,W.length) by
   rw [HE2.out,if_neg]
   unfold twoB
   rw [HV.out,h40b]
   simp)
  have hn40:((ub s (i+W.length+1+V.length):Int) != 40)=false:=by rw [h40b];rfl
  clear q0 q1 q2 q3 q4 q5 q6 q7 qf
  go_wp2_with fail
  refine (zgu a.1.col a.1.row _).mono ?_
  rintro u w8 ⟨rfl,hb⟩
  have HB8:=Hd (show Below w.heap.size w w8 from Below.next HB6.out hb HB6.out.size)
  have KZ8:=Hd (KZ6.out.below_ hb)
  clear hb
  obtain ⟨q0,q1,q2,q3,q4,q5,q6,q7,qf⟩:=zac KZ8.out
  go_wp2_with fail
  refine bodyPost_ret (v:=.tuple #[.agg (cTok ⟨5,0,[],⟨a.1.col,a.1.row,a.1.col,a.1.row⟩,i⟩).toArray,.int .i64 (W.length:Nat)]) (by simp (maxDischargeDepth:=9) [results,results248,go_sem,q0,q1,q2,q3,q4,q5,q6,q7,cTok]) rfl ?_
  rw [HE.out]
  exact ⟨rfl,zal HB8.out (Nat.le_refl _) _ _ _ _ _ _ _ _⟩
 have hn40:((ub s (i+W.length+1+V.length):Int) != 40)=true:=by simp only [bne_iff_ne,ne_eq];omega
 have HE:=Hd (show zbj s i=(⟨if a.1=b.1 then 5 else 6,0,[],zlk a.1 b.1,i⟩,W.length+1+V.length) by
  rw [HE2.out,if_pos]
  unfold twoB
  rw [HV.out,HD58.out,HL2.out,HBB.out,hbe]
  simp [h40b])
 clear h40b hu2
 have hmn:∀x y:Int,(if y<x then y else x)=min x y:=fun x y=>by split <;> omega
 have hmx:∀x y:Int,(if x<y then y else x)=max x y:=fun x y=>by split <;> omega
 go_upto_region 20 with (fail)
 clear hmn hmx q0 q1 q2 q3 q4 q5 q6 q7 qf
 obtain ⟨mm,hmm⟩:∃mm:Rct,mm=zlk a.1 b.1:=⟨_,rfl⟩
 have hB7:=HB6.out.alloc HB6.out.size (.cells #[.int .i64 (min a.1.col b.1.col),.int .i64 (min a.1.row b.1.row),.int .i64 (max a.1.col b.1.col),.int .i64 (max a.1.row b.1.row)] 43)
 have hK7:=KZ6.out.alloc (.cells #[.int .i64 (min a.1.col b.1.col),.int .i64 (min a.1.row b.1.row),.int .i64 (max a.1.col b.1.col),.int .i64 (max a.1.row b.1.row)] 43)
 have hA7:=KA6.out.alloc (.cells #[.int .i64 (min a.1.col b.1.col),.int .i64 (min a.1.row b.1.row),.int .i64 (max a.1.col b.1.col),.int .i64 (max a.1.row b.1.row)] 43)
 have hC7:=KC6.out.alloc (.cells #[.int .i64 (min a.1.col b.1.col),.int .i64 (min a.1.row b.1.row),.int .i64 (max a.1.col b.1.col),.int .i64 (max a.1.row b.1.row)] 43)
 have hM7:=Blk.new W6 43 #[.int .i64 (min a.1.col b.1.col),.int .i64 (min a.1.row b.1.row),.int .i64 (max a.1.col b.1.col),.int .i64 (max a.1.row b.1.row)]
 obtain ⟨W7,hW7⟩:∃W7,W6.alloc (.cells #[.int .i64 (min a.1.col b.1.col),.int .i64 (min a.1.row b.1.row),.int .i64 (max a.1.col b.1.col),.int .i64 (max a.1.row b.1.row)] 43)=W7:=⟨_,rfl⟩
 obtain ⟨gm,hgm⟩:∃gm,W6.heap.size=gm:=⟨_,rfl⟩
 rw [hW7] at hB7 hK7 hA7 hC7 hM7 ⊢
 rw [hgm] at hM7 ⊢
 have HB7:=Hd hB7
 have KZ7:=Hd (show TokZ W7 w.heap.size from hK7)
 have KM7:=Hd (show Blk W7 gm 43 #[.int .i64 mm.c1,.int .i64 mm.r1,.int .i64 mm.c2,.int .i64 mm.r2] by rw [hmm];exact hM7)
 have x0:W7.cell? ⟨ga,0,none⟩=some (.int .i64 a.1.col):=hA7.cell 0
 have x1:W7.cell? ⟨ga,1,none⟩=some (.int .i64 a.1.row):=hA7.cell 1
 have y0:W7.cell? ⟨gc,0,none⟩=some (.int .i64 b.1.col):=hC7.cell 0
 have y1:W7.cell? ⟨gc,1,none⟩=some (.int .i64 b.1.row):=hC7.cell 1
 have m0:W7.cell? ⟨gm,0,none⟩=some (.int .i64 mm.c1):=KM7.out.cell 0
 have m1:W7.cell? ⟨gm,1,none⟩=some (.int .i64 mm.r1):=KM7.out.cell 1
 have m2:W7.cell? ⟨gm,2,none⟩=some (.int .i64 mm.c2):=KM7.out.cell 2
 have m3:W7.cell? ⟨gm,3,none⟩=some (.int .i64 mm.r2):=KM7.out.cell 3
 have HMM:=Hd hmm
 rw [← hmm] at HE
 clear hW7 hgm hB7 hK7 hA7 hC7 hM7 hmm
 obtain ⟨q0,q1,q2,q3,q4,q5,q6,q7,qf⟩:=zac KZ7.out
 have heq:∀W,(binOp .eql 56 (.agg #[.int .i64 a.1.col,.int .i64 a.1.row]) (.agg #[.int .i64 b.1.col,.int .i64 b.1.row])).run prog W=.ok (.bool (decide (a.1=b.1))) W:=zv9 a.1 b.1
 by_cases hab:a.1=b.1
 ·have HE':=Hd (show zbj s i=(⟨5,0,[],mm,i⟩,W.length+1+V.length) by rw [HE.out,if_pos hab])
  have HE:=HE'
  have hd:decide (a.1=b.1)=true:=by simpa using hab
  rw [hd] at heq
  clear hab hd HE'
  go_wp2_with fail
  refine bodyPost_ret (v:=.tuple #[.agg (cTok ⟨5,0,[],mm,i⟩).toArray,.int .i64 (W.length+1+V.length:Nat)]) (by simp (maxDischargeDepth:=9) [results,results248,go_sem,q0,q1,q2,q3,q4,q5,q6,q7,cTok]) rfl ?_
  rw [HE.out]
  exact ⟨rfl,zal HB7.out (Nat.le_refl _) _ _ _ _ _ _ _ _⟩
 have HE':=Hd (show zbj s i=(⟨6,0,[],mm,i⟩,W.length+1+V.length) by rw [HE.out,if_neg hab])
 have HE:=HE'
 have hd:decide (a.1=b.1)=false:=by simpa using hab
 rw [hd] at heq
 clear hab hd HE'
 go_wp2_with fail
 refine bodyPost_ret (v:=.tuple #[.agg (cTok ⟨6,0,[],mm,i⟩).toArray,.int .i64 (W.length+1+V.length:Nat)]) (by simp (maxDischargeDepth:=9) [results,results248,go_sem,q0,q1,q2,q3,q4,q5,q6,q7,cTok]) rfl ?_
 rw [HE.out]
 exact ⟨rfl,zal HB7.out (Nat.le_refl _) _ _ _ _ _ _ _ _⟩
end Go.Proofs.YtamcgggmfghljaaGreatDoor
