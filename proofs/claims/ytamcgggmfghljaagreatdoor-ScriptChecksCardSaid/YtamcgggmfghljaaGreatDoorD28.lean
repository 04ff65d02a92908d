/- Layer 7 (reference): the token of a word. -/
import Derived.Test.YtamcgggmfghljaaGreatDoorD27
set_option maxRecDepth 100000
set_option maxHeartbeats 8000000
open Go.Proofs.Tryz
namespace Go.Proofs.YtamcgggmfghljaaGreatDoor
open Go.RowKit
theorem zxq (s:zaa) (p:Nat) (h:ub s p=58):twoB s p=(adrS s (p+1)).2.2:=by
 unfold twoB adrS
 rw [decide_eq_true h,Bool.true_and]
 cases letB (s.getD (p+1) 0)
 ·rfl
 rw [if_neg (by decide),Bool.true_and]
theorem zzi {s:zaa} {i:Nat} (h:letB (s.getD i 0)=true):adrS s i=((parA (zaf s i)).1,i+(zaf s i).length,decide ((parA (zaf s i)).2=0)&&decide (ub s (i+(zaf s i).length)≠40)):=by
 unfold adrS
 rw [if_neg (by rw [h];decide)]
theorem zzh {s:zaa} {i:Nat} (h:(adrS s i).2.2=true):(adrS s i).1=(parA (zaf s i)).1∧(adrS s i).2.1=i+(zaf s i).length:=by
 unfold adrS at h ⊢
 split
 ·rename_i hl;rw [if_pos hl] at h;cases h
 exact ⟨rfl,rfl⟩
abbrev tokW (k:Int) (a b c d:Int) (i:Nat):Array Value:=#[.int .u8 k,.int .i64 0,str [],.int .i64 a,.int .i64 b,.int .i64 c,.int .i64 d,.int .i64 i]
theorem zuh (s:zaa) (i:Nat) (w:World) (hs:s.length≤1000) (hi:i<s.length) (hl:letB (s.getD i 0)=true):
 Calls prog 315 #[str s,.int .i64 i] w fun u w'=>TokR i (zbj s i) u∧Below w.heap.size w w':=by
 have hi0:(0:Int)≤(i:Int):=Int.natCast_nonneg _
 have hlim:=ze6 alnB s i
 have HLN:=Hd (zhj s i)
 have HW:=Hd (zhf s i · (by omega) (by omega))
 have HWS:Hid (zbj s i=if ub s (i+lenB alnB s i)=40 then (⟨7,0,zaf s i,z4,i⟩,lenB alnB s i)
  else if zaf s i=ztu then (⟨3,1,[],z4,i⟩,lenB alnB s i)
  else if zaf s i=zn6 then (⟨3,0,[],z4,i⟩,lenB alnB s i)
  else if (parA (zaf s i)).2≠0 then (tok0,0)
  else if twoB s (i+lenB alnB s i) then
   (⟨if (parA (zaf s i)).1=(parA (zaf s (i+lenB alnB s i+1))).1 then 5 else 6,0,[],zlk (parA (zaf s i)).1 (parA (zaf s (i+lenB alnB s i+1))).1,i⟩,lenB alnB s i+1+(zaf s (i+lenB alnB s i+1)).length)
  else (⟨5,0,[],⟨(parA (zaf s i)).1.col,(parA (zaf s i)).1.row,(parA (zaf s i)).1.col,(parA (zaf s i)).1.row⟩,i⟩,lenB alnB s i)):=Hd (by
  unfold zbj
  rw [if_neg (by rw [hl];decide),zhj])
 have HAD:=Hd (zzi hl)
 have HRA:=Hd (zhg s i · hs (by omega))
 rw [HLN.out] at HAD
 have HPOS:=Hd (show 0<lenB alnB s i by
  rw [zda alnB s i hi,if_pos (by unfold alnB;rw [hl];rfl)]
  omega)
 have HUP:=Hd (zfo ((s.drop i).take (lenB alnB s i)) · (by simp;omega))
 rw [show ((s.drop i).take (lenB alnB s i)).map upU=zaf s i from rfl] at HUP
 have HE:=Hd (zcs s i (lenB alnB s i))
 generalize lenB alnB s i=n at *
 generalize zaf s i=P at *
 obtain ⟨⟨⟨pc,pr⟩,pe⟩,hpq⟩:∃r,parA P=r:=⟨_,rfl⟩
 rw [hpq] at HWS HAD
 clear hpq hl HLN
 have hic:((i+n:Nat):Int)=(i:Int)+(n:Int):=by omega
 rw [hic] at HW
 have hn0:(i:Int)≤(i:Int)+(n:Int):=by omega
 have hn1:(i:Int)+(n:Int)≤(s.length:Int):=by omega
 have ht0:(0:Int)≤(i:Int)+(n:Int):=by omega
 have htn:((i:Int)+(n:Int)).toNat=i+n:=by omega
 clear hic
 have KZ:=Hd (show TokZ (w.alloc (.cells #[.int .u8 0,.int .i64 0,.string ⟨#[]⟩,.int .i64 0,.int .i64 0,.int .i64 0,.int .i64 0,.int .i64 0] 239)) w.heap.size from Blk.new w _ _)
 have HB0:=Hd (show Below w.heap.size w (w.alloc (.cells #[.int .u8 0,.int .i64 0,.string ⟨#[]⟩,.int .i64 0,.int .i64 0,.int .i64 0,.int .i64 0,.int .i64 0] 239)) by go_grown)
 have HX:=Hd (fun h=>za2 s (i+n) h)
 have HU:=Hd (fun c (h:s.getD (i+n) 0=c)=>zkl s (i+n) h)
 have HGD:Hid (∀v:Nat,v≠0→(ub s (i+n)=v↔i+n<s.length∧(s.getD (i+n) 0).toNat=v)):=Hd (fun v hv=>by
  constructor
  ·intro h
   refine ⟨?_,by rw [← h];rfl⟩
   rw [← Nat.not_le]
   intro q
   unfold ub at h
   rw [zdc s (i+n) q] at h
   exact hv h.symm
  rintro ⟨_,h⟩
  rw [← h];rfl)
 go_enter func315,ntmps315
 go_wp2_with fail
 refine (HW.out _).mono ?_
 rintro u w1 ⟨rfl,rfl⟩
 go_wp2_with fail
 rw [HE.out]
 refine (HUP.out _).mono ?_
 rintro u w2 ⟨rfl,hb2⟩
 have Z2:=Hd (show TokZ w2 w.heap.size from Blk.below_ KZ.out hb2)
 have HB2:=Hd (Below.next HB0.out hb2 HB0.out.size)
 clear hb2 HE
 go_upto_region 3 with (fail)
 go_cut [33] from 24 (fun v wx=>v=.bool (decide (ub s (i+n)=40))∧wx=w2)
 case first=>
  by_cases hlt:i+n<s.length
  ·have hlt1:(i:Int)+(n:Int)<(s.length:Int):=by omega
   have hx:=HX.out (by rw [zad];exact hlt)
   have hu:=HU.out _ rfl
   generalize s.getD (i+n) 0=c at *
   have HR:=Hd (show ((c.toNat:Int)==40)=decide (ub s (i+n)=40) by rw [hu,Bool.eq_iff_iff];simp only [beq_iff_eq,decide_eq_true_eq];omega)
   clear hu
   go_wp2
   go_meet
   case rel=>exact ⟨congrArg Value.bool HR.out,rfl⟩
  have hlt1:¬(i:Int)+(n:Int)<(s.length:Int):=by omega
  have HR:=Hd (show false=decide (ub s (i+n)=40) by rw [decide_eq_false];exact fun h=>hlt ((HGD.out 40 (by decide)).1 h).1)
  go_wp2
  go_meet
  case rel=>exact ⟨congrArg Value.bool HR.out,rfl⟩
 obtain ⟨rfl,rfl⟩:=hcut
 obtain ⟨q0,q1,q2,q3,q4,q5,q6,q7,qf⟩:=zac Z2.out
 by_cases h40:ub s (i+n)=40
 ·rw [decide_eq_true h40]
  have HR:=Hd (HWS.out.trans (if_pos h40))
  clear h40
  go_wp2
  refine bodyPost_ret (v:=.tuple #[.agg (cTok ⟨7,0,P,z4,i⟩).toArray,.int .i64 ((i:Int)+(n:Int)),.bool true]) (by simp (maxDischargeDepth:=9) [results,results315,go_sem,q0,q1,q2,q3,q4,q5,q6,q7,cTok,z4]) rfl ?_
  exact ⟨TokR.yes ⟨7,0,P,z4,i⟩ _ (by rw [HR.out];exact HPOS.out) (by rw [HR.out];exact ⟨rfl,rfl⟩) rfl,zal HB2.out (Nat.le_refl _) _ _ _ _ _ _ _ _⟩
 rw [decide_eq_false h40]
 have HW2:=Hd (HWS.out.trans (if_neg h40))
 rw [decide_eq_true h40,Bool.and_true] at HAD
 clear HWS h40
 by_cases hpt:P=[84,82,85,69]
 ·have bt:(P== [84,82,85,69])=true:=by simpa using hpt
  have HR:=Hd (HW2.out.trans (if_pos hpt))
  clear hpt
  go_wp2
  refine bodyPost_ret (v:=.tuple #[.agg (cTok ⟨3,1,[],z4,i⟩).toArray,.int .i64 ((i:Int)+(n:Int)),.bool true]) (by simp (maxDischargeDepth:=9) [results,results315,go_sem,q0,q1,q2,q3,q4,q5,q6,q7,cTok,z4]) rfl ?_
  exact ⟨TokR.yes ⟨3,1,[],z4,i⟩ _ (by rw [HR.out];exact HPOS.out) (by rw [HR.out];exact ⟨rfl,rfl⟩) rfl,zal HB2.out (Nat.le_refl _) _ _ _ _ _ _ _ _⟩
 have bt:(P== [84,82,85,69])=false:=by simpa using hpt
 have HW3:=Hd (HW2.out.trans (if_neg hpt))
 clear hpt HW2
 by_cases hpf:P=[70,65,76,83,69]
 ·have bf:(P== [70,65,76,83,69])=true:=by simpa using hpf
  have HR:=Hd (HW3.out.trans (if_pos hpf))
  clear hpf
  go_wp2
  refine bodyPost_ret (v:=.tuple #[.agg (cTok ⟨3,0,[],z4,i⟩).toArray,.int .i64 ((i:Int)+(n:Int)),.bool true]) (by simp (maxDischargeDepth:=9) [results,results315,go_sem,q0,q1,q2,q3,q4,q5,q6,q7,cTok,z4]) rfl ?_
  exact ⟨TokR.yes ⟨3,0,[],z4,i⟩ _ (by rw [HR.out];exact HPOS.out) (by rw [HR.out];exact ⟨rfl,rfl⟩) rfl,zal HB2.out (Nat.le_refl _) _ _ _ _ _ _ _ _⟩
 have bf:(P== [70,65,76,83,69])=false:=by simpa using hpf
 have HW4:=Hd (HW3.out.trans (if_neg hpf))
 clear hpf HW3
 rw [HAD.out] at HRA
 go_wp2_with fail
 refine (HRA.out _).mono ?_
 rintro u w3 ⟨rfl,hb3⟩
 dsimp only
 clear q0 q1 q2 q3 q4 q5 q6 q7 qf
 have Z3:=Hd (show TokZ w3 w.heap.size from Blk.below_ Z2.out hb3)
 have HB3:=Hd (Below.next HB2.out hb3 HB2.out.size)
 clear hb3
 by_cases he:pe=0
 rotate_left
 ·rw [decide_eq_false he]
  have HR:=Hd (HW4.out.trans (if_pos he))
  obtain ⟨q0,q1,q2,q3,q4,q5,q6,q7,qf⟩:=zac Z3.out
  have HB4:=Hd (show Below w.heap.size w (w3.alloc (.cells #[.int .i64 pc,.int .i64 pr] 56)) from HB3.out.alloc HB3.out.size _)
  have Z4:=Hd (show TokZ (w3.alloc (.cells #[.int .i64 pc,.int .i64 pr] 56)) w.heap.size from Z3.out.alloc _)
  clear he q0 q1 q2 q3 q4 q5 q6 q7 qf
  go_upto_region 10 with (fail)
  obtain ⟨V,hV⟩:∃V,w3.alloc (.cells #[.int .i64 pc,.int .i64 pr] 56)=V:=⟨_,rfl⟩
  rw [hV] at HB4 Z4 ⊢
  clear hV
  obtain ⟨q0,q1,q2,q3,q4,q5,q6,q7,qf⟩:=zac Z4.out
  go_wp2
  refine bodyPost_ret (v:=.tuple #[.agg (cTok ⟨0,0,[],z4,0⟩).toArray,.int .i64 0,.bool false]) (by simp (maxDischargeDepth:=9) [results,results315,go_sem,q0,q1,q2,q3,q4,q5,q6,q7,cTok,z4]) rfl ?_
  exact ⟨TokR.no _ _ (by rw [HR.out]) rfl,zal HB4.out (Nat.le_refl _) _ _ _ _ _ _ _ _⟩
 rw [decide_eq_true he]
 have HW5:=Hd (HW4.out.trans (if_neg (fun h=>h he)))
 clear he HW4 HAD HRA
 have KA:=Hd (Blk.new w3 56 #[.int .i64 pc,.int .i64 pr])
 have Z4:=Hd (show TokZ (w3.alloc (.cells #[.int .i64 pc,.int .i64 pr] 56)) w.heap.size from Z3.out.alloc _)
 have HB4:=Hd (show Below w.heap.size w (w3.alloc (.cells #[.int .i64 pc,.int .i64 pr] 56)) from HB3.out.alloc HB3.out.size _)
 go_wp2_with fail
 refine (zya pc pr _).mono ?_
 rintro u w5 ⟨rfl,hb5⟩
 have KA5:=Hd (KA.out.below_ hb5)
 have Z5:=Hd (show TokZ w5 w.heap.size from Blk.below_ Z4.out hb5)
 have HB5:=Hd (Below.next HB4.out hb5 HB4.out.size)
 clear hb5
 have KT:=Hd (Blk.new w5 239 (tokW 5 pc pr pc pr i))
 have KA6:=Hd (show Blk (w5.alloc (.cells (tokW 5 pc pr pc pr i) 239)) w3.heap.size 56 #[.int .i64 pc,.int .i64 pr] from KA5.out.alloc _)
 have Z6:=Hd (show TokZ (w5.alloc (.cells (tokW 5 pc pr pc pr i) 239)) w.heap.size from Z5.out.alloc _)
 have HB6:=Hd (show Below w.heap.size w (w5.alloc (.cells (tokW 5 pc pr pc pr i) 239)) from HB5.out.alloc HB5.out.size _)
 have HS6:=Hd (show w.heap.size<w3.heap.size∧w3.heap.size<w5.heap.size from ⟨Z3.out.lt,KA5.out.lt⟩)
 go_upto_region 13 with (fail)
 obtain ⟨ga,hga⟩:∃g,g=w3.heap.size:=⟨_,rfl⟩
 obtain ⟨gt,hgt⟩:∃g,g=w5.heap.size:=⟨_,rfl⟩
 obtain ⟨V,hV⟩:∃V,w5.alloc (.cells #[.int .u8 5,.int .i64 0,str [],.int .i64 pc,.int .i64 pr,.int .i64 pc,.int .i64 pr,.int .i64 i] 239)=V:=⟨_,rfl⟩
 rw [show tokW 5 pc pr pc pr i=#[.int .u8 5,.int .i64 0,str [],.int .i64 pc,.int .i64 pr,.int .i64 pc,.int .i64 pr,.int .i64 i] from rfl] at KT KA6 Z6 HB6
 rw [hV] at KT KA6 Z6 HB6 ⊢
 rw [← hgt] at KT HS6 ⊢
 rw [← hga] at KA6 HS6 ⊢
 clear hV hga hgt KA KA5 Z2 Z3 Z4 Z5 HB2 HB3 HB4 HB5
 go_cut [71] from 62 (fun v wx=>v=.bool (decide (ub s (i+n)=58))∧wx=V)
 case first=>
  by_cases hlt:i+n<s.length
  ·have hlt1:(i:Int)+(n:Int)<(s.length:Int):=by omega
   have hx:=HX.out (by rw [zad];exact hlt)
   have hu:=HU.out _ rfl
   generalize s.getD (i+n) 0=c at *
   have HR:=Hd (show ((c.toNat:Int)==58)=decide (ub s (i+n)=58) by rw [hu,Bool.eq_iff_iff];simp only [beq_iff_eq,decide_eq_true_eq];omega)
   clear hu
   go_wp2
   go_meet
   case rel=>exact ⟨congrArg Value.bool HR.out,rfl⟩
  have hlt1:¬(i:Int)+(n:Int)<(s.length:Int):=by omega
  have HR:=Hd (show false=decide (ub s (i+n)=58) by rw [decide_eq_false];exact fun h=>hlt ((HGD.out 58 (by decide)).1 h).1)
  go_wp2
  go_meet
  case rel=>exact ⟨congrArg Value.bool HR.out,rfl⟩
 obtain ⟨rfl,rfl⟩:=hcut
 have HQ:=Hd (show twoB s (i+n)=true→ub s (i+n)=58 from fun h=>by
  unfold twoB at h
  simp only [Bool.and_eq_true,decide_eq_true_eq] at h
  exact h.1.1.1)
 have HT2:=Hd (zxq s (i+n))
 go_upto_if 71 with (fail)
 go_cut [13,14,15] from 71 (fun _ _ _ wx=>twoB s (i+n)=false∧Blk wx gt 239 #[.int .u8 5,.int .i64 0,str [],.int .i64 pc,.int .i64 pr,.int .i64 pc,.int .i64 pr,.int .i64 i]∧TokZ wx w.heap.size∧Below w.heap.size w wx)
 case first=>
  by_cases h58:ub s (i+n)=58
  rotate_left
  ·rw [decide_eq_false h58]
   have HF:=Hd (show twoB s (i+n)=false by cases h:twoB s (i+n);rfl;exact absurd (HQ.out h) h58)
   clear h58
   go_wp2
   go_meet
   case rel=>exact ⟨HF.out,KT.out,Z6.out,HB6.out⟩
  rw [decide_eq_true h58]
  have hlt:=((HGD.out 58 (by decide)).1 h58).1
  have HRA2:=Hd (zhg s (i+n+1) · hs (by omega))
  have HAY:=Hd (@zzh s (i+n+1))
  have HT3:=Hd (HT2.out h58)
  rw [show ((i+n+1:Nat):Int)=(i:Int)+(n:Int)+1 by omega] at HRA2
  obtain ⟨⟨⟨bc,br⟩,lst,ok2⟩,hA2⟩:∃r,adrS s (i+n+1)=r:=⟨_,rfl⟩
  rw [hA2] at HRA2 HAY HT3
  clear hA2 h58
  have hl1:(i:Int)+(n:Int)+1≤1000:=by omega
  go_wp2_with fail
  refine (HRA2.out _).mono ?_
  rintro u w7 ⟨rfl,hb7⟩
  dsimp only
  have KA7:=Hd ((KA6.out.below_ hb7).alloc (.cells #[.int .i64 bc,.int .i64 br] 56))
  have KT7:=Hd ((KT.out.below_ hb7).alloc (.cells #[.int .i64 bc,.int .i64 br] 56))
  have Z7:=Hd (show TokZ (w7.alloc (.cells #[.int .i64 bc,.int .i64 br] 56)) w.heap.size from (Blk.below_ Z6.out hb7).alloc _)
  have KB7:=Hd (Blk.new w7 56 #[.int .i64 bc,.int .i64 br])
  have HB7:=Hd (show Below w.heap.size w (w7.alloc (.cells #[.int .i64 bc,.int .i64 br] 56)) from Below.alloc (Below.next HB6.out hb7 HB6.out.size) (Nat.le_trans HB6.out.size hb7.size) _)
  have HS7:=Hd (show gt<w7.heap.size from Nat.lt_of_lt_of_le KT.out.lt hb7.size)
  clear hb7
  go_upto_if 80 with (fail)
  obtain ⟨gb,hgb⟩:∃g,g=w7.heap.size:=⟨_,rfl⟩
  obtain ⟨V7,hV⟩:∃V,w7.alloc (.cells #[.int .i64 bc,.int .i64 br] 56)=V:=⟨_,rfl⟩
  rw [hV] at KA7 KT7 Z7 KB7 HB7 ⊢
  rw [← hgb] at KB7 HS7 ⊢
  clear hV hgb
  cases ok2 with
  | false=>
   go_wp2
   go_meet
   case rel=>exact ⟨HT3.out,KT7.out,Z7.out,HB7.out⟩
  | true=>
   have HA3:=Hd (HAY.out rfl)
   have HR1:=Hd (HW5.out.trans (if_pos HT3.out))
   have HLST:=Hd (show lst=i+n+1+(zaf s (i+n+1)).length from HA3.out.2)
   rw [show (parA (zaf s (i+n+1))).1=(⟨bc,br⟩:Ref) from HA3.out.1.symm] at HR1
   have a0:V7.cell? ⟨ga,0,none⟩=some (.int .i64 pc):=KA7.out.cell 0
   have a1:V7.cell? ⟨ga,1,none⟩=some (.int .i64 pr):=KA7.out.cell 1
   have b0:V7.cell? ⟨gb,0,none⟩=some (.int .i64 bc):=KB7.out.cell 0
   have b1:V7.cell? ⟨gb,1,none⟩=some (.int .i64 br):=KB7.out.cell 1
   have hmin:∀x y:Int,(if y<x then y else x)=min x y:=fun x y=>by split <;> omega
   have hmax:∀x y:Int,(if x<y then y else x)=max x y:=fun x y=>by split <;> omega
   have t3:V7.cell? ⟨gt,3,none⟩=some (.int .i64 pc):=KT7.out.cell 3
   have t4:V7.cell? ⟨gt,4,none⟩=some (.int .i64 pr):=KT7.out.cell 4
   have t5:V7.cell? ⟨gt,5,none⟩=some (.int .i64 pc):=KT7.out.cell 5
   have t6:V7.cell? ⟨gt,6,none⟩=some (.int .i64 pr):=KT7.out.cell 6
   have tf:=fun o=>KT7.out.frozen o
   have hgw2:w.heap.size≠gt:=by have:=HS6.out;omega
   have hga:ga≠gt:=by have:=HS6.out;omega
   have hgb:gb≠gt:=by have:=HS7.out;omega
   go_upto_region 17 with (fail)
   have KA8:=Hd (Blk.far (p:=⟨gt,6,none⟩) (Blk.far (p:=⟨gt,5,none⟩) (Blk.far (p:=⟨gt,4,none⟩) (Blk.far (p:=⟨gt,3,none⟩) KA7.out hga (.int .i64 (min pc bc))) hga (.int .i64 (min pr br))) hga (.int .i64 (max pc bc))) hga (.int .i64 (max pr br)))
   have KB8:=Hd (Blk.far (p:=⟨gt,6,none⟩) (Blk.far (p:=⟨gt,5,none⟩) (Blk.far (p:=⟨gt,4,none⟩) (Blk.far (p:=⟨gt,3,none⟩) KB7.out hgb (.int .i64 (min pc bc))) hgb (.int .i64 (min pr br))) hgb (.int .i64 (max pc bc))) hgb (.int .i64 (max pr br)))
   have Z8:=Hd (show TokZ ((((V7.setCell ⟨gt,3,none⟩ (.int .i64 (min pc bc))).setCell ⟨gt,4,none⟩ (.int .i64 (min pr br))).setCell ⟨gt,5,none⟩ (.int .i64 (max pc bc))).setCell ⟨gt,6,none⟩ (.int .i64 (max pr br))) w.heap.size from (Blk.far (p:=⟨gt,6,none⟩) (Blk.far (p:=⟨gt,5,none⟩) (Blk.far (p:=⟨gt,4,none⟩) (Blk.far (p:=⟨gt,3,none⟩) Z7.out hgw2 (.int .i64 (min pc bc))) hgw2 (.int .i64 (min pr br))) hgw2 (.int .i64 (max pc bc))) hgw2 (.int .i64 (max pr br))))
   have HB8:=Hd (Below.setCell (Below.setCell (Below.setCell (Below.setCell HB7.out (p:=⟨gt,3,none⟩) (Nat.le_of_lt (Nat.lt_trans HS6.out.1 HS6.out.2)) (.int .i64 (min pc bc))) (p:=⟨gt,4,none⟩) (Nat.le_of_lt (Nat.lt_trans HS6.out.1 HS6.out.2)) (.int .i64 (min pr br))) (p:=⟨gt,5,none⟩) (Nat.le_of_lt (Nat.lt_trans HS6.out.1 HS6.out.2)) (.int .i64 (max pc bc))) (p:=⟨gt,6,none⟩) (Nat.le_of_lt (Nat.lt_trans HS6.out.1 HS6.out.2)) (.int .i64 (max pr br)))
   have KT8:=Hd (Blk.eqv (cs':=#[.int .u8 5,.int .i64 0,str [],.int .i64 (min pc bc),.int .i64 (min pr br),.int .i64 (max pc bc),.int .i64 (max pr br),.int .i64 i]) (Blk.set_ (Blk.set_ (Blk.set_ (Blk.set_ KT7.out 3 (.int .i64 (min pc bc))) 4 (.int .i64 (min pr br))) 5 (.int .i64 (max pc bc))) 6 (.int .i64 (max pr br))) rfl)
   obtain ⟨V8,hV8⟩:∃V,((((V7.setCell ⟨gt,3,none⟩ (.int .i64 (min pc bc))).setCell ⟨gt,4,none⟩ (.int .i64 (min pr br))).setCell ⟨gt,5,none⟩ (.int .i64 (max pc bc))).setCell ⟨gt,6,none⟩ (.int .i64 (max pr br)))=V:=⟨_,rfl⟩
   rw [hV8] at KA8 KB8 Z8 HB8 KT8 ⊢
   clear hV8 t3 t4 t5 t6 tf a0 a1 b0 b1 hmin hmax
   obtain ⟨m0,hm0⟩:∃m,min pc bc=m:=⟨_,rfl⟩
   obtain ⟨m1,hm1⟩:∃m,min pr br=m:=⟨_,rfl⟩
   obtain ⟨m2,hm2⟩:∃m,max pc bc=m:=⟨_,rfl⟩
   obtain ⟨m3,hm3⟩:∃m,max pr br=m:=⟨_,rfl⟩
   have HM:=Hd (show min pc bc=m0∧min pr br=m1∧max pc bc=m2∧max pr br=m3 from ⟨hm0,hm1,hm2,hm3⟩)
   rw [hm0,hm1,hm2,hm3] at KT8
   clear hm0 hm1 hm2 hm3 KA7 KB7 KT7 Z7 HB7 KT KA6 Z6 HB6 HQ HT2
   have a0:V8.cell? ⟨ga,0,none⟩=some (.int .i64 pc):=KA8.out.cell 0
   have a1:V8.cell? ⟨ga,1,none⟩=some (.int .i64 pr):=KA8.out.cell 1
   have b0:V8.cell? ⟨gb,0,none⟩=some (.int .i64 bc):=KB8.out.cell 0
   have b1:V8.cell? ⟨gb,1,none⟩=some (.int .i64 br):=KB8.out.cell 1
   by_cases hab:pc=bc∧pr=br
   ·have hn:∀W,(binOp .neq 56 (.agg #[.int .i64 pc,.int .i64 pr]) (.agg #[.int .i64 bc,.int .i64 br])).run prog W=.ok (.bool false) W:=by intro W;simp [go_sem,hab.1,hab.2]
    have HR2:=Hd (show zbj s i=(⟨5,0,[],⟨m0,m1,m2,m3⟩,i⟩,n+1+(zaf s (i+n+1)).length) by rw [← HM.out.1,← HM.out.2.1,← HM.out.2.2.1,← HM.out.2.2.2,HR1.out,if_pos (by rw [hab.1,hab.2])];rfl)
    clear hab
    clear a0 a1 b0 b1
    have a0:V8.cell? ⟨ga,0,none⟩=some (.int .i64 pc):=KA8.out.cell 0
    have a1:V8.cell? ⟨ga,1,none⟩=some (.int .i64 pr):=KA8.out.cell 1
    have b0:V8.cell? ⟨gb,0,none⟩=some (.int .i64 bc):=KB8.out.cell 0
    have b1:V8.cell? ⟨gb,1,none⟩=some (.int .i64 br):=KB8.out.cell 1
    obtain ⟨q0,q1,q2,q3,q4,q5,q6,q7,qf⟩:=zac Z8.out
    have t0:V8.cell? ⟨gt,0,none⟩=some (.int .u8 5):=KT8.out.cell 0
    have t1:V8.cell? ⟨gt,1,none⟩=some (.int .i64 0):=KT8.out.cell 1
    have t2:V8.cell? ⟨gt,2,none⟩=some (str []):=KT8.out.cell 2
    have t3:V8.cell? ⟨gt,3,none⟩=some (.int .i64 m0):=KT8.out.cell 3
    have t4:V8.cell? ⟨gt,4,none⟩=some (.int .i64 m1):=KT8.out.cell 4
    have t5:V8.cell? ⟨gt,5,none⟩=some (.int .i64 m2):=KT8.out.cell 5
    have t6:V8.cell? ⟨gt,6,none⟩=some (.int .i64 m3):=KT8.out.cell 6
    have t7:V8.cell? ⟨gt,7,none⟩=some (.int .i64 i):=KT8.out.cell 7
    go_wp2
    refine bodyPost_ret (v:=.tuple #[.agg (cTok ⟨5,0,[],⟨m0,m1,m2,m3⟩,i⟩).toArray,.int .i64 (lst:Int),.bool true]) (by simp (maxDischargeDepth:=9) [results,results315,go_sem,q0,q1,q2,q3,q4,q5,q6,q7,cTok]) rfl ?_
    refine ⟨TokR.yes ⟨5,0,[],⟨m0,m1,m2,m3⟩,i⟩ _ (by rw [HR2.out];show 0<n+1+_;omega) (by rw [HR2.out];exact ⟨rfl,by have:=HLST.out;show (lst:Int)=(i:Int)+((n+1+(zaf s (i+n+1)).length:Nat):Int);omega⟩) rfl,?_⟩
    exact zal HB8.out (Nat.le_refl _) _ _ _ _ _ _ _ _
   have hn:∀W,(binOp .neq 56 (.agg #[.int .i64 pc,.int .i64 pr]) (.agg #[.int .i64 bc,.int .i64 br])).run prog W=.ok (.bool true) W:=by
    intro W
    by_cases h1:pc=bc
    ·have h2:¬pr=br:=fun h=>hab ⟨h1,h⟩
     simp [go_sem,h1,h2]
    simp [go_sem,h1]
   have HR2:=Hd (show zbj s i=(⟨6,0,[],⟨m0,m1,m2,m3⟩,i⟩,n+1+(zaf s (i+n+1)).length) by rw [← HM.out.1,← HM.out.2.1,← HM.out.2.2.1,← HM.out.2.2.2,HR1.out,if_neg (fun e=>hab ⟨congrArg Ref.col e,congrArg Ref.row e⟩)];rfl)
   clear hab
   have t0:V8.cell? ⟨gt,0,none⟩=some (.int .u8 5):=KT8.out.cell 0
   have tf:=fun o=>KT8.out.frozen o
   go_upto_region 19 with (fail)
   have KT9:=Hd (Blk.eqv (cs':=#[.int .u8 6,.int .i64 0,str [],.int .i64 m0,.int .i64 m1,.int .i64 m2,.int .i64 m3,.int .i64 i]) (Blk.set_ KT8.out 0 (.int .u8 6)) rfl)
   have Z9:=Hd (show TokZ (V8.setCell ⟨gt,0,none⟩ (.int .u8 6)) w.heap.size from Blk.far (p:=⟨gt,0,none⟩) Z8.out hgw2 _)
   have HB9:=Hd (show Below w.heap.size w (V8.setCell ⟨gt,0,none⟩ (.int .u8 6)) from Below.setCell HB8.out (p:=⟨gt,0,none⟩) (Nat.le_of_lt (Nat.lt_trans HS6.out.1 HS6.out.2)) _)
   obtain ⟨V9,hV9⟩:∃V,V8.setCell ⟨gt,0,none⟩ (.int .u8 6)=V:=⟨_,rfl⟩
   rw [hV9] at KT9 Z9 HB9 ⊢
   clear hV9 t0 tf
   clear a0 a1 b0 b1
   obtain ⟨q0,q1,q2,q3,q4,q5,q6,q7,qf⟩:=zac Z9.out
   have t0:V9.cell? ⟨gt,0,none⟩=some (.int .u8 6):=KT9.out.cell 0
   have t1:V9.cell? ⟨gt,1,none⟩=some (.int .i64 0):=KT9.out.cell 1
   have t2:V9.cell? ⟨gt,2,none⟩=some (str []):=KT9.out.cell 2
   have t3:V9.cell? ⟨gt,3,none⟩=some (.int .i64 m0):=KT9.out.cell 3
   have t4:V9.cell? ⟨gt,4,none⟩=some (.int .i64 m1):=KT9.out.cell 4
   have t5:V9.cell? ⟨gt,5,none⟩=some (.int .i64 m2):=KT9.out.cell 5
   have t6:V9.cell? ⟨gt,6,none⟩=some (.int .i64 m3):=KT9.out.cell 6
   have t7:V9.cell? ⟨gt,7,none⟩=some (.int .i64 i):=KT9.out.cell 7
   go_wp2
   refine bodyPost_ret (v:=.tuple #[.agg (cTok ⟨6,0,[],⟨m0,m1,m2,m3⟩,i⟩).toArray,.int .i64 (lst:Int),.bool true]) (by simp (maxDischargeDepth:=9) [results,results315,go_sem,q0,q1,q2,q3,q4,q5,q6,q7,cTok]) rfl ?_
   refine ⟨TokR.yes ⟨6,0,[],⟨m0,m1,m2,m3⟩,i⟩ _ (by rw [HR2.out];show 0<n+1+_;omega) (by rw [HR2.out];exact ⟨rfl,by have:=HLST.out;show (lst:Int)=(i:Int)+((n+1+(zaf s (i+n+1)).length:Nat):Int);omega⟩) rfl,?_⟩
   exact zal HB9.out (Nat.le_refl _) _ _ _ _ _ _ _ _
 obtain ⟨htw,hkt,hkz,hbw⟩:=hcut
 have HR:=Hd (HW5.out.trans (if_neg (by rw [htw];decide)))
 have HBW:=Hd hbw
 obtain ⟨q0,q1,q2,q3,q4,q5,q6,q7,qf⟩:=zac hkz
 have t0:wc.cell? ⟨gt,0,none⟩=some (.int .u8 5):=hkt.cell 0
 have t1:wc.cell? ⟨gt,1,none⟩=some (.int .i64 0):=hkt.cell 1
 have t2:wc.cell? ⟨gt,2,none⟩=some (str []):=hkt.cell 2
 have t3:wc.cell? ⟨gt,3,none⟩=some (.int .i64 pc):=hkt.cell 3
 have t4:wc.cell? ⟨gt,4,none⟩=some (.int .i64 pr):=hkt.cell 4
 have t5:wc.cell? ⟨gt,5,none⟩=some (.int .i64 pc):=hkt.cell 5
 have t6:wc.cell? ⟨gt,6,none⟩=some (.int .i64 pr):=hkt.cell 6
 have t7:wc.cell? ⟨gt,7,none⟩=some (.int .i64 i):=hkt.cell 7
 clear htw hkt hkz hbw
 go_wp2
 refine bodyPost_ret (v:=.tuple #[.agg (cTok ⟨5,0,[],⟨pc,pr,pc,pr⟩,i⟩).toArray,.int .i64 ((i:Int)+(n:Int)),.bool true]) (by simp (maxDischargeDepth:=9) [results,results315,go_sem,q0,q1,q2,q3,q4,q5,q6,q7,cTok]) rfl ?_
 exact ⟨TokR.yes ⟨5,0,[],⟨pc,pr,pc,pr⟩,i⟩ _ (by rw [HR.out];exact HPOS.out) (by rw [HR.out];exact ⟨rfl,rfl⟩) rfl,zal HBW.out (Nat.le_refl _) _ _ _ _ _ _ _ _⟩
end Go.Proofs.YtamcgggmfghljaaGreatDoor
