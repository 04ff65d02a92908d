/- Layer 2 (reference): a letter's number, a column, an address read. -/
import Derived.Test.YtamcgggmfghljaaGreatDoorD14
import Derived.Test.YtamcgggmfghljaaGreatDoorD15
set_option maxRecDepth 100000
set_option maxHeartbeats 8000000
open Go.Proofs.Tryz
namespace Go.Proofs.YtamcgggmfghljaaGreatDoor
open Go.RowKit
theorem zio (c:UInt8) (w:World):
 Calls prog 357 #[.int .u8 c.toNat] w fun u w'=>u=.returned (.int .i64 (zfc c))∧w=w':=by
 have hc:c.toNat<256:=c.toNat_lt
 have HE:=Hd (show zfc c=if 65≤c.toNat∧c.toNat≤90 then (c.toNat:Int)-65+1 else if 97≤c.toNat∧c.toNat≤122 then (c.toNat:Int)-97+1 else 0 from rfl)
 generalize zfc c=r at *
 generalize c.toNat=n at *
 have hn0:(0:Int)≤(n:Int):=Int.natCast_nonneg _
 by_cases h1:65≤n∧n≤90
 ·have e1:(65:Int)≤(n:Int):=by omega
  have e2:(n:Int)≤90:=by omega
  have hx:IntKind.u8.wrap ((n:Int)-65)=(n:Int)-65:=by rw [IntKind.wrap_u8];omega
  have HR:=Hd (show r=(n:Int)-65+1 by rw [HE.out,if_pos h1])
  clear HE
  go_enter func357,ntmps357
  go_wp2
  go_ret
  exact ⟨by rw [HR.out];rfl,rfl⟩
 by_cases h2:97≤n∧n≤122
 ·have e1:(65:Int)≤(n:Int):=by omega
  have e2:¬(n:Int)≤90:=by omega
  have e3:(97:Int)≤(n:Int):=by omega
  have e4:(n:Int)≤122:=by omega
  have hx:IntKind.u8.wrap ((n:Int)-97)=(n:Int)-97:=by rw [IntKind.wrap_u8];omega
  have HR:=Hd (show r=(n:Int)-97+1 by rw [HE.out,if_neg h1,if_pos h2])
  clear HE
  go_enter func357,ntmps357
  go_wp2
  go_ret
  exact ⟨by rw [HR.out];rfl,rfl⟩
 have HR:=Hd (show r=0 by rw [HE.out,if_neg h1,if_neg h2])
 clear HE
 by_cases e1:(65:Int)≤(n:Int)
 ·have e2:¬(n:Int)≤90:=by omega
  by_cases e3:(97:Int)≤(n:Int)
  ·have e4:¬(n:Int)≤122:=by omega
   go_enter func357,ntmps357
   go_wp2
   go_ret
   exact ⟨by rw [HR.out];rfl,rfl⟩
  skip
  go_enter func357,ntmps357
  go_wp2
  go_ret
  exact ⟨by rw [HR.out];rfl,rfl⟩
 have e3:¬(97:Int)≤(n:Int):=by omega
 go_enter func357,ntmps357
 go_wp2
 go_ret
 exact ⟨by rw [HR.out];rfl,rfl⟩
def colE (s:zaa):Int × Int:=if 1024<colI 0 s then (0,3) else (colI 0 s,0)
theorem zo9 (s:zaa) (w:World) (hs:s.length≤1000000) (ha:∀c∈s,letB c=true) (hne:s≠ []):
 Calls prog 358 #[str s] w fun u w'=>u=.returned (.tuple #[.int .i64 (colE s).1,.int .i64 (colE s).2])∧Below w.heap.size w w':=by
 have hmin:∀x y:Int,(if y<x then y else x)=min x y:=by intro x y;omega
 have hp:=zkc s 0 ha (by omega) (.inl hne)
 go_enter func358,ntmps358
 go_wp2
 go_loopw [4,5] (fun n i wr=>∃k:Nat,k≤s.length∧n=.int .i64 (colI 0 (s.take k))∧i=.int .i64 k∧w=wr) (fun _ i _=>s.length-(intOf i).toNat)
 case atStart=>exact ⟨0,by omega,by simp [colI],rfl,rfl⟩
 obtain ⟨k,hk,rfl,rfl,rfl⟩:=hrel
 by_cases hlt:k<s.length
 ·have hx:=za2 s k (by rw [zad];exact hlt)
  have hcm:s.getD k 0∈s:=by rw [List.getD_eq_getElem?_getD,List.getElem?_eq_getElem hlt];exact List.getElem_mem hlt
  have hT:=Hd (show colI 0 (s.take (k+1))=min (26*colI 0 (s.take k)+zfc (s.getD k 0)) 1025 by
   rw [List.take_succ_eq_append_getElem hlt,zlz,List.getD_eq_getElem?_getD,List.getElem?_eq_getElem hlt];rfl)
  have hlc:=ha _ hcm
  have hb:=zew (s.getD k 0)
  have h1:zfc (s.getD k 0)≠0:=by have:=hb.1.2 hlc;omega
  have b0:=zs0 (s.take k) 0 (by omega)
  have b1:=zkd (s.take k) 0 (by omega)
  generalize s.getD k 0=c at *
  have HL:=Hd (zio c)
  have b2:=hb.2.1
  have b3:=hb.2.2
  have HT:=Hd hT.out
  clear hT hb hlc hcm
  generalize colI 0 (s.take k)=n at *
  generalize zfc c=m at *
  have t0:(m==0)=false:=by simpa using h1
  have hi0:(0:Int)≤(k:Int):=Int.natCast_nonneg _
  have hi1:(k:Int)<(s.length:Int):=by omega
  go_wp2_with fail
  refine (HL.out _).mono ?_
  rintro u w1 ⟨rfl,rfl⟩
  go_wp2_with fail
  refine (HL.out _).mono ?_
  rintro u w2 ⟨rfl,rfl⟩
  go_wp2
  exact ⟨⟨k+1,by omega,by rw [HT.out],by go_num,trivial⟩,by simp [intOf];omega⟩
 have he:s.take k=s:=List.take_of_length_le (by omega)
 rw [he]
 have hi1:¬(k:Int)<(s.length:Int):=by omega
 have hnn:=zkd s 0 (by omega)
 have HC:=Hd (show colE s=if 1024<colI 0 s then (0,3) else (colI 0 s,0) from rfl)
 generalize colI 0 s=n at *
 have t0:(n==0)=false:=by simp only [beq_eq_false_iff_ne,ne_eq];omega
 clear he
 by_cases hg:1024<n
 ·have H:=Hd (HC.out.trans (if_pos hg))
  go_wp2
  go_ret2
  exact ⟨by rw [H.out];rfl,Below.refl _ _⟩
 have H:=Hd (HC.out.trans (if_neg hg))
 go_wp2
 go_ret2
 exact ⟨by rw [H.out];rfl,Below.refl _ _⟩
theorem zdn {W:World} {g:Nat} (h:Blk W g 56 #[.int .i64 0,.int .i64 0]):W.cell? ⟨g,0,none⟩=some (.int .i64 0)∧W.cell? ⟨g,1,none⟩=some (.int .i64 0)∧(∀o,W.frozen? ⟨g,o,none⟩=false)∧g<W.heap.size:=⟨h.cell 0,h.cell 1,fun o=>h.frozen o,h.lt⟩
theorem zic (s:zaa) (w:World) (hs:s.length≤1000000):
 Calls prog 345 #[str s] w fun u w'=>u=.returned (.tuple #[.agg #[.int .i64 (parR s).1.col,.int .i64 (parR s).1.row],.int .i64 (parR s).2])∧Below w.heap.size w w':=by
 have hmin:∀x y:Int,(if y<x then y else x)=min x y:=by intro x y;omega
 have hlim:=znt letB s
 have HPAR:=Hd (show parR s=if lenB letB s 0=0∨s.drop (lenB letB s 0)=[]∨(s.drop (lenB letB s 0)).head?=some 48∨(s.drop (lenB letB s 0)).all digB=false then (⟨0,0⟩,4)
  else if 1024<colI 0 (s.take (lenB letB s 0))∨1024<rowI 0 (s.drop (lenB letB s 0)) then (⟨0,0⟩,3) else (⟨colI 0 (s.take (lenB letB s 0)),rowI 0 (s.drop (lenB letB s 0))⟩,0) from rfl)
 have KZ:=Hd (Blk.new w 56 #[.int .i64 0,.int .i64 0])
 have HB0:=Hd (show Below w.heap.size w (w.alloc (.cells #[.int .i64 0,.int .i64 0] 56)) from by go_grown)
 go_enter func345,ntmps345
 go_wp2
 obtain ⟨W1,hW1⟩:∃W1,w.alloc (.cells #[.int .i64 0,.int .i64 0] 56)=W1:=⟨_,rfl⟩
 rw [hW1] at KZ HB0 ⊢
 clear hW1
 go_loopw [4] (fun v wr=>∃k:Nat,k≤s.length∧v=.int .i64 k∧lenB letB s 0=k+lenB letB s k∧W1=wr) (fun v _=>s.length-(intOf v).toNat)
 case atStart=>exact ⟨0,by omega,rfl,by omega,rfl⟩
 obtain ⟨k,hk,rfl,he,rfl⟩:=hrel
 have HE:=Hd he
 clear he
 have hi0:(0:Int)≤(k:Int):=Int.natCast_nonneg _
 by_cases hlt:k<s.length
 rotate_left
 ·have hi1:¬(k:Int)<(s.length:Int):=by omega
  have hk0:lenB letB s 0=k:=by have:=HE.out;have:=zgx letB s k (by omega);omega
  have hPK:=HPAR.out
  rw [hk0] at hPK
  have HR:=Hd (hPK.trans (if_pos (.inr (.inl (List.drop_eq_nil_of_le (by omega))))))
  clear hPK HPAR HE hk0 hlim
  have t1:((k:Int)==(s.length:Int))=true:=by simp only [beq_iff_eq];omega
  obtain ⟨q0,q1,qf,ql⟩:=zdn KZ.out
  by_cases h0:k=0
  ·subst h0
   go_wp2
   refine bodyPost_ret (v:=.tuple #[.agg #[.int .i64 0,.int .i64 0],.int .i64 4]) (by simp (maxDischargeDepth:=9) [results,results345,go_sem,q0,q1]) rfl ?_
   exact ⟨by rw [HR.out],HB0.out.setCell (Nat.le_refl _) _ |>.setCell (Nat.le_refl _) _⟩
  have t0:((k:Int)==0)=false:=by simp only [beq_eq_false_iff_ne,ne_eq];omega
  go_wp2
  refine bodyPost_ret (v:=.tuple #[.agg #[.int .i64 0,.int .i64 0],.int .i64 4]) (by simp (maxDischargeDepth:=9) [results,results345,go_sem,q0,q1]) rfl ?_
  exact ⟨by rw [HR.out],HB0.out.setCell (Nat.le_refl _) _ |>.setCell (Nat.le_refl _) _⟩
 have hi1:(k:Int)<(s.length:Int):=by omega
 have hx:=za2 s k (by rw [zad];exact hlt)
 have hst:=zda letB s k hlt
 have hlp:=zew (s.getD k 0)
 have HL:=Hd (zio (s.getD k 0))
 have HD0:=Hd (zgd s k hlt)
 generalize s.getD k 0=c at *
 generalize zfc c=m at *
 by_cases hm:0<m
 ·have hl:=hlp.1.1 hm
  rw [hl] at hst
  have HST:=Hd hst
  clear hst hlp hl hlim
  go_wp2_with fail
  refine (HL.out _).mono ?_
  rintro u w1 ⟨rfl,rfl⟩
  go_wp2
  refine ⟨⟨k+1,by omega,by go_num,?_,by trivial⟩,by simp [intOf];omega⟩
  have h1:=HE.out
  have h2:=HST.out
  simp only [if_true] at h2
  omega
 have hl:letB c=false:=by rw [Bool.eq_false_iff];exact fun q=>hm (hlp.1.2 q)
 rw [hl] at hst
 have hk0:lenB letB s 0=k:=by have:=HE.out;simp only [Bool.false_eq_true,if_false] at hst;omega
 have HK0:=Hd hk0
 have HPK:=HPAR.out
 rw [hk0] at HPK
 have HP:=Hd HPK
 have hall:=zf1 letB s 0
 rw [hk0,List.drop_zero] at hall
 have HALL:=Hd hall
 clear HPK hst hlp hl hlim HPAR HE hk0 hall
 go_wp2_with fail
 refine (HL.out _).mono ?_
 rintro u w1 ⟨rfl,rfl⟩
 clear HL
 by_cases h0:k=0
 ·subst h0
  have HR:=Hd (HP.out.trans (if_pos (.inl rfl)))
  obtain ⟨q0,q1,qf,ql⟩:=zdn KZ.out
  go_wp2
  refine bodyPost_ret (v:=.tuple #[.agg #[.int .i64 0,.int .i64 0],.int .i64 4]) (by simp (maxDischargeDepth:=9) [results,results345,go_sem,q0,q1]) rfl ?_
  exact ⟨by rw [HR.out],HB0.out.setCell (Nat.le_refl _) _ |>.setCell (Nat.le_refl _) _⟩
 have t0:((k:Int)==0)=false:=by simp only [beq_eq_false_iff_ne,ne_eq];omega
 have t1:((k:Int)==(s.length:Int))=false:=by simp only [beq_eq_false_iff_ne,ne_eq];omega
 by_cases h48:c.toNat=48
 ·have t2:=zf0 c 48 h48
  have e48:c=48:=UInt8.toNat_inj.1 (by simpa using h48)
  have HR:=Hd (HP.out.trans (if_pos (.inr (.inr (.inl (by rw [HD0.out,e48];rfl))))))
  obtain ⟨q0,q1,qf,ql⟩:=zdn KZ.out
  go_wp2
  refine bodyPost_ret (v:=.tuple #[.agg #[.int .i64 0,.int .i64 0],.int .i64 4]) (by simp (maxDischargeDepth:=9) [results,results345,go_sem,q0,q1]) rfl ?_
  exact ⟨by rw [HR.out],HB0.out.setCell (Nat.le_refl _) _ |>.setCell (Nat.le_refl _) _⟩
 have t2:=zeu c 48 h48
 have hne:s.take k≠ []:=by rw [← List.length_pos_iff,List.length_take];omega
 have HNE:=Hd hne
 have HTL:=Hd (show (s.take k).length≤1000000 by rw [List.length_take];omega)
 clear hne
 obtain ⟨D,hD⟩:∃D,s.drop k=D:=⟨_,rfl⟩
 have hDl:D.length=s.length-k:=by rw [← hD,List.length_drop]
 have hDat:∀j,k≤j→D.getD (j-k) 0=s.getD j 0:=fun j hj=>by rw [← hD,List.getD_eq_getElem?_getD,List.getElem?_drop,show k+(j-k)=j by omega,← List.getD_eq_getElem?_getD]
 have hDh:D.head?=some c:=by rw [← hD,HD0.out];rfl
 have hP:=HP.out
 rw [hD] at hP
 have hP2:D.all digB=true→parR s=if 1024<colI 0 (s.take k)∨1024<rowI 0 D then (⟨0,0⟩,3) else (⟨colI 0 (s.take k),rowI 0 D⟩,0):=fun ha=>hP.trans (if_neg (by
  rw [hDh,ha]
  rintro (q | q | q | q)
  ·exact h0 q
  ·rw [q] at hDh;cases hDh
  ·simp only [Option.some.injEq] at q;exact h48 (by rw [q];rfl)
  cases q))
 have hP3:D.all digB=false→parR s=(⟨0,0⟩,4):=fun ha=>hP.trans (if_pos (.inr (.inr (.inr ha))))
 have HP2:=Hd hP2
 have HP3:=Hd hP3
 have HDL:=Hd hDl
 have HDA:=Hd hDat
 clear hP hP2 hP3 hDl hDat hDh hD HP HD0 h48 h0
 go_wp2
 go_loopw [5,6] (fun r v wr=>∃j:Nat,k≤j∧j≤s.length∧r=.int .i64 (rowI 0 (D.take (j-k)))∧v=.int .i64 j∧(D.take (j-k)).all digB=true∧W1=wr) (fun _ v _=>s.length-(intOf v).toNat)
 case atStart=>exact ⟨k,Nat.le_refl _,hk,by simp [rowI],rfl,by simp,rfl⟩
 obtain ⟨j,hkj,hj,rfl,rfl,hall,rfl⟩:=hrel
 have HJ:=Hd hall
 clear hall
 have hj0:(0:Int)≤(j:Int):=Int.natCast_nonneg _
 have hb0:=zq3 (D.take (j-k)) 0 (by omega)
 have hb1:=zq2 (D.take (j-k)) 0 (by omega) HJ.out
 by_cases hjl:j<s.length
 ·have hj1:(j:Int)<(s.length:Int):=by omega
  have hxj:=za2 s j (by rw [zad];exact hjl)
  have hDn:j-k<D.length:=by rw [HDL.out];omega
  have hg:D[j-k]'hDn=s.getD j 0:=by have:=HDA.out j hkj;rw [List.getD_eq_getElem?_getD,List.getElem?_eq_getElem hDn] at this;exact this
  have htk:D.take (j+1-k)=D.take (j-k)++ [s.getD j 0]:=by rw [show j+1-k=j-k+1 by omega,List.take_succ_eq_append_getElem hDn,hg]
  have hmem:s.getD j 0∈D:=by rw [← hg];exact List.getElem_mem hDn
  generalize s.getD j 0=e at *
  have HTK:=Hd htk
  have HMEM:=Hd hmem
  clear htk hmem hg hDn
  generalize hrow:rowI 0 (D.take (j-k))=r at *
  by_cases d1:48≤e.toNat
  ·by_cases d2:e.toNat≤57
   ·have c1:¬(e.toNat:Int)<48:=by omega
    have c2:¬(57:Int)<(e.toNat:Int):=by omega
    have hw:IntKind.u8.wrap ((e.toNat:Int)-48)=(e.toNat:Int)-48:=by rw [IntKind.wrap_u8];omega
    have HRW:=Hd hrow
    have HDG:=Hd ((zc7 e).2 ⟨d1,d2⟩)
    clear hrow
    go_wp2
    refine ⟨⟨j+1,by omega,by omega,?_,by go_num,?_,by trivial⟩,by simp [intOf];omega⟩
    ·rw [HTK.out,zkx,HRW.out]
    rw [HTK.out,List.all_append,HJ.out];simp [HDG.out]
   have c1:¬(e.toNat:Int)<48:=by omega
   have c2:(57:Int)<(e.toNat:Int):=by omega
   have HR:=Hd (HP3.out (by rw [Bool.eq_false_iff];intro q;have:=List.all_eq_true.1 q e HMEM.out;rw [zc7] at this;omega))
   obtain ⟨q0,q1,qf,ql⟩:=zdn KZ.out
   go_wp2
   refine bodyPost_ret (v:=.tuple #[.agg #[.int .i64 0,.int .i64 0],.int .i64 4]) (by simp (maxDischargeDepth:=9) [results,results345,go_sem,q0,q1]) rfl ?_
   exact ⟨by rw [HR.out],HB0.out.setCell (Nat.le_refl _) _ |>.setCell (Nat.le_refl _) _⟩
  have c1:(e.toNat:Int)<48:=by omega
  have HR:=Hd (HP3.out (by rw [Bool.eq_false_iff];intro q;have:=List.all_eq_true.1 q e HMEM.out;rw [zc7] at this;omega))
  obtain ⟨q0,q1,qf,ql⟩:=zdn KZ.out
  go_wp2
  refine bodyPost_ret (v:=.tuple #[.agg #[.int .i64 0,.int .i64 0],.int .i64 4]) (by simp (maxDischargeDepth:=9) [results,results345,go_sem,q0,q1]) rfl ?_
  exact ⟨by rw [HR.out],HB0.out.setCell (Nat.le_refl _) _ |>.setCell (Nat.le_refl _) _⟩
 have hj1:¬(j:Int)<(s.length:Int):=by omega
 have htk:D.take (j-k)=D:=List.take_of_length_le (by rw [HDL.out];omega)
 have hJ:=HJ.out
 rw [htk] at hJ hb0 hb1
 rw [htk]
 have hP:=HP2.out hJ
 have HCO:=Hd (zo9 (s.take k) · HTL.out (List.all_eq_true.1 HALL.out) HNE.out)
 have HCE:=Hd (show colE (s.take k)=if 1024<colI 0 (s.take k) then (0,3) else (colI 0 (s.take k),0) from rfl)
 have HPP:=Hd hP
 clear hP hJ htk
 generalize rowI 0 D=r at *
 generalize colI 0 (s.take k)=m at *
 have hk1:(k:Int)≤(s.length:Int):=by omega
 go_wp2_with fail
 rw [zls]
 refine (HCO.out _).mono ?_
 rintro u w2 ⟨rfl,hb2⟩
 have KZ2:=Hd (KZ.out.below_ hb2)
 have HB2:=Hd (Below.next HB0.out hb2 HB0.out.size)
 clear hb2
 obtain ⟨q0,q1,qf,ql⟩:=zdn KZ2.out
 by_cases g1:1024<m
 ·rw [HCE.out.trans (if_pos g1)]
  have HR:=Hd (HPP.out.trans (if_pos (.inl g1)))
  go_wp2
  refine bodyPost_ret (v:=.tuple #[.agg #[.int .i64 0,.int .i64 0],.int .i64 3]) (by simp (maxDischargeDepth:=9) [results,results345,go_sem,q0,q1]) rfl ?_
  exact ⟨by rw [HR.out],HB2.out.setCell (Nat.le_refl _) _ |>.setCell (Nat.le_refl _) _⟩
 rw [HCE.out.trans (if_neg g1)]
 by_cases g2:1024<r
 ·have HR:=Hd (HPP.out.trans (if_pos (.inr g2)))
  go_wp2
  refine bodyPost_ret (v:=.tuple #[.agg #[.int .i64 0,.int .i64 0],.int .i64 3]) (by simp (maxDischargeDepth:=9) [results,results345,go_sem,q0,q1]) rfl ?_
  exact ⟨by rw [HR.out],HB2.out.setCell (Nat.le_refl _) _ |>.setCell (Nat.le_refl _) _⟩
 have HR:=Hd (HPP.out.trans (if_neg (by omega)))
 go_wp2
 refine bodyPost_ret (v:=.tuple #[.agg #[.int .i64 m,.int .i64 r],.int .i64 0]) (by simp (maxDischargeDepth:=9) [results,results345,go_sem,q0,q1]) rfl ?_
 exact ⟨by rw [HR.out],HB2.out.setCell (Nat.le_refl _) _ |>.setCell (Nat.le_refl _) _⟩
end Go.Proofs.YtamcgggmfghljaaGreatDoor
