/- Layer 7 (program): the token of an operator, a parenthesis or a comma. -/
import Derived.Deep.Cut
import Derived.Deep.CutRange
import Derived.Test.YtamcgggmfghljaaGreatDoorD14
import Derived.Test.YtamcgggmfghljaaGreatDoorD15
set_option maxRecDepth 100000
set_option maxHeartbeats 8000000
open Go.Proofs.Tryz
namespace Go.Proofs.YtamcgggmfghljaaGreatDoor
open Go.RowKit
def opsS:Array Value:=#[str [60,62],str [60,61],str [62,61],str [43],str [45],str [42],str [47],str [94],str [38],str [61],str [60],str [62],str [37]]
def opsI:Array Value:=#[.int .i64 8,.int .i64 10,.int .i64 12,.int .i64 1,.int .i64 2,.int .i64 3,.int .i64 4,.int .i64 5,.int .i64 6,.int .i64 7,.int .i64 9,.int .i64 11,.int .i64 13]
theorem zy0 (w:World):
 Calls prog 282 #[] w fun u w'=>u=.returned (.tuple #[.slice (some ⟨w.heap.size,0,none⟩) 13 13,.slice (some ⟨w.heap.size+1,0,none⟩) 13 13])∧w'=(w.alloc (.cells opsS 9)).alloc (.cells opsI 2):=by
 go_enter func282,ntmps282
 go_wp2
 go_ret2
 exact ⟨rfl,rfl⟩
theorem ops_at (k:Nat) (h:k<13):∃x n,opsW.drop k=(x,n)::opsW.drop (k+1)∧opsS[k]?=some (str x)∧opsI[k]?=some (.int .i64 n)∧x.length≤2∧1≤x.length:=by
 rcases (by omega:k=0∨k=1∨k=2∨k=3∨k=4∨k=5∨k=6∨k=7∨k=8∨k=9∨k=10∨k=11∨k=12) with rfl | rfl | rfl | rfl | rfl | rfl | rfl | rfl | rfl | rfl | rfl | rfl | rfl <;> exact ⟨_,_,rfl,rfl,rfl,by decide,by decide⟩
theorem zvs (g:Nat) (s:zaa) (i:Nat) (w:World) (hs:s.length≤1000000) (hi:i<s.length) (hg:Blk w g 263 #[str s]):
 Calls prog 250 #[.pointer (some ⟨g,0,none⟩),.int .i64 i] w fun u w'=>u=.returned (.tuple #[.agg (cTok (zc3 s i).1).toArray,.int .i64 (zc3 s i).2])∧Below w.heap.size w w':=by
 have hgl:=hg.lt
 have hG:=((hg.alloc (.cells #[.int .u8 0,.int .i64 0,str [],.int .i64 0,.int .i64 0,.int .i64 0,.int .i64 0,.int .i64 0] 239)).alloc (.cells opsS 9)).alloc (.cells opsI 2)
 have hZ:=((Blk.new w 239 #[.int .u8 0,.int .i64 0,str [],.int .i64 0,.int .i64 0,.int .i64 0,.int .i64 0,.int .i64 0]).alloc (.cells opsS 9)).alloc (.cells opsI 2)
 have hS:=(Blk.new (w.alloc (.cells #[.int .u8 0,.int .i64 0,str [],.int .i64 0,.int .i64 0,.int .i64 0,.int .i64 0,.int .i64 0] 239)) 9 opsS).alloc (.cells opsI 2)
 have hI:=Blk.new ((w.alloc (.cells #[.int .u8 0,.int .i64 0,str [],.int .i64 0,.int .i64 0,.int .i64 0,.int .i64 0,.int .i64 0] 239)).alloc (.cells opsS 9)) 2 opsI
 have hB:Below w.heap.size w (((w.alloc (.cells #[.int .u8 0,.int .i64 0,str [],.int .i64 0,.int .i64 0,.int .i64 0,.int .i64 0,.int .i64 0] 239)).alloc (.cells opsS 9)).alloc (.cells opsI 2)):=by go_grown
 clear hg
 have hi0:(0:Int)≤(i:Int):=Int.natCast_nonneg _
 have hi1:(i:Int)<(s.length:Int):=by omega
 have hx0:=za2 s i (by rw [zad];exact hi)
 have HU:=Hd (show ub s i=(s.getD i 0).toNat from rfl)
 generalize s.getD i 0=c0 at *
 simp only [World.size_alloc] at hS hI
 have HG':=Hd hG
 have HZ':=Hd hZ
 have HS':=Hd hS
 have HI':=Hd hI
 have HB':=Hd hB
 clear hG hZ hS hI hB
 go_enter func250,ntmps250
 go_wp2_with fail
 refine (zy0 _).mono ?_
 rintro u w1 ⟨rfl,hw1⟩
 obtain ⟨W1,hW1⟩:∃W1,((w.alloc (.cells #[.int .u8 0,.int .i64 0,str [],.int .i64 0,.int .i64 0,.int .i64 0,.int .i64 0,.int .i64 0] 239)).alloc (.cells opsS 9)).alloc (.cells opsI 2)=W1:=⟨_,rfl⟩
 rw [hW1] at HG' HZ' HS' HI' HB'
 have e1:w1=W1:=hw1.trans hW1
 subst e1
 clear hw1 hW1
 simp only [World.size_alloc]
 go_wp2_with fail
 go_loopw [16] (fun v wr=>∃k:Nat,k≤13∧v=.int .i64 k∧opsL s i opsW=opsL s i (opsW.drop k)∧wr=w1) (fun v _=>13-(intOf v).toNat)
 case atStart=>exact ⟨0,by omega,rfl,rfl,rfl⟩
 obtain ⟨k,hk,rfl,hdr,rfl⟩:=hrel
 have HD:=Hd hdr
 clear hdr
 have k0:(0:Int)≤(k:Int):=by omega
 by_cases hk13:k<13
 ·have hk1:(k:Int)<13:=by omega
  obtain ⟨x,n,hn,hx,hxi,hx2,hx1⟩:=ops_at k hk13
  have HN:=Hd hn
  clear hn
  have cS:wr.cell? ⟨w.heap.size+1,k,none⟩=some (str x):=(HS'.out.cell k).trans hx
  have cI:wr.cell? ⟨w.heap.size+1+1,k,none⟩=some (.int .i64 n):=(HI'.out.cell k).trans hxi
  have cG:wr.cell? ⟨g,0,none⟩=some (str s):=HG'.out.cell 0
  go_wp2_with fail
  rw [zfx _ _ _ rfl]
  refine (zp1 (s.drop i) x _ (by simp;omega) (by omega)).mono ?_
  rintro u w2 ⟨rfl,rfl⟩
  by_cases hp:x.isPrefixOf (s.drop i)=true
  ·have HE:=Hd (show zc3 s i=(⟨8,n,[],z4,i⟩,x.length) by unfold zc3;rw [HD.out,HN.out];unfold opsL;rw [if_pos hp])
   rw [hp]
   clear hp hx hxi HD HN
   obtain ⟨q0,q1,q2,q3,q4,q5,q6,q7,qf⟩:=zac HZ'.out
   have hx3:(x.length:Int)≤2:=by omega
   go_wp2
   refine bodyPost_ret (v:=.tuple #[.agg (cTok ⟨8,n,[],z4,i⟩).toArray,.int .i64 x.length]) (by simp (maxDischargeDepth:=9) [results,results250,go_sem,q0,q1,q2,q3,q4,q5,q6,q7,cTok,z4]) rfl ?_
   rw [HE.out]
   exact ⟨rfl,zal HB'.out (Nat.le_refl _) _ _ _ _ _ _ _ _⟩
  have HE:=Hd (show opsL s i opsW=opsL s i (opsW.drop (k+1)) by
   rw [HD.out,HN.out];conv=>lhs;unfold opsL
   rw [if_neg hp])
  rw [eq_false_of_ne_true hp]
  clear hp hx hxi HD HN
  go_wp2
  exact ⟨⟨k+1,by omega,by go_num,HE.out,trivial⟩,by simp [intOf];omega⟩
 have hk1:¬(k:Int)<13:=by omega
 have HN:=Hd (show opsL s i opsW=none by rw [HD.out,show k=13 by omega];rfl)
 have cG:wr.cell? ⟨g,0,none⟩=some (str s):=HG'.out.cell 0
 clear HD
 obtain ⟨q0,q1,q2,q3,q4,q5,q6,q7,qf⟩:=zac HZ'.out
 by_cases e40:c0.toNat=40
 ·have HE:=Hd (show zc3 s i=(⟨9,0,[],z4,i⟩,1) by unfold zc3;rw [HN.out,HU.out];exact if_pos e40)
  have b40:((c0.toNat:Int)==40)=true:=by rw [e40];rfl
  clear e40
  go_wp2
  refine bodyPost_ret (v:=.tuple #[.agg (cTok ⟨9,0,[],z4,i⟩).toArray,.int .i64 1]) (by simp (maxDischargeDepth:=9) [results,results250,go_sem,q0,q1,q2,q3,q4,q5,q6,q7,cTok,z4]) rfl ?_
  rw [HE.out]
  exact ⟨rfl,zal HB'.out (Nat.le_refl _) _ _ _ _ _ _ _ _⟩
 have b40:((c0.toNat:Int)==40)=false:=by simp;omega
 by_cases e41:c0.toNat=41
 ·have HE:=Hd (show zc3 s i=(⟨10,0,[],z4,i⟩,1) by unfold zc3;rw [HN.out,HU.out];exact (if_neg e40).trans (if_pos e41))
  have b41:((c0.toNat:Int)==41)=true:=by rw [e41];rfl
  clear e40 e41
  go_wp2
  refine bodyPost_ret (v:=.tuple #[.agg (cTok ⟨10,0,[],z4,i⟩).toArray,.int .i64 1]) (by simp (maxDischargeDepth:=9) [results,results250,go_sem,q0,q1,q2,q3,q4,q5,q6,q7,cTok,z4]) rfl ?_
  rw [HE.out]
  exact ⟨rfl,zal HB'.out (Nat.le_refl _) _ _ _ _ _ _ _ _⟩
 have b41:((c0.toNat:Int)==41)=false:=by simp;omega
 by_cases e44:c0.toNat=44
 ·have HE:=Hd (show zc3 s i=(⟨11,0,[],z4,i⟩,1) by unfold zc3;rw [HN.out,HU.out];exact (if_neg e40).trans ((if_neg e41).trans (if_pos e44)))
  have b44:((c0.toNat:Int)==44)=true:=by rw [e44];rfl
  clear e40 e41 e44
  go_wp2
  refine bodyPost_ret (v:=.tuple #[.agg (cTok ⟨11,0,[],z4,i⟩).toArray,.int .i64 1]) (by simp (maxDischargeDepth:=9) [results,results250,go_sem,q0,q1,q2,q3,q4,q5,q6,q7,cTok,z4]) rfl ?_
  rw [HE.out]
  exact ⟨rfl,zal HB'.out (Nat.le_refl _) _ _ _ _ _ _ _ _⟩
 have b44:((c0.toNat:Int)==44)=false:=by simp;omega
 have HE:=Hd (show zc3 s i=(tok0,0) by unfold zc3;rw [HN.out,HU.out];exact (if_neg e40).trans ((if_neg e41).trans (if_neg e44)))
 clear e40 e41 e44
 go_wp2
 refine bodyPost_ret (v:=.tuple #[.agg (cTok tok0).toArray,.int .i64 0]) (by simp (maxDischargeDepth:=9) [results,results250,go_sem,q0,q1,q2,q3,q4,q5,q6,q7,cTok,z4,tok0]) rfl ?_
 rw [HE.out]
 exact ⟨rfl,zal HB'.out (Nat.le_refl _) _ _ _ _ _ _ _ _⟩
def slen:Value→Nat
 | .string b=>b.size
 | _=>0
def TokR (i:Nat) (r:Tok × Nat) (u:Ending):Prop:=
 ∃(t:Tok) (n:Int) (ok:Bool),u=.returned (.tuple #[.agg (cTok t).toArray,.int .i64 n,.bool ok])∧ok=decide (0<r.2)∧(0<r.2→t=r.1∧n=i+r.2)
theorem TokR.no {i:Nat} {r:Tok × Nat} {u:Ending} (t:Tok) (n:Int) (h:r.2=0) (hu:u=.returned (.tuple #[.agg (cTok t).toArray,.int .i64 n,.bool false])):TokR i r u:=⟨t,n,false,hu,by simp [h],fun q=>by omega⟩
theorem TokR.yes {i:Nat} {r:Tok × Nat} {u:Ending} (t:Tok) (n:Int) (h:0<r.2) (e:t=r.1∧n=i+r.2) (hu:u=.returned (.tuple #[.agg (cTok t).toArray,.int .i64 n,.bool true])):TokR i r u:=⟨t,n,true,hu,by simp [h],fun _=>e⟩
theorem zlf (n:Nat) (l:zaa) (c:UInt8):natO n (l++ [c])=zqt zci (natO n l) c:=by unfold natO;rw [List.foldl_append];rfl
theorem zyw (l:zaa) (v:Nat) (h:natO 0 l=some v) (hd:l.all digB=true):v≤zci:=by
 rw [zrt l 0 hd (Nat.zero_le _)] at h
 split at h
 ·cases h
 rename_i q
 simp only [Option.some.injEq] at h
 omega
theorem zju (l m:zaa) (h:natO 0 l=none):natO 0 (l++m)=none:=by
 unfold natO at *
 rw [List.foldl_append,h]
 induction m with
 | nil=>rfl
 | cons c m ih=>exact ih
abbrev tokN (i:Nat) (v:Int):Array Value:=#[.int .u8 1,.int .i64 v,str [],.int .i64 0,.int .i64 0,.int .i64 0,.int .i64 0,.int .i64 i]
theorem zii {W:World} {g i:Nat} {v:Int} (h:Blk W g 239 (tokN i v)):
 W.cell? ⟨g,0,none⟩=some (.int .u8 1)∧W.cell? ⟨g,1,none⟩=some (.int .i64 v)∧W.cell? ⟨g,2,none⟩=some (str [])∧W.cell? ⟨g,3,none⟩=some (.int .i64 0)∧W.cell? ⟨g,4,none⟩=some (.int .i64 0)∧W.cell? ⟨g,5,none⟩=some (.int .i64 0)∧W.cell? ⟨g,6,none⟩=some (.int .i64 0)∧W.cell? ⟨g,7,none⟩=some (.int .i64 i)∧(∀o,W.frozen? ⟨g,o,none⟩=false)∧g<W.heap.size:=
 ⟨h.cell 0,h.cell 1,h.cell 2,h.cell 3,h.cell 4,h.cell 5,h.cell 6,h.cell 7,fun o=>h.frozen o,h.lt⟩
theorem zo0 (s:zaa) (i:Nat) (w:World) (hs:s.length≤1000) (hi:i≤s.length) (hd:0<lenB digB s i):
 Calls prog 312 #[str s,.int .i64 i] w fun u w'=>TokR i (zgn s i) u∧Below w.heap.size w w':=by
 have hi0:(0:Int)≤(i:Int):=Int.natCast_nonneg _
 have hW0:=Hd (show w.heap.size+1=(w.alloc (.cells #[.int .u8 0,.int .i64 0,.string ⟨#[]⟩,.int .i64 0,.int .i64 0,.int .i64 0,.int .i64 0,.int .i64 0] 239)).heap.size by simp)
 have HNR:=Hd (show zgn s i=if 4<(zbr s i).length then (tok0,0) else match natO 0 (zby s i++zex (zbr s i)) with
  | none=>(tok0,0)
  | some n=>(⟨1,n,[],z4,i⟩,zbe s i) from rfl)
 have HDIG:=Hd hd
 go_enter func312,ntmps312
 go_wp2
 obtain ⟨W1,hW1⟩:∃W1,((w.alloc (.cells #[.int .u8 0,.int .i64 0,.string ⟨#[]⟩,.int .i64 0,.int .i64 0,.int .i64 0,.int .i64 0,.int .i64 0] 239)).alloc (.cells #[.int .u8 1,.int .i64 0,.string ⟨#[]⟩,.int .i64 0,.int .i64 0,.int .i64 0,.int .i64 0,.int .i64 i] 239))=W1:=⟨_,rfl⟩
 have KZ:=Hd (show TokZ W1 w.heap.size from hW1▸(Blk.new w _ _).alloc _)
 have KT:=Hd (show Blk W1 (w.heap.size+1) 239 (tokN i 0) from hW1▸hW0.out▸Blk.new _ _ _)
 have HB0:=Hd (show Below w.heap.size w W1 from by rw [← hW1];go_grown)
 rw [hW1]
 clear hW1 hW0 hd
 go_loopw [8] (fun v wr=>∃k:Nat,i≤k∧k≤s.length∧v=.int .i64 k∧i+lenB digB s i=k+lenB digB s k∧W1=wr) (fun v _=>s.length-(intOf v).toNat)
 case atStart=>exact ⟨i,Nat.le_refl _,hi,rfl,rfl,rfl⟩
 obtain ⟨k,hik,hk,rfl,he,rfl⟩:=hrel
 have HE:=Hd he
 have HD:=Hd (zet s k)
 clear he
 cases hdk:digB (s.getD k 0)
 ·rw [hdk] at HD
  have hz:lenB digB s k=0:=by
   by_cases hlt:k<s.length
   ·rw [zda digB s k hlt,hdk];rfl
   exact zgx digB s k (by omega)
  have HK:=Hd (show i+lenB digB s i=k by have:=HE.out;omega)
  have hik1:(i:Int)≤(k:Int):=by omega
  have hk1:(k:Int)≤(s.length:Int):=by omega
  have hk0:(0:Int)≤(k:Int):=by omega
  clear hz HE hdk
  go_wp2_with fail
  refine (HD.out _).mono ?_
  rintro u w1 ⟨rfl,rfl⟩
  have HDK:=Hd (zet s (k+1))
  go_upto_region 6 with (fail)
  rw [show k=i+(k-i) by omega,zcs,← show k=i+(k-i) by omega]
  go_cut [42] from 18 (fun v wx=>v=.bool (dotB s k)∧wx=W1)
  case first=>
   by_cases hlt:k<s.length
   rotate_left
   ·have hi1:¬(k:Int)<(s.length:Int):=by omega
    have HDB:=Hd (show dotB s k=false by unfold dotB;rw [decide_eq_false (by omega:¬k+1<s.length)];rfl)
    go_wp2
    go_meet
    case rel=>exact ⟨congrArg Value.bool HDB.out.symm,rfl⟩
   have hi1:(k:Int)<(s.length:Int):=by omega
   have hx:=za2 s k (by rw [zad];exact hlt)
   have HDB:=Hd (show dotB s k=(decide (k+1<s.length)&&decide (ub s k=46)&&digB (s.getD (k+1) 0)) from rfl)
   have hu:=zkl s k rfl
   have HP:=Hd (zdc s (k+1))
   generalize s.getD k 0=c at *
   by_cases h46:c.toNat=46
   ·have t1:=zf0 c 46 h46
    have HU:=Hd (hu.trans h46)
    clear hu
    go_wp2_with fail
    refine (HDK.out _).mono ?_
    rintro u w2 ⟨rfl,rfl⟩
    go_wp2
    go_meet
    case rel=>
     refine ⟨congrArg Value.bool ?_,rfl⟩
     rw [HDB.out,HU.out]
     by_cases h1:k+1<s.length
     ·simp [h1]
     simp only [h1,decide_false,Bool.false_and];exact (congrArg digB (HP.out (by omega))).trans rfl
   have t1:=zeu c 46 h46
   have HU:=Hd (show ub s k≠46 by rw [hu];exact h46)
   clear hu
   go_wp2
   go_meet
   case rel=>exact ⟨congrArg Value.bool (by rw [HDB.out];simp [HU.out]),rfl⟩
  case rest=>
   obtain ⟨rfl,rfl⟩:=hcut
   have HNB:=Hd (show zbe s i=if dotB s k then lenB digB s i+1+lenB digB s (k+1) else lenB digB s i by unfold zbe;rw [HK.out])
   have HFR:=Hd (show zbr s i=if dotB s k then (s.drop (k+1)).take (lenB digB s (k+1)) else [] by unfold zbr;rw [HK.out])
   have HWH:=Hd (show (s.drop i).take (k-i)=zby s i by unfold zby;rw [show k-i=lenB digB s i by have:=HK.out;omega])
   rw [HWH.out]
   go_upto_if 42 with (fail)
   go_cut [8,10] from 18 (fun e p wx=>∃m:Nat,e=.int .i64 m∧i≤m∧m≤s.length∧m=i+zbe s i∧p=str (zbr s i)∧wx=wc)
   case first=>
    cases hdb:dotB s k
    ·rw [hdb] at HNB HFR
     go_wp2
     go_meet
     case rel=>exact ⟨k,rfl,hik,hk,by rw [HNB.out];have:=HK.out;simp;omega,by rw [HFR.out];rfl,rfl⟩
    rw [hdb] at HNB HFR
    have hk1l:k+1≤s.length:=by
     rw [← Nat.not_lt]
     intro q
     unfold dotB at hdb
     rw [decide_eq_false (by omega:¬k+1<s.length)] at hdb
     cases hdb
    go_wp2
    go_loopw [8] (fun v wr=>∃j:Nat,k+1≤j∧j≤s.length∧v=.int .i64 j∧k+1+lenB digB s (k+1)=j+lenB digB s j∧wc=wr) (fun v _=>s.length-(intOf v).toNat)
    case atStart=>exact ⟨k+1,Nat.le_refl _,hk1l,by go_num,rfl,rfl⟩
    obtain ⟨j,hkj,hj,rfl,hej,rfl⟩:=hrel
    have HEJ:=Hd hej
    have HDJ:=Hd (zet s j)
    clear hej
    cases hdj:digB (s.getD j 0)
    ·rw [hdj] at HDJ
     have hz:lenB digB s j=0:=by
      by_cases hlt:j<s.length
      ·rw [zda digB s j hlt,hdj];rfl
      exact zgx digB s j (by omega)
     have HJ:=Hd (show k+1+lenB digB s (k+1)=j by have:=HEJ.out;omega)
     have b1:(k:Int)+1≤(j:Int):=by omega
     have b2:(j:Int)≤(s.length:Int):=by omega
     have b3:(0:Int)≤(j:Int):=by omega
     clear hz HEJ hdj
     go_wp2_with fail
     refine (HDJ.out _).mono ?_
     rintro u w1 ⟨rfl,rfl⟩
     go_wp2
     go_meet
     case rel=>
      refine ⟨j,rfl,by omega,hj,by rw [HNB.out];have:=HK.out;have:=HJ.out;simp;omega,?_,rfl⟩
      rw [HFR.out,if_pos (by trivial)]
      have e:j=(k+1)+lenB digB s (k+1):=HJ.out.symm
      rw [e,zcs]
    rw [hdj] at HDJ
    have hlt:j<s.length:=by
     rw [← Nat.not_le]
     intro q
     rw [zdc s j q] at hdj
     cases hdj
    have HST:=Hd (show lenB digB s j=lenB digB s (j+1)+1 by rw [zda digB s j hlt,hdj];rfl)
    clear hdj
    go_wp2_with fail
    refine (HDJ.out _).mono ?_
    rintro u w1 ⟨rfl,rfl⟩
    go_wp2
    refine ⟨⟨j+1,by omega,by omega,by go_num,?_,by trivial⟩,by simp [intOf];omega⟩
    have h1:=HEJ.out
    have h2:=HST.out
    omega
   case rest=>
    obtain ⟨m,rfl,him,hm,hmn,rfl,rfl⟩:=hcut
    obtain ⟨q0,q1,q2,q3,q4,q5,q6,q7,qf⟩:=zac KZ.out
    obtain ⟨k0,k1,k2,k3,k4,k5,k6,k7,kf,kl⟩:=zii KT.out
    have hfd:=znz s i
    have hwd:(zby s i).all digB=true:=zf1 digB s i
    have hwl:(zby s i).length≤s.length:=by have:=ze5 digB s i;have:=ze6 digB s i;unfold zby;omega
    have HMN:=Hd hmn
    have HFD:=Hd hfd
    have HWD:=Hd hwd
    clear hmn hfd hwd
    by_cases h4:4<(zbr s i).length
    ·have h4':(4:Int)<((zbr s i).length:Int):=by omega
     have HR:=Hd (show zgn s i=(tok0,0) by rw [HNR.out,if_pos h4])
     go_wp2
     refine bodyPost_ret (v:=.tuple #[.agg (cTok ⟨1,0,[],z4,i⟩).toArray,.int .i64 0,.bool false]) (by simp (maxDischargeDepth:=9) [results,results312,go_sem,q0,q1,q2,q3,q4,q5,q6,q7,cTok,z4]) rfl ?_
     exact ⟨TokR.no _ _ (by rw [HR.out]) rfl,zal HB0.out (Nat.le_refl _) _ _ _ _ _ _ _ _⟩
    have h4':¬(4:Int)<((zbr s i).length:Int):=by omega
    have HR0:=Hd (show zgn s i=match natO 0 (zby s i++zex (zbr s i)) with
     | none=>(tok0,0)
     | some n=>(⟨1,n,[],z4,i⟩,zbe s i) by rw [HNR.out,if_neg h4])
    have hfl:(zbr s i).length≤4:=by omega
    clear HNR
    have HF4:=Hd (show zex (zbr s i)=zbr s i++List.replicate (4-(zbr s i).length) 48 from rfl)
    have HFA:=Hd (zn0 _ HFD.out)
    have HFL:=Hd (show (zex (zbr s i)).length=4 by unfold zex;simp;omega)
    generalize zbr s i=F at *
    generalize zby s i=X at *
    go_wp2
    go_loopw [10] (fun p wr=>∃r:Nat,F.length+r≤4∧p=str (F++List.replicate r 48)∧wc=wr) (fun p _=>4-slen p)
    case atStart=>exact ⟨0,by omega,by simp,rfl⟩
    obtain ⟨r,hr,rfl,rfl⟩:=hrel
    have hrl:(F++List.replicate r (48:UInt8)).length=F.length+r:=by simp
    by_cases hlt:F.length+r<4
    ·have l1:((F++List.replicate r (48:UInt8)).length:Int)<4:=by rw [hrl];omega
     have HSU:=Hd (show F++List.replicate r (48:UInt8)++ [48]=F++List.replicate (r+1) 48 by rw [List.append_assoc,← List.replicate_succ'])
     have HRL:=Hd hrl
     clear hrl
     go_wp2
     refine ⟨⟨r+1,by omega,?_,by trivial⟩,?_⟩
     ·rw [← HSU.out];exact congrArg Value.string (zcx _ [48])
     rw [show ((⟨(F++List.replicate r (48:UInt8)).toArray⟩:ByteArray)++⟨#[48]⟩)=_ from zcx _ [48],HSU.out]
     show 4-(⟨_⟩:ByteArray).size<4-(⟨_⟩:ByteArray).size
     rw [zad,zad,HRL.out,List.length_append,List.length_replicate]
     omega
    have l1:¬((F++List.replicate r (48:UInt8)).length:Int)<4:=by rw [hrl];omega
    have e4:F++List.replicate r (48:UInt8)=zex F:=by rw [HF4.out,show r=4-F.length by omega]
    rw [e4] at l1 ⊢
    clear hrl e4
    obtain ⟨L,hL⟩:∃L,X++zex F=L:=⟨_,rfl⟩
    have hLD:L.all digB=true:=by rw [← hL,List.all_append,HWD.out,HFA.out];rfl
    have hLL:L.length≤1004:=by rw [← hL,List.length_append,HFL.out];omega
    have hR1:=HR0.out
    rw [hL] at hR1
    have HR1:=Hd hR1
    have HL:=Hd hL
    have HLD:=Hd hLD
    have hsum:X.length+(zex F).length≤1004:=by rw [HFL.out];omega
    clear hR1 HR0 hLD hL HFD HWD
    go_wp2
    rw [zcx,HL.out]
    go_loopw [13] (fun v wr=>∃(j n:Nat),j≤L.length∧v=.int .i64 j∧natO 0 (L.take j)=some n∧Blk wr (w.heap.size+1) 239 (tokN i n)∧TokZ wr w.heap.size∧Below w.heap.size w wr) (fun v _=>L.length-(intOf v).toNat)
    case atStart=>exact ⟨0,0,by omega,rfl,rfl,KT.out,KZ.out,HB0.out⟩
    obtain ⟨j,n,hj,rfl,hn,hkt,hkz,hbw⟩:=hrel
    clear q0 q1 q2 q3 q4 q5 q6 q7 qf k0 k1 k2 k3 k4 k5 k6 k7 kf kl
    obtain ⟨q0,q1,q2,q3,q4,q5,q6,q7,qf⟩:=zac hkz
    obtain ⟨k0,k1,k2,k3,k4,k5,k6,k7,kf,kl⟩:=zii hkt
    have HN:=Hd hn
    have KT':=Hd hkt
    have KZ':=Hd hkz
    have HBW:=Hd hbw
    clear hn hkt hkz hbw
    have hj0:(0:Int)≤(j:Int):=Int.natCast_nonneg _
    by_cases hlt:j<L.length
    rotate_left
    ·have hj1:¬(j:Int)<(L.length:Int):=by omega
     have he:natO 0 L=some n:=by have:=HN.out;rwa [List.take_of_length_le (by omega)] at this
     have hnp:0<zbe s i:=by unfold zbe;split <;> have:=HDIG.out <;> omega
     have HR:=Hd (show zgn s i=(⟨1,n,[],z4,i⟩,zbe s i) by rw [HR1.out,he])
     have HNP:=Hd hnp
     clear he hnp
     go_wp2
     refine bodyPost_ret (v:=.tuple #[.agg (cTok ⟨1,n,[],z4,i⟩).toArray,.int .i64 m,.bool true]) (by simp (maxDischargeDepth:=9) [results,results312,go_sem,q0,q1,q2,q3,q4,q5,q6,q7,cTok,z4]) rfl ?_
     exact ⟨TokR.yes _ _ (by rw [HR.out];exact HNP.out) (by rw [HR.out];have:=HMN.out;exact ⟨rfl,by omega⟩) rfl,zal HBW.out (Nat.le_refl _) _ _ _ _ _ _ _ _⟩
    have hj1:(j:Int)<(L.length:Int):=by omega
    have hx:=za2 L j (by rw [zad];exact hlt)
    have htk:L.take (j+1)=L.take j++ [L.getD j 0]:=by rw [List.take_succ_eq_append_getElem hlt,List.getD_eq_getElem?_getD,List.getElem?_eq_getElem hlt];rfl
    have hmem:L.getD j 0∈L:=by rw [List.getD_eq_getElem?_getD,List.getElem?_eq_getElem hlt];exact List.getElem_mem hlt
    have hdig:=(zc7 _).1 (List.all_eq_true.1 HLD.out _ hmem)
    have hsp:L=L.take (j+1)++L.drop (j+1):=(List.take_append_drop _ _).symm
    have hnl:=zyw _ _ HN.out (by rw [List.all_eq_true];exact fun c hc=>List.all_eq_true.1 HLD.out c (List.mem_of_mem_take hc))
    have HTK:=Hd htk
    have HSP:=Hd hsp
    clear htk hmem hsp
    generalize L.getD j 0=c at *
    have hw:IntKind.u8.wrap ((c.toNat:Int)-48)=(c.toNat:Int)-48:=by rw [IntKind.wrap_u8];omega
    unfold zci at hnl
    have b0:(0:Int)≤(n:Int):=Int.natCast_nonneg _
    have b1:(n:Int)≤9223372036854775807:=by omega
    have b2:(0:Int)≤(c.toNat:Int)-48:=by omega
    have b3:(c.toNat:Int)-48≤9:=by omega
    have hNat:(((9223372036854775807-(c.toNat-48)) / 10:Nat):Int)=(9223372036854775807-((c.toNat:Int)-48)) / 10:=by omega
    by_cases hbig:(9223372036854775807-((c.toNat:Int)-48)) / 10<(n:Int)
    ·have HB1:=Hd (show natO 0 L=none by
      rw [HSP.out]
      refine zju _ _ ?_
      rw [HTK.out,zlf,HN.out,zf6,if_pos (by show (9223372036854775807-(c.toNat-48)) / 10<n;omega)])
     have HR:=Hd (show zgn s i=(tok0,0) by rw [HR1.out,HB1.out])
     clear hNat
     go_wp2
     refine bodyPost_ret (v:=.tuple #[.agg (cTok ⟨1,n,[],z4,i⟩).toArray,.int .i64 0,.bool false]) (by simp (maxDischargeDepth:=9) [results,results312,go_sem,q0,q1,q2,q3,q4,q5,q6,q7,cTok,z4]) rfl ?_
     exact ⟨TokR.no _ _ (by rw [HR.out]) rfl,zal HBW.out (Nat.le_refl _) _ _ _ _ _ _ _ _⟩
    have HB1:=Hd (show natO 0 (L.take (j+1))=some (10*n+(c.toNat-48)) by
     rw [HTK.out,zlf,HN.out,zf6,if_neg (by show ¬(9223372036854775807-(c.toNat-48)) / 10<n;omega)])
    have HI:=Hd (show (10*(n:Int)+((c.toNat:Int)-48))=((10*n+(c.toNat-48):Nat):Int) by omega)
    clear hNat
    go_wp2
    rw [HI.out]
    refine ⟨⟨j+1,10*n+(c.toNat-48),by omega,by go_num,HB1.out,(KT'.out.set_ 1 _).eqv (by simp [tokN]),KZ'.out.far (by simp) _,HBW.out.setCell (by simp) _⟩,by simp [intOf];omega⟩
 rw [hdk] at HD
 have hlt:k<s.length:=by
  rw [← Nat.not_le]
  intro q
  rw [zdc s k q] at hdk
  cases hdk
 have HST:=Hd (show lenB digB s k=lenB digB s (k+1)+1 by rw [zda digB s k hlt,hdk];rfl)
 clear hdk
 go_wp2_with fail
 refine (HD.out _).mono ?_
 rintro u w1 ⟨rfl,rfl⟩
 go_wp2
 refine ⟨⟨k+1,by omega,by omega,by go_num,?_,by trivial⟩,by simp [intOf];omega⟩
 have h1:=HE.out
 have h2:=HST.out
 omega
end Go.Proofs.YtamcgggmfghljaaGreatDoor
