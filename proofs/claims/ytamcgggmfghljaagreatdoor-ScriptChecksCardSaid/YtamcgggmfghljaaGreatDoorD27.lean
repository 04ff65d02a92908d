/- Layer 7 (reference): the token of a text. -/
import Derived.Test.YtamcgggmfghljaaGreatDoorD16
import Derived.Test.YtamcgggmfghljaaGreatDoorD20
import Derived.Test.YtamcgggmfghljaaGreatDoorD26
set_option maxRecDepth 100000
set_option maxHeartbeats 8000000
open Go.Proofs.Tryz
namespace Go.Proofs.YtamcgggmfghljaaGreatDoor
open Go.RowKit
abbrev tokT (i:Nat) (x:zaa):Array Value:=#[.int .u8 2,.int .i64 0,str x,.int .i64 0,.int .i64 0,.int .i64 0,.int .i64 0,.int .i64 i]
theorem zf4 {W:World} {g i:Nat} {x:zaa} (h:Blk W g 239 (tokT i x)):
 W.cell? ⟨g,0,none⟩=some (.int .u8 2)∧W.cell? ⟨g,1,none⟩=some (.int .i64 0)∧W.cell? ⟨g,2,none⟩=some (str x)∧W.cell? ⟨g,3,none⟩=some (.int .i64 0)∧W.cell? ⟨g,4,none⟩=some (.int .i64 0)∧W.cell? ⟨g,5,none⟩=some (.int .i64 0)∧W.cell? ⟨g,6,none⟩=some (.int .i64 0)∧W.cell? ⟨g,7,none⟩=some (.int .i64 i)∧(∀o,W.frozen? ⟨g,o,none⟩=false)∧g<W.heap.size:=
 ⟨h.cell 0,h.cell 1,h.cell 2,h.cell 3,h.cell 4,h.cell 5,h.cell 6,h.cell 7,fun o=>h.frozen o,h.lt⟩
theorem zui (s:zaa) (i:Nat) (w:World) (hs:s.length≤1000) (hi:i<s.length):
 Calls prog 313 #[str s,.int .i64 i] w fun u w'=>TokR i (zeq s i) u∧Below w.heap.size w w':=by
 have hi0:(0:Int)≤(i:Int):=Int.natCast_nonneg _
 have hi1:(i:Int)<(s.length:Int):=by omega
 have hW0:=Hd (show w.heap.size+1=(w.alloc (.cells #[.int .u8 0,.int .i64 0,.string ⟨#[]⟩,.int .i64 0,.int .i64 0,.int .i64 0,.int .i64 0,.int .i64 0] 239)).heap.size by simp)
 have HTX:=Hd (show zeq s i=match unqP (s.drop (i+1)) with
  | none=>(tok0,0)
  | some r=>(⟨2,0,r.1,z4,i⟩,r.2+1) from rfl)
 go_enter func313,ntmps313
 go_wp2
 obtain ⟨W1,hW1⟩:∃W1,((w.alloc (.cells #[.int .u8 0,.int .i64 0,.string ⟨#[]⟩,.int .i64 0,.int .i64 0,.int .i64 0,.int .i64 0,.int .i64 0] 239)).alloc (.cells #[.int .u8 2,.int .i64 0,.string ⟨#[]⟩,.int .i64 0,.int .i64 0,.int .i64 0,.int .i64 0,.int .i64 i] 239))=W1:=⟨_,rfl⟩
 have KZ:=Hd (show TokZ W1 w.heap.size from hW1▸(Blk.new w _ _).alloc _)
 have KT:=Hd (show Blk W1 (w.heap.size+1) 239 (tokT i []) from hW1▸hW0.out▸Blk.new _ _ _)
 have HB0:=Hd (show Below w.heap.size w W1 from by rw [← hW1];go_grown)
 rw [hW1]
 clear hW1 hW0
 go_loopw [8] (fun v wr=>∃(k:Nat) (x:zaa),i+1≤k∧k≤s.length∧x.length≤k∧v=.int .i64 k∧unqP (s.drop (i+1))=(unqP (s.drop k)).map (fun r=>(x++r.1,(k-(i+1))+r.2))∧Blk wr (w.heap.size+1) 239 (tokT i x)∧TokZ wr w.heap.size∧Below w.heap.size w wr) (fun v _=>s.length-(intOf v).toNat)
 case atStart=>exact ⟨i+1,[],Nat.le_refl _,by omega,by simp,by go_num,by simp,KT.out,KZ.out,HB0.out⟩
 obtain ⟨k,x,hik,hk,hxl,rfl,hq,hkt,hkz,hbw⟩:=hrel
 have HQ:=Hd hq
 have K1:=Hd hkt
 have Z1:=Hd hkz
 have HB:=Hd hbw
 have c2:wr.cell? ⟨w.heap.size+1,2,none⟩=some (str x):=hkt.cell 2
 have f2:=hkt.frozen 2
 have hk0:(0:Int)≤(k:Int):=Int.natCast_nonneg _
 clear hq hkt hkz hbw
 by_cases hlt:k<s.length
 rotate_left
 ·have hk1:¬(k:Int)<(s.length:Int):=by omega
  have HR:=Hd (show (zeq s i).2=0 by
   rw [HTX.out,HQ.out,List.drop_eq_nil_of_le (by omega:s.length≤k)]
   rfl)
  obtain ⟨q0,q1,q2,q3,q4,q5,q6,q7,qf⟩:=zac Z1.out
  obtain ⟨k0,k1,k2,k3,k4,k5,k6,k7,kf,kl⟩:=zf4 K1.out
  go_wp2
  refine bodyPost_ret (v:=.tuple #[.agg (cTok ⟨2,0,x,z4,i⟩).toArray,.int .i64 (0),.bool false]) (by simp (maxDischargeDepth:=9) [results,results313,go_sem,q0,q1,q2,q3,q4,q5,q6,q7,cTok,z4]) rfl ?_
  exact ⟨TokR.no ⟨2,0,x,z4,i⟩ _ HR.out rfl,zal HB.out (Nat.le_refl _) _ _ _ _ _ _ _ _⟩
 have hk1:(k:Int)<(s.length:Int):=by omega
 have hx:=za2 s k (by rw [zad];exact hlt)
 have HD:=Hd (zgd s k hlt)
 have HS2:=Hd (show k+1<s.length→s.drop (k+1)=s.getD (k+1) 0::s.drop (k+2) from fun h=>zgd s (k+1) h)
 generalize s.getD k 0=c at *
 have hc34:c=34↔c.toNat=34:=by rw [← UInt8.toNat_inj];rfl
 have HC:=Hd hc34
 clear hc34
 by_cases h34:c.toNat=34
 rotate_left
 ·have t1:=zeu c 34 h34
  have t2:((c.toNat:Int) != (34:Int))=true:=by simp only [bne_iff_ne,ne_eq];omega
  have hk2:(k:Int)≤(k:Int)+1:=by omega
  have hk3:(k:Int)+1≤(s.length:Int):=by omega
  have HU:=Hd (show unqP (s.drop k)=(unqP (s.drop (k+1))).map (fun r=>(c::r.1,r.2+1)) by
   rw [HD.out,zxh (fun e=>h34 (HC.out.1 e))])
  have HX1:=Hd (show (s.drop k).take 1=[c] by rw [HD.out];rfl)
  clear h34
  go_wp2
  go_region
  go_wp2
  refine ⟨⟨k+1,x++ [c],by omega,by omega,by simp;omega,by go_num,?_,?_,Z1.out.far (by simp) _,(HB.out.setCell (p:=⟨w.heap.size+1,2,none⟩) (by simp) _).drew⟩,by simp [intOf];omega⟩
  ·rw [HQ.out,HU.out,Option.map_map]
   congr 1
   funext r
   simp only [Function.comp_apply,List.append_assoc,List.singleton_append,Prod.mk.injEq,true_and]
   omega
  rw [zcs,HX1.out,zcx]
  exact (K1.out.set_ 2 _)
 have t1:=zf0 c 34 h34
 have t2:((c.toNat:Int) != (34:Int))=false:=by simp only [bne_eq_false_iff_eq];omega
 have HC2:=Hd (HC.out.2 h34)
 have hk2:(k:Int)≤(k:Int)+1:=by omega
 by_cases hn:k+1<s.length
 rotate_left
 ·have hn1:¬(k:Int)+1<(s.length:Int):=by omega
  have HU:=Hd (show unqP (s.drop k)=some ([],1) by
   rw [HD.out,HC2.out,zm3 (by rw [List.drop_eq_nil_of_le (by omega)];simp)])
  have HR:=Hd (show zeq s i=(⟨2,0,x,z4,i⟩,k-(i+1)+1+1) by
   rw [HTX.out,HQ.out,HU.out]
   simp)
  clear h34
  obtain ⟨q0,q1,q2,q3,q4,q5,q6,q7,qf⟩:=zac Z1.out
  obtain ⟨k0,k1,k2,k3,k4,k5,k6,k7,kf,kl⟩:=zf4 K1.out
  go_wp2
  refine bodyPost_ret (v:=.tuple #[.agg (cTok ⟨2,0,x,z4,i⟩).toArray,.int .i64 ((k:Int)+1),.bool true]) (by simp (maxDischargeDepth:=9) [results,results313,go_sem,q0,q1,q2,q3,q4,q5,q6,q7,cTok,z4]) rfl ?_
  exact ⟨TokR.yes ⟨2,0,x,z4,i⟩ _ (by rw [HR.out];simp) (by rw [HR.out];exact ⟨rfl,by simp only;omega⟩) rfl,zal HB.out (Nat.le_refl _) _ _ _ _ _ _ _ _⟩
 have hn1:(k:Int)+1<(s.length:Int):=by omega
 have hx2:=za2 s (k+1) (by rw [zad];exact hn)
 have HT2:=Hd (HS2.out hn)
 generalize s.getD (k+1) 0=d at *
 have hd34:d=34↔d.toNat=34:=by rw [← UInt8.toNat_inj];rfl
 have HD4:=Hd hd34
 clear hd34 h34
 by_cases d34:d.toNat=34
 ·have t3:=zf0 d 34 d34
  have HU:=Hd (show unqP (s.drop k)=(unqP (s.drop (k+2))).map (fun r=>(34::r.1,r.2+2)) by
   rw [HD.out,HC2.out,HT2.out,HD4.out.2 d34,zts])
  clear d34
  go_wp2
  refine ⟨⟨k+2,x++ [34],by omega,by omega,by simp;omega,by go_num,?_,?_,Z1.out.far (by simp) _,HB.out.setCell (by simp) _⟩,by simp [intOf];omega⟩
  ·rw [HQ.out,HU.out,Option.map_map]
   congr 1
   funext r
   simp only [Function.comp_apply,List.append_assoc,List.singleton_append,Prod.mk.injEq,true_and]
   omega
  exact (K1.out.set_ 2 _).eqv (by simp [tokT,zcx])
 have t3:=zeu d 34 d34
 have HU:=Hd (show unqP (s.drop k)=some ([],1) by
  rw [HD.out,HC2.out,zm3 (by rw [HT2.out];simp only [List.head?_cons,ne_eq,Option.some.injEq];exact fun e=>d34 (HD4.out.1 e))])
 clear d34
 have HR:=Hd (show zeq s i=(⟨2,0,x,z4,i⟩,k-(i+1)+1+1) by
  rw [HTX.out,HQ.out,HU.out]
  simp)
 obtain ⟨q0,q1,q2,q3,q4,q5,q6,q7,qf⟩:=zac Z1.out
 obtain ⟨k0,k1,k2,k3,k4,k5,k6,k7,kf,kl⟩:=zf4 K1.out
 go_wp2
 refine bodyPost_ret (v:=.tuple #[.agg (cTok ⟨2,0,x,z4,i⟩).toArray,.int .i64 ((k:Int)+1),.bool true]) (by simp (maxDischargeDepth:=9) [results,results313,go_sem,q0,q1,q2,q3,q4,q5,q6,q7,cTok,z4]) rfl ?_
 exact ⟨TokR.yes ⟨2,0,x,z4,i⟩ _ (by rw [HR.out];simp) (by rw [HR.out];exact ⟨rfl,by simp only;omega⟩) rfl,zal HB.out (Nat.le_refl _) _ _ _ _ _ _ _ _⟩
theorem ziq (s x:zaa) (i:Nat) (w:World) (hs:s.length≤1000) (hx:x.length≤1000) (hi:i≤s.length):
 Calls prog 332 #[str s,.int .i64 i,str x] w fun u w'=>u=.returned (.bool (zdv s i x))∧Below w.heap.size w w':=by
 have hi0:(0:Int)≤(i:Int):=Int.natCast_nonneg _
 have HB:=Hd (show zdv s i x=(decide (i+x.length≤s.length)&&decide (((s.drop i).take x.length).map upU=x)) from rfl)
 obtain ⟨q,hq⟩:∃q,zdv s i x=q:=⟨_,rfl⟩
 rw [hq] at HB ⊢
 clear hq
 by_cases h:i+x.length≤s.length
 rotate_left
 ·have h1:¬(i:Int)+(x.length:Int)≤(s.length:Int):=by omega
  have HQ:=Hd (show false=q by rw [HB.out,decide_eq_false h,Bool.false_and])
  go_enter func332,ntmps332
  go_wp2
  go_ret
  exact ⟨congrArg (fun z=>Ending.returned (.bool z)) HQ.out,by go_grown⟩
 have h1:(i:Int)+(x.length:Int)≤(s.length:Int):=by omega
 have h2:(i:Int)≤(i:Int)+(x.length:Int):=by omega
 have HE:=Hd (zcs s i x.length)
 have HU:=Hd (zfo ((s.drop i).take x.length) · (by simp;omega))
 obtain ⟨y,hy⟩:∃y,((s.drop i).take x.length).map upU=y:=⟨_,rfl⟩
 rw [hy] at HU HB
 clear hy
 have HB2:=Hd (show decide (y=x)=q by rw [HB.out,decide_eq_true h,Bool.true_and])
 go_enter func332,ntmps332
 go_wp2_with fail
 rw [HE.out]
 refine (HU.out _).mono ?_
 rintro u w1 ⟨rfl,hb1⟩
 by_cases hxy:y=x
 ·have be:(y==x)=true:=by simpa using hxy
  have HQ:=Hd (show true=q by rw [← HB2.out,decide_eq_true hxy])
  clear hxy
  go_wp2
  go_ret
  exact ⟨congrArg (fun z=>Ending.returned (.bool z)) HQ.out,hb1⟩
 have be:(y==x)=false:=by simpa using hxy
 have HQ:=Hd (show false=q by rw [← HB2.out,decide_eq_false hxy])
 clear hxy
 go_wp2
 go_ret
 exact ⟨congrArg (fun z=>Ending.returned (.bool z)) HQ.out,hb1⟩
theorem zk3 (op:Nat) (w:World) (h1:1≤op) (h2:op≤13):
 Calls prog 333 #[.int .i64 op] w fun u w'=>u=.returned (str (opT op))∧w=w':=by
 rcases (by omega:op=1∨op=2∨op=3∨op=4∨op=5∨op=6∨op=7∨op=8∨op=9∨op=10∨op=11∨op=12∨op=13) with rfl | rfl | rfl | rfl | rfl | rfl | rfl | rfl | rfl | rfl | rfl | rfl | rfl
 all_goals
  go_enter func333,ntmps333
  go_wp2
  go_ret
  exact ⟨rfl,rfl⟩
def adrS (s:zaa) (i:Nat):Ref × Nat × Bool:=
 if letB (s.getD i 0)=false then (⟨0,0⟩,0,false) else ((parA (zaf s i)).1,i+(zaf s i).length,decide ((parA (zaf s i)).2=0)&&decide (ub s (i+(zaf s i).length)≠40))
theorem zhj (s:zaa) (i:Nat):(zaf s i).length=lenB alnB s i:=by
 unfold zaf
 rw [List.length_map,ze5]
theorem zri (s:zaa) (i:Nat):parR ((s.drop i).take (lenB alnB s i))=parA (zaf s i):=by
 unfold zaf
 rw [par_up,zyh]
theorem zhg (s:zaa) (i:Nat) (w:World) (hs:s.length≤1000) (hi:i≤s.length):
 Calls prog 330 #[str s,.int .i64 i] w fun u w'=>u=.returned (.tuple #[.agg #[.int .i64 (adrS s i).1.col,.int .i64 (adrS s i).1.row],.int .i64 (adrS s i).2.1,.bool (adrS s i).2.2])∧Below w.heap.size w w':=by
 have hi0:(0:Int)≤(i:Int):=Int.natCast_nonneg _
 have HA:=Hd (show adrS s i=if letB (s.getD i 0)=false then (⟨0,0⟩,0,false) else ((parA (zaf s i)).1,i+(zaf s i).length,decide ((parA (zaf s i)).2=0)&&decide (ub s (i+(zaf s i).length)≠40)) from rfl)
 obtain ⟨⟨⟨rc,rr⟩,en,ok⟩,hr⟩:∃r,adrS s i=r:=⟨_,rfl⟩
 rw [hr] at HA ⊢
 clear hr
 have HL:=Hd (zes s i)
 have HLN:=Hd (zhj s i)
 have hlim:=ze6 alnB s i
 have HP:=Hd (zri s i)
 have HW:=Hd (zhf s i · (by omega) hi)
 generalize hn:lenB alnB s i=n at *
 clear hn
 cases hl:letB (s.getD i 0)
 ·rw [hl] at HL HA
  have HA2:=Hd (HA.out.trans (if_pos rfl))
  go_enter func330,ntmps330
  go_wp2_with fail
  refine (HL.out _).mono ?_
  rintro u w1 ⟨rfl,rfl⟩
  go_wp2
  refine bodyPost_ret (v:=.tuple #[.agg #[.int .i64 0,.int .i64 0],.int .i64 0,.bool false]) (by simp (maxDischargeDepth:=9) [results,results330,go_sem]) rfl ?_
  exact ⟨by
   have:=HA2.out
   simp only [Prod.mk.injEq,Ref.mk.injEq] at this
   rw [this.1.1,this.1.2,this.2.1,this.2.2];rfl,by go_grown⟩
 rw [hl] at HL HA
 have HA2:=Hd (HA.out.trans (if_neg (by decide)))
 have HPR:=Hd (zic ((s.drop i).take n) · (by simp;omega))
 rw [HP.out] at HPR
 obtain ⟨⟨⟨pc,pr⟩,pe⟩,hpq⟩:∃r,parA (zaf s i)=r:=⟨_,rfl⟩
 rw [hpq] at HPR HA2
 rw [HLN.out] at HA2
 clear hpq hl HP HLN HA
 have HE:=Hd (zcs s i n)
 have hn0:(i:Int)≤(i:Int)+(n:Int):=by omega
 have hn1:(i:Int)+(n:Int)≤(s.length:Int):=by omega
 have hic:((i+n:Nat):Int)=(i:Int)+(n:Int):=by omega
 rw [hic] at HW
 go_enter func330,ntmps330
 go_wp2_with fail
 refine (HL.out _).mono ?_
 rintro u w1 ⟨rfl,rfl⟩
 go_wp2_with fail
 refine (HW.out _).mono ?_
 rintro u w1 ⟨rfl,rfl⟩
 go_wp2_with fail
 rw [HE.out]
 refine (HPR.out _).mono ?_
 rintro u w2 ⟨rfl,hb2⟩
 have KZ:=Hd ((Blk.new w 56 #[.int .i64 0,.int .i64 0]).below_ hb2)
 have HB2:=Hd (show Below w.heap.size w (w2.alloc (.cells #[.int .i64 pc,.int .i64 pr] 56)) from Below.alloc (nxt hb2) (by have:=hb2.size;simp at this;omega) _)
 have KP:=Hd (Blk.new w2 56 #[.int .i64 pc,.int .i64 pr])
 have KZ2:=Hd (KZ.out.alloc (.cells #[.int .i64 pc,.int .i64 pr] 56))
 clear hb2
 go_upto_region 5 with (fail)
 obtain ⟨g,hg⟩:∃g,g=w2.heap.size:=⟨_,rfl⟩
 obtain ⟨V,hV⟩:∃V,w2.alloc (.cells #[.int .i64 pc,.int .i64 pr] 56)=V:=⟨_,rfl⟩
 rw [hV] at HB2 KP KZ2 ⊢
 rw [← hg] at KP ⊢
 clear hV hg
 have z0:V.cell? ⟨w.heap.size,0,none⟩=some (.int .i64 0):=KZ2.out.cell 0
 have z1:V.cell? ⟨w.heap.size,1,none⟩=some (.int .i64 0):=KZ2.out.cell 1
 have zf:=fun o=>KZ2.out.frozen o
 have hzl:=KZ2.out.lt
 have p0:V.cell? ⟨g,0,none⟩=some (.int .i64 pc):=KP.out.cell 0
 have p1:V.cell? ⟨g,1,none⟩=some (.int .i64 pr):=KP.out.cell 1
 have HRES:Hid (∀q:Bool,q=(decide (pe=0)&&decide (ub s (i+n)≠40))→rc=pc∧rr=pr∧en=i+n∧ok=q):=Hd (fun q hq=>by
  have h:=HA2.out
  simp only [Prod.mk.injEq,Ref.mk.injEq] at h
  exact ⟨h.1.1,h.1.2,h.2.1,h.2.2.trans hq.symm⟩)
 have HBW:Hid (∀v0 v1:Value,Below w.heap.size w ((V.drew.setCell ⟨w.heap.size,0,none⟩ v0).setCell ⟨w.heap.size,1,none⟩ v1)):=Hd (fun v0 v1=>(HB2.out.drew.setCell (p:=⟨w.heap.size,0,none⟩) (Nat.le_refl _) v0).setCell (p:=⟨w.heap.size,1,none⟩) (Nat.le_refl _) v1)
 have HBX:Hid (∀v0 v1:Value,Below w.heap.size w (((V.setCell ⟨w.heap.size,0,none⟩ v0).setCell ⟨w.heap.size,1,none⟩ v1).drew)):=Hd (fun v0 v1=>((HB2.out.setCell (p:=⟨w.heap.size,0,none⟩) (Nat.le_refl _) v0).setCell (p:=⟨w.heap.size,1,none⟩) (Nat.le_refl _) v1).drew)
 clear HA2 HPR
 by_cases he:pe=0
 rotate_left
 ·have be:(pe==0)=false:=by simpa using he
  have HQ:=Hd (HRES.out false (by rw [decide_eq_false he];rfl))
  clear he HRES
  go_region
  go_wp2
  refine bodyPost_ret (v:=.tuple #[.agg #[.int .i64 pc,.int .i64 pr],.int .i64 ((i:Int)+(n:Int)),.bool false]) (by simp (maxDischargeDepth:=9) [results,results330,go_sem,z0,z1]) rfl ?_
  refine ⟨by rw [HQ.out.1,HQ.out.2.1,HQ.out.2.2.1,HQ.out.2.2.2];rfl,?_⟩
  first | exact HBW.out _ _ | exact HBX.out _ _
 have be:(pe==0)=true:=by simpa using he
 by_cases hend:i+n=s.length
 ·have bl:((i:Int)+(n:Int)==(s.length:Int))=true:=by simp only [beq_iff_eq];omega
  have HQ:=Hd (HRES.out true (by rw [decide_eq_true he,show ub s (i+n)=0 from by unfold ub;rw [zdc s (i+n) (by omega)];rfl];rfl))
  clear he HRES hend
  go_region
  go_wp2
  refine bodyPost_ret (v:=.tuple #[.agg #[.int .i64 pc,.int .i64 pr],.int .i64 ((i:Int)+(n:Int)),.bool true]) (by simp (maxDischargeDepth:=9) [results,results330,go_sem,z0,z1]) rfl ?_
  refine ⟨by rw [HQ.out.1,HQ.out.2.1,HQ.out.2.2.1,HQ.out.2.2.2];rfl,?_⟩
  first | exact HBW.out _ _ | exact HBX.out _ _
 have bl:((i:Int)+(n:Int)==(s.length:Int))=false:=by simp only [beq_eq_false_iff_ne,ne_eq];omega
 have hlt:i+n<s.length:=by omega
 have hlt1:(i:Int)+(n:Int)<(s.length:Int):=by omega
 have hx:=za2 s (i+n) (by rw [zad];exact hlt)
 have hu:=zkl s (i+n) rfl
 generalize s.getD (i+n) 0=c at *
 have HQ:=Hd (HRES.out ((c.toNat:Int) != 40) (by rw [decide_eq_true he,hu,Bool.true_and,Bool.eq_iff_iff];simp only [bne_iff_ne,ne_eq,decide_eq_true_eq];omega))
 have ht0:(0:Int)≤(i:Int)+(n:Int):=by omega
 have htn:((i:Int)+(n:Int)).toNat=i+n:=by omega
 clear he HRES hend hu
 go_region
 go_wp2
 refine bodyPost_ret (v:=.tuple #[.agg #[.int .i64 pc,.int .i64 pr],.int .i64 ((i:Int)+(n:Int)),.bool ((c.toNat:Int) != 40)]) (by simp (maxDischargeDepth:=9) [results,results330,go_sem,z0,z1]) rfl ?_
 refine ⟨by rw [HQ.out.1,HQ.out.2.1,HQ.out.2.2.1,HQ.out.2.2.2];rfl,?_⟩
 first | exact HBW.out _ _ | exact HBX.out _ _
theorem zza (k:Nat) (h1:1≤k) (h5:k≤5):zfw.drop (k-1)=errN k::zfw.drop k:=by
 rcases (by omega:k=1∨k=2∨k=3∨k=4∨k=5) with rfl | rfl | rfl | rfl | rfl <;> rfl
theorem zv8 (k:Nat) (h1:1≤k) (h5:k≤5):(errN k).length≤10:=by
 rcases (by omega:k=1∨k=2∨k=3∨k=4∨k=5) with rfl | rfl | rfl | rfl | rfl <;> decide
theorem zv7 (k:Nat) (h1:1≤k) (h5:k≤5):1≤(errN k).length:=by
 rcases (by omega:k=1∨k=2∨k=3∨k=4∨k=5) with rfl | rfl | rfl | rfl | rfl <;> decide
theorem zqa (s:zaa) (i:Nat) (code:Int) (x:zaa) (l:List zaa):zdd s i code (x::l)=if zdv s i x=true then (⟨4,code,[],z4,i⟩,x.length) else zdd s i (code+1) l:=by
 show (if i+x.length≤s.length∧((s.drop i).take x.length).map upU=x then ((⟨4,code,[],z4,i⟩:Tok),x.length) else zdd s i (code+1) l)=_
 unfold zdv
 by_cases h:i+x.length≤s.length∧((s.drop i).take x.length).map upU=x
 ·rw [if_pos h,if_pos (by rw [decide_eq_true h.1,decide_eq_true h.2];rfl)]
 rw [if_neg h,if_neg (by rw [Bool.and_eq_true,decide_eq_true_eq,decide_eq_true_eq];exact h)]
def zpx (s:zaa) (i:Nat):Tok × Nat:=if 0<(zc6 s i).2 then zc6 s i else zc3 s i
theorem zuj (s:zaa) (i:Nat) (w:World) (hs:s.length≤1000) (hi:i<s.length):
 Calls prog 316 #[str s,.int .i64 i] w fun u w'=>TokR i (zpx s i) u∧Below w.heap.size w w':=by
 have hi0:(0:Int)≤(i:Int):=Int.natCast_nonneg _
 have hi1:(i:Int)<(s.length:Int):=by omega
 have HLS:=Hd (show zpx s i=if 0<(zc6 s i).2 then zc6 s i else zc3 s i from rfl)
 have HSG:=Hd (show zc3 s i=match opsL s i opsW with
  | some r=>r
  | none=>if ub s i=40 then (⟨9,0,[],z4,i⟩,1) else if ub s i=41 then (⟨10,0,[],z4,i⟩,1) else if ub s i=44 then (⟨11,0,[],z4,i⟩,1) else (tok0,0) from rfl)
 have KZ:=Hd (show TokZ (w.alloc (.cells #[.int .u8 0,.int .i64 0,.string ⟨#[]⟩,.int .i64 0,.int .i64 0,.int .i64 0,.int .i64 0,.int .i64 0] 239)) w.heap.size from Blk.new w _ _)
 have HB0:=Hd (show Below w.heap.size w (w.alloc (.cells #[.int .u8 0,.int .i64 0,.string ⟨#[]⟩,.int .i64 0,.int .i64 0,.int .i64 0,.int .i64 0,.int .i64 0] 239)) by go_grown)
 go_enter func316,ntmps316
 go_wp2
 go_loopw [7,8] (fun v _ wr=>∃k:Nat,1≤k∧k≤6∧v=.int .i64 k∧zc6 s i=zdd s i k (zfw.drop (k-1))∧TokZ wr w.heap.size∧Below w.heap.size w wr) (fun v _ _=>6-(intOf v).toNat)
 case atStart=>exact ⟨1,by omega,by omega,rfl,rfl,KZ.out,HB0.out⟩
 obtain ⟨k,hk1,hk2,rfl,hfl,hkz,hbw⟩:=hrel
 have HF:=Hd hfl
 have Z1:=Hd hkz
 have HB:=Hd hbw
 clear hfl hkz hbw
 have k0:(0:Int)≤(k:Int):=by omega
 by_cases hlt:k≤5
 ·have hlt':(k:Int)≤5:=by omega
  have HE:=Hd (zza k hk1 hlt)
  have HL:=Hd (zv8 k hk1 hlt)
  have HP:=Hd (zv7 k hk1 hlt)
  have HSW:=Hd (zk2 k · hk1 hlt)
  generalize errN k=x at *
  have HBG:=Hd (ziq s x i · hs (by have:=HL.out;omega) (by omega))
  go_wp2_with fail
  refine (HSW.out _).mono ?_
  rintro u w1 ⟨rfl,hb1⟩
  have Z2:=Hd (show TokZ w1 w.heap.size from Blk.below_ Z1.out hb1)
  have HB1:=Hd (Below.next HB.out hb1 HB.out.size)
  clear hb1
  go_wp2_with fail
  refine (HBG.out _).mono ?_
  rintro u w2 ⟨rfl,hb2⟩
  have Z3:=Hd (show TokZ w2 w.heap.size from Blk.below_ Z2.out hb2)
  have HB2:=Hd (Below.next HB1.out hb2 HB1.out.size)
  have HFC:=Hd (show zc6 s i=if zdv s i x=true then (⟨4,k,[],z4,i⟩,x.length) else zdd s i ((k:Int)+1) (zfw.drop k) by rw [HF.out,HE.out,zqa])
  clear hb2 Z1 Z2 HB HB1
  cases hbg:zdv s i x
  ·have HF2:=Hd (show zc6 s i=zdd s i ((k+1:Nat):Int) (zfw.drop (k+1-1)) by rw [HFC.out,hbg];rfl)
   clear hbg
   go_wp2
   exact ⟨⟨k+1,by omega,by omega,by go_num,HF2.out,Z3.out,HB2.out⟩,by simp [intOf];omega⟩
  have HF2:=Hd (show zpx s i=(⟨4,k,[],z4,i⟩,x.length) by
   have h:zc6 s i=(⟨4,k,[],z4,i⟩,x.length):=by rw [HFC.out,hbg];rfl
   rw [HLS.out,if_pos (by rw [h];exact HP.out),h])
  have hxl:(x.length:Int)≤10:=by have:=HL.out;omega
  have hxz:(0:Int)≤(x.length:Int):=by omega
  clear hbg
  obtain ⟨q0,q1,q2,q3,q4,q5,q6,q7,qf⟩:=zac Z3.out
  go_wp2
  refine bodyPost_ret (v:=.tuple #[.agg (cTok ⟨4,k,[],z4,i⟩).toArray,.int .i64 ((i:Int)+(x.length:Int)),.bool true]) (by simp (maxDischargeDepth:=9) [results,results316,go_sem,q0,q1,q2,q3,q4,q5,q6,q7,cTok,z4]) rfl ?_
  exact ⟨TokR.yes ⟨4,k,[],z4,i⟩ _ (by rw [HF2.out];exact HP.out) (by rw [HF2.out];exact ⟨rfl,rfl⟩) rfl,zal HB2.out (Nat.le_refl _) _ _ _ _ _ _ _ _⟩
 have hlt':¬(k:Int)≤5:=by omega
 have HF2:=Hd (show zpx s i=zc3 s i by
  have h:zc6 s i=(tok0,0):=by rw [HF.out,show zfw.drop (k-1)=[] by rw [show k=6 by omega];rfl];rfl
  rw [HLS.out,if_neg (by rw [h];decide)])
 clear HF HLS
 go_wp2
 obtain ⟨wo,rfl⟩:∃wo:World,wo=wr:=⟨_,rfl⟩
 go_loopw [9,10,11] (fun v _ _ wr=>∃z:Nat,z≤2∧v=.int .i64 z∧opsL s i opsW=(if z=0 then none else opsL s i (opF z 1))∧TokZ wr w.heap.size∧Below w.heap.size w wr) (fun v _ _ _=>(intOf v).toNat)
 case atStart=>exact ⟨2,by omega,rfl,by rw [if_neg (by decide),zrn],Z1.out,HB.out⟩
 obtain ⟨z,hz,rfl,hops,hkz,hbw⟩:=hrel
 have HO:=Hd hops
 have Z2:=Hd hkz
 have HB2:=Hd hbw
 clear hops hkz hbw
 have z0:(0:Int)≤(z:Int):=by omega
 have z2:(z:Int)≤2:=by omega
 by_cases hz0:z=0
 ·subst hz0
  have HO2:=Hd (show zc3 s i=if ub s i=40 then (⟨9,0,[],z4,i⟩,1) else if ub s i=41 then (⟨10,0,[],z4,i⟩,1) else if ub s i=44 then (⟨11,0,[],z4,i⟩,1) else (tok0,0) by rw [HSG.out,HO.out,if_pos rfl])
  have hx:=za2 s i (by rw [zad];exact hi)
  have hu:=zkl s i rfl
  generalize s.getD i 0=c at *
  rw [hu] at HO2
  obtain ⟨q0,q1,q2,q3,q4,q5,q6,q7,qf⟩:=zac Z2.out
  clear hu
  by_cases h40:c.toNat=40
  ·have t1:=zf0 c 40 h40
   have HR:=Hd ((HF2.out.trans HO2.out).trans (if_pos h40))
   clear h40
   go_wp2
   refine bodyPost_ret (v:=.tuple #[.agg (cTok ⟨9,0,[],z4,i⟩).toArray,.int .i64 ((i:Int)+1),.bool true]) (by simp (maxDischargeDepth:=9) [results,results316,go_sem,q0,q1,q2,q3,q4,q5,q6,q7,cTok,z4]) rfl ?_
   exact ⟨TokR.yes ⟨9,0,[],z4,i⟩ _ (by rw [HR.out];exact Nat.zero_lt_one) (by rw [HR.out];exact ⟨rfl,rfl⟩) rfl,zal HB2.out (Nat.le_refl _) _ _ _ _ _ _ _ _⟩
  have t1:=zeu c 40 h40
  by_cases h41:c.toNat=41
  ·have t2:=zf0 c 41 h41
   have HR:=Hd ((HF2.out.trans HO2.out).trans ((if_neg h40).trans (if_pos h41)))
   clear h40 h41
   go_wp2
   refine bodyPost_ret (v:=.tuple #[.agg (cTok ⟨10,0,[],z4,i⟩).toArray,.int .i64 ((i:Int)+1),.bool true]) (by simp (maxDischargeDepth:=9) [results,results316,go_sem,q0,q1,q2,q3,q4,q5,q6,q7,cTok,z4]) rfl ?_
   exact ⟨TokR.yes ⟨10,0,[],z4,i⟩ _ (by rw [HR.out];exact Nat.zero_lt_one) (by rw [HR.out];exact ⟨rfl,rfl⟩) rfl,zal HB2.out (Nat.le_refl _) _ _ _ _ _ _ _ _⟩
  have t2:=zeu c 41 h41
  by_cases h44:c.toNat=44
  ·have t3:=zf0 c 44 h44
   have HR:=Hd ((HF2.out.trans HO2.out).trans ((if_neg h40).trans ((if_neg h41).trans (if_pos h44))))
   clear h40 h41 h44
   go_wp2
   refine bodyPost_ret (v:=.tuple #[.agg (cTok ⟨11,0,[],z4,i⟩).toArray,.int .i64 ((i:Int)+1),.bool true]) (by simp (maxDischargeDepth:=9) [results,results316,go_sem,q0,q1,q2,q3,q4,q5,q6,q7,cTok,z4]) rfl ?_
   exact ⟨TokR.yes ⟨11,0,[],z4,i⟩ _ (by rw [HR.out];exact Nat.zero_lt_one) (by rw [HR.out];exact ⟨rfl,rfl⟩) rfl,zal HB2.out (Nat.le_refl _) _ _ _ _ _ _ _ _⟩
  have t3:=zeu c 44 h44
  have HR:=Hd ((HF2.out.trans HO2.out).trans ((if_neg h40).trans ((if_neg h41).trans (if_neg h44))))
  clear h40 h41 h44
  go_wp2
  refine bodyPost_ret (v:=.tuple #[.agg (cTok ⟨0,0,[],z4,0⟩).toArray,.int .i64 0,.bool false]) (by simp (maxDischargeDepth:=9) [results,results316,go_sem,q0,q1,q2,q3,q4,q5,q6,q7,cTok,z4]) rfl ?_
  exact ⟨TokR.no _ _ (by rw [HR.out]) rfl,zal HB2.out (Nat.le_refl _) _ _ _ _ _ _ _ _⟩
 have hz1:(0:Int)<(z:Int):=by omega
 have dz:decide ((0:Int)<(z:Int))=true:=decide_eq_true hz1
 have hzn:0<z:=by omega
 have dzn:decide (0<z)=true:=decide_eq_true hzn
 have HO1:=Hd (HO.out.trans (if_neg hz0))
 have hz12:z=1∨z=2:=by omega
 clear HO hz0
 go_wp2
 obtain ⟨wo2,rfl⟩:∃wo2:World,wo2=wr:=⟨_,rfl⟩
 go_loopw [10,11] (fun v _ wr=>∃op:Nat,1≤op∧op≤14∧v=.int .i64 op∧opsL s i opsW=opsL s i (opF z op)∧TokZ wr w.heap.size∧Below w.heap.size w wr) (fun v _ _=>14-(intOf v).toNat)
 case atStart=>exact ⟨1,by omega,by omega,rfl,HO1.out,Z2.out,HB2.out⟩
 obtain ⟨op,ho1,ho2,rfl,hops,hkz,hbw⟩:=hrel
 have HO:=Hd hops
 have Z3:=Hd hkz
 have HB3:=Hd hbw
 clear hops hkz hbw
 have o0:(0:Int)≤(op:Int):=by omega
 by_cases hlo:op≤13
 rotate_left
 ·have hlo':¬(op:Int)≤13:=by omega
  have HO5:=Hd (show opsL s i opsW=if z-1=0 then none else opsL s i (opF (z-1) 1) by
   rw [HO.out,show op=14 by omega]
   rcases hz12 with rfl | rfl
   ·rfl
   rfl)
  have hzz:(z:Int)-1=((z-1:Nat):Int):=by omega
  have HZZ:=Hd hzz
  clear hzz
  go_wp2
  exact ⟨⟨z-1,by omega,by rw [HZZ.out],HO5.out,Z3.out,HB3.out⟩,by simp [intOf];omega⟩
 have hlo':(op:Int)≤13:=by omega
 have HST:=Hd (zvb z op hz12 ho1 hlo)
 have HOP:=Hd (zk3 op · ho1 hlo)
 have HXL:=Hd (zym ⟨op,by omega⟩)
 have HPL:=Hd (ztc s i (opT op) (by omega) (zrl ⟨op,by omega⟩))
 simp only at HXL
 generalize opT op=x at *
 have HBG:=Hd (ziq s x i · hs (by have:=HXL.out;omega) (by omega))
 go_wp2_with fail
 refine (HOP.out _).mono ?_
 rintro u w1 ⟨rfl,rfl⟩
 by_cases hxl:x.length=z
 rotate_left
 ·have bl:((x.length:Int)==(z:Int))=false:=by simp only [beq_eq_false_iff_ne,ne_eq];omega
  have HO5:=Hd (show opsL s i opsW=opsL s i (opF z (op+1)) by rw [HO.out,HST.out,if_neg hxl])
  clear hxl
  go_wp2
  exact ⟨⟨op+1,by omega,by omega,by go_num,HO5.out,Z3.out,HB3.out⟩,by simp [intOf];omega⟩
 have bl:((x.length:Int)==(z:Int))=true:=by simp only [beq_iff_eq];omega
 have HO4:=Hd (show opsL s i opsW=if zdv s i x=true then some (⟨8,op,[],z4,i⟩,x.length) else opsL s i (opF z (op+1)) by
  rw [HO.out,HST.out,if_pos hxl,HPL.out]
  rfl)
 have HXZ:=Hd hxl
 clear hxl
 go_wp2_with fail
 refine (HBG.out _).mono ?_
 rintro u w2 ⟨rfl,hb2⟩
 have Z4:=Hd (show TokZ w2 w.heap.size from Blk.below_ Z3.out hb2)
 have HB4:=Hd (Below.next HB3.out hb2 HB3.out.size)
 clear hb2 Z3 HB3
 cases hbg:zdv s i x
 ·have HO5:=Hd (show opsL s i opsW=opsL s i (opF z (op+1)) by rw [HO4.out,hbg];rfl)
  clear hbg
  go_wp2
  exact ⟨⟨op+1,by omega,by omega,by go_num,HO5.out,Z4.out,HB4.out⟩,by simp [intOf];omega⟩
 have HR:=Hd (show zpx s i=(⟨8,op,[],z4,i⟩,z) by
  rw [HF2.out,HSG.out,HO4.out,hbg,HXZ.out]
  rfl)
 clear hbg
 obtain ⟨q0,q1,q2,q3,q4,q5,q6,q7,qf⟩:=zac Z4.out
 go_wp2
 refine bodyPost_ret (v:=.tuple #[.agg (cTok ⟨8,op,[],z4,i⟩).toArray,.int .i64 ((i:Int)+(z:Int)),.bool true]) (by simp (maxDischargeDepth:=9) [results,results316,go_sem,q0,q1,q2,q3,q4,q5,q6,q7,cTok,z4]) rfl ?_
 exact ⟨TokR.yes ⟨8,op,[],z4,i⟩ _ (by rw [HR.out];show 0<z;omega) (by rw [HR.out];exact ⟨rfl,rfl⟩) rfl,zal HB4.out (Nat.le_refl _) _ _ _ _ _ _ _ _⟩
end Go.Proofs.YtamcgggmfghljaaGreatDoor
