/- walk -/
import Derived.WalkMore
import Derived.Test.YtamcgggmfghljaaGreatDoorE14
set_option maxRecDepth 100000
set_option maxHeartbeats 8000000
open Go.Proofs.Tryz
namespace Go.Proofs.YtamcgggmfghljaaGreatDoor
open Go.RowKit
variable {i:Nat}
theorem zrl (v:Value) (l:zaa) (b:Bool) (w:World) (h:Out w v l) (hl:l.length<=100000000000):
 Calls prog 95 #[v,.bool b] w λe w'=>∃v',e=.returned v'/\Out w' v' (l++zh7 b)/\OutTo w v w' v':=by
 have H:=Hd h;clear h;cases b
 all_goals
  go_enter func95,ntmps95;go_wp2_with fail;refine (zb6 v l _ _ H.o hl).mono ?_;rintro e w1 ⟨v1,rfl,o1,t1⟩;have O1:=Hd o1;have T1:=Hd t1;clear o1 t1;go_wp2;go_ret;exact ⟨_,rfl,O1.o,T1.o⟩
theorem zqc (v:Value) (l s:zaa) (w:World) (h:Out w v l) (hs:s.length<=1000000000) (hl:l.length<=10000000000):
 Calls prog 87 #[v,str s] w λe w'=>∃v',e=.returned v'/\Out w' v' (l++zcv s)/\OutTo w v w' v':=by
 obtain ⟨i0,hi0,hz0,hz1,hz2⟩:=info_parts (show (prog.info? 5).map (λi=>(i.zero,i.size,i.bytes))=some (some (.int .u8 0),1,1) by kernel_rfl);have H:=Hd h;clear h;have n1:=zab s.length;go_enter func87,ntmps87;go_wp2_with fail;refine (zb6 v l _ _ H.o (by omega)).mono ?_;rintro e w1 ⟨v1,rfl,o1,t1⟩;have O1:=Hd o1;have T1:=Hd t1;clear o1 t1;go_wp2_with (at_builtin;refine zfv rfl _ _ 59 9 rfl i0 rfl rfl hi0 hz0 hz1 hz2 v1 _ s rfl O1.o rfl (by simp;omega) (by omega) ?_;intro v2 w2 o2 t2);have O2:=Hd o2;have T2:=Hd (T1.o.trans t2);clear o2 t2;go_wp2;go_ret;exact ⟨_,rfl,by simpa [zcv] using O2.o,T2.o⟩
theorem zzs (n:Int) (w:World) (h:n≠ -9223372036854775808):
 Calls prog 221 #[.int .i64 n] w λu w'=>u=.returned (.agg #[.int .u8 1,.int .i64 n,str []])/\Below w w w':=by
 have h1:(n== -9223372036854775808)=false:=by simpa using h
 clear h;go_enter func221,ntmps221;go_wp2;refine jO results221 (v:=.agg #[.int .u8 1,.int .i64 n,str []]) ?_;exact ⟨rfl,by go_grown⟩
theorem zro (n:Int) (w:World):
 Calls prog 218 #[.int .i64 n] w λu w'=>∃m:Int,u=.returned (.agg #[.int .u8 4,.int .i64 m,str []])/\Below w w w':=by
 by_cases h1:n<1
 ·skip
  go_enter func218,ntmps218;go_wp2;refine jO results218 (v:=.agg #[.int .u8 4,.int .i64 2,str []]) ?_;exact ⟨_,rfl,by go_grown⟩
 by_cases h2:7<n
 ·skip
  go_enter func218,ntmps218;go_wp2;refine jO results218 (v:=.agg #[.int .u8 4,.int .i64 2,str []]) ?_;exact ⟨⟨_,rfl⟩,by go_grown⟩
 skip
 go_enter func218,ntmps218;go_wp2;refine jO results218 (v:=.agg #[.int .u8 4,.int .i64 n,str []]) ?_;exact ⟨⟨_,rfl⟩,by go_grown⟩
theorem z3v (k:Nat) (h1:1<=k) (h5:k<=5):zhn.drop (k-1)=errN k::zhn.drop k:=by
 rcases (by omega:k=1\/k=2\/k=3\/k=4\/k=5) with rfl|rfl|rfl|rfl|rfl <;> rfl
theorem z0k (k:Nat) (h1:1<=k) (h5:k<=5):(errN k).length<=10:=by
 rcases (by omega:k=1\/k=2\/k=3\/k=4\/k=5) with rfl|rfl|rfl|rfl|rfl <;> decide
theorem z0j (k:Nat) (h1:1<=k) (h5:k<=5):1<=(errN k).length:=by
 rcases (by omega:k=1\/k=2\/k=3\/k=4\/k=5) with rfl|rfl|rfl|rfl|rfl <;> decide
theorem zty (s:zaa) (i:Nat) (code:Int) (x:zaa) (l:List zaa):zd0 s i code (x::l)=if zem s i x=true then (⟨4,code,[],z4,i⟩,x.length) else zd0 s i (code+1) l:=by
 show (if i+x.length<=s.length/\((s.drop i).take x.length).map upU=x then ((⟨4,code,[],z4,i⟩:Tok),x.length) else zd0 s i (code+1) l)=_;unfold zem;by_cases h:i+x.length<=s.length/\((s.drop i).take x.length).map upU=x
 ·rw[jb h,jb (by rw[jB h.1,jB h.2];rfl)]
 rw[ja h,ja (by rw[ji,decide_eq_true_eq,decide_eq_true_eq];exact h)]
def ztm (s:zaa) (i:Nat):Tok × Nat:=if 0<(zdo s i).2 then zdo s i else zdl s i
theorem zyz (s:zaa) (i:Nat) (w:World) (hs:s.length<=1000) (hi:i<s.length):
 Calls prog 316 #[str s,.int .i64 i] w λu w'=>TokR i (ztm s i) u/\Below w w w':=by
 have hi0:(0:Int)<=(i:Int):=jw _;have hi1:(i:Int)<(s.length:Int):=by omega
 have HLS:=jM (ztm s i=if 0<(zdo s i).2 then zdo s i else zdl s i) rfl;have HSG:=jM (zdl s i=match opsL s i opsW with
  | some r=>r
  | none=>if ub s i=40 then (⟨9,0,[],z4,i⟩,1) else if ub s i=41 then (⟨10,0,[],z4,i⟩,1) else if ub s i=44 then (⟨11,0,[],z4,i⟩,1) else (tok0,0)) rfl
 have KZ:=jM (TokZ (w.alloc (.cells aU 239)) w.heap.size) (je w _ _);have HB0:=jM (Below w w (w.alloc (.cells aU 239))) (by go_grown);go_enter func316,ntmps316;go_wp2;go_loopw [7,8] (λv _ wr=>∃k:Nat,1<=k/\k<=6/\v=.int .i64 k/\zdo s i=zd0 s i k (zhn.drop (k-1))/\TokZ wr w.heap.size/\Below w w wr) (λv _ _=>6-(intOf v).toNat)
 case atStart=>exact ⟨1,by omega,by omega,rfl,rfl,KZ.o,HB0.o⟩
 obtain ⟨k,hk1,hk2,rfl,hfl,hkz,hbw⟩:=hrel;have HF:=Hd hfl;have Z1:=Hd hkz;have HB:=Hd hbw;clear hfl hkz hbw;have k0:(0:Int)<=(k:Int):=by omega
 by_cases hlt:k<=5
 ·have hlt':(k:Int)<=5:=by omega
  have HE:=Hd (z3v k hk1 hlt);have HL:=Hd (z0k k hk1 hlt);have HP:=Hd (z0j k hk1 hlt);have HSW:=Hd (znm k · hk1 hlt);generalize errN k=x at *;have HBG:=Hd (zkw s x i · hs (by have:=HL.o;omega) (by omega));go_wp2_with fail;refine (HSW.o _).mono ?_;rintro u w1 ⟨rfl,hb1⟩;have Z2:=jM (TokZ w1 w.heap.size) (Blk.below_ Z1.o hb1);have HB1:=Hd (jd HB.o hb1 HB.o.size);clear hb1;go_wp2_with fail;refine (HBG.o _).mono ?_;rintro u w2 ⟨rfl,hb2⟩;have Z3:=jM (TokZ w2 w.heap.size) (Blk.below_ Z2.o hb2);have HB2:=Hd (jd HB1.o hb2 HB1.o.size);have HFC:=jM (zdo s i=if zem s i x=true then (⟨4,k,[],z4,i⟩,x.length) else zd0 s i ((k:Int)+1) (zhn.drop k)) (by rw[HF.o,HE.o,zty]);clear hb2 Z1 Z2 HB HB1;cases hbg:zem s i x
  ·have HF2:=jM (zdo s i=zd0 s i ((k+1:Nat):Int) (zhn.drop (k+1-1))) (by rw[HFC.o,hbg];rfl);clear hbg;go_wp2;exact ⟨⟨k+1,by omega,by omega,by go_num,HF2.o,Z3.o,HB2.o⟩,by simp[intOf];omega⟩
  have HF2:=Hd (show ztm s i=(⟨4,k,[],z4,i⟩,x.length) by
   have h:zdo s i=(⟨4,k,[],z4,i⟩,x.length):=by rw[HFC.o,hbg];rfl
   rw[HLS.o,jb (by rw[h];exact HP.o),h])
  have hxl:(x.length:Int)<=10:=by have:=HL.o;omega
  have hxz:(0:Int)<=(x.length:Int):=by omega
  clear hbg;obtain ⟨q0,q1,q2,q3,q4,q5,q6,q7,qf⟩:=zad Z3.o;go_wp2;refine jO results316 (v:=.tuple #[.agg (cTok ⟨4,k,[],z4,i⟩).toArray,.int .i64 ((i:Int)+(x.length:Int)),.bool true]) ?_ (by simp (maxDischargeDepth:=9) [jQ,go_sem,q0,q1,q2,q3,q4,q5,q6,q7,cTok,z4]);exact ⟨TokR.yes ⟨4,k,[],z4,i⟩ _ (by rw[HF2.o];exact HP.o) (by rw[HF2.o];exact ⟨rfl,rfl⟩) rfl,zan HB2.o jy _ _ _ _ _ _ _ _⟩
 have hlt':¬(k:Int)<=5:=by omega
 have HF2:=Hd (show ztm s i=zdl s i by
  have h:zdo s i=(tok0,0):=by rw[HF.o,show zhn.drop (k-1)=[] by rw[show k=6 by omega];rfl];rfl
  rw[HLS.o,ja (by rw[h];decide)])
 clear HF HLS;go_wp2;obtain ⟨wo,rfl⟩:∃wo:World,wo=wr:=⟨_,rfl⟩;go_loopw [9,10,11] (λv _ _ wr=>∃z:Nat,z<=2/\v=.int .i64 z/\opsL s i opsW=(if z=0 then none else opsL s i (opF z 1))/\TokZ wr w.heap.size/\Below w w wr) (λv _ _ _=>(intOf v).toNat)
 case atStart=>exact ⟨2,by omega,rfl,by rw[ja (by decide),zvv],Z1.o,HB.o⟩
 obtain ⟨z,hz,rfl,hops,hkz,hbw⟩:=hrel;have HO:=Hd hops;have Z2:=Hd hkz;have HB2:=Hd hbw;clear hops hkz hbw;have z0:(0:Int)<=(z:Int):=by omega
 have z2:(z:Int)<=2:=by omega
 by_cases hz0:z=0
 ·subst hz0;have HO2:=jM (zdl s i=if ub s i=40 then (⟨9,0,[],z4,i⟩,1) else if ub s i=41 then (⟨10,0,[],z4,i⟩,1) else if ub s i=44 then (⟨11,0,[],z4,i⟩,1) else (tok0,0)) (by rw[HSG.o,HO.o,jb rfl]);have hx:=za3 s i (by rw[zae];exact hi);have hu:=zm2 s i rfl;generalize s.getD i 0=c at *;rw[hu] at HO2;obtain ⟨q0,q1,q2,q3,q4,q5,q6,q7,qf⟩:=zad Z2.o;clear hu;by_cases h40:c.toNat=40
  ·have t1:=zhs c 40 h40;have HR:=Hd ((HF2.o.trans HO2.o).trans (jb h40));clear h40;go_wp2;refine jO results316 (v:=.tuple #[.agg (cTok ⟨9,0,[],z4,i⟩).toArray,.int .i64 ((i:Int)+1),.bool true]) ?_ (by simp (maxDischargeDepth:=9) [jQ,go_sem,q0,q1,q2,q3,q4,q5,q6,q7,cTok,z4]);exact ⟨TokR.yes ⟨9,0,[],z4,i⟩ _ (by rw[HR.o];exact Nat.zero_lt_one) (by rw[HR.o];exact ⟨rfl,rfl⟩) rfl,zan HB2.o jy _ _ _ _ _ _ _ _⟩
  have t1:=zf4 c 40 h40;by_cases h41:c.toNat=41
  ·have t2:=zhs c 41 h41;have HR:=Hd ((HF2.o.trans HO2.o).trans ((ja h40).trans (jb h41)));clear h40 h41;go_wp2;refine jO results316 (v:=.tuple #[.agg (cTok ⟨10,0,[],z4,i⟩).toArray,.int .i64 ((i:Int)+1),.bool true]) ?_ (by simp (maxDischargeDepth:=9) [jQ,go_sem,q0,q1,q2,q3,q4,q5,q6,q7,cTok,z4]);exact ⟨TokR.yes ⟨10,0,[],z4,i⟩ _ (by rw[HR.o];exact Nat.zero_lt_one) (by rw[HR.o];exact ⟨rfl,rfl⟩) rfl,zan HB2.o jy _ _ _ _ _ _ _ _⟩
  have t2:=zf4 c 41 h41;by_cases h44:c.toNat=44
  ·have t3:=zhs c 44 h44;have HR:=Hd ((HF2.o.trans HO2.o).trans ((ja h40).trans ((ja h41).trans (jb h44))));clear h40 h41 h44;go_wp2;refine jO results316 (v:=.tuple #[.agg (cTok ⟨11,0,[],z4,i⟩).toArray,.int .i64 ((i:Int)+1),.bool true]) ?_ (by simp (maxDischargeDepth:=9) [jQ,go_sem,q0,q1,q2,q3,q4,q5,q6,q7,cTok,z4]);exact ⟨TokR.yes ⟨11,0,[],z4,i⟩ _ (by rw[HR.o];exact Nat.zero_lt_one) (by rw[HR.o];exact ⟨rfl,rfl⟩) rfl,zan HB2.o jy _ _ _ _ _ _ _ _⟩
  have t3:=zf4 c 44 h44;have HR:=Hd ((HF2.o.trans HO2.o).trans ((ja h40).trans ((ja h41).trans (ja h44))));clear h40 h41 h44;go_wp2;refine jO results316 (v:=.tuple #[.agg (cTok ⟨0,0,[],z4,0⟩).toArray,.int .i64 0,.bool false]) ?_ (by simp (maxDischargeDepth:=9) [jQ,go_sem,q0,q1,q2,q3,q4,q5,q6,q7,cTok,z4]);exact ⟨TokR.no _ _ (by rw[HR.o]) rfl,zan HB2.o jy _ _ _ _ _ _ _ _⟩
 have hz1:(0:Int)<(z:Int):=by omega
 have dz:decide ((0:Int)<(z:Int))=true:=jB hz1;have hzn:0<z:=by omega
 have dzn:decide (0<z)=true:=jB hzn;have HO1:=Hd (HO.o.trans (ja hz0));have hz12:z=1\/z=2:=by omega
 clear HO hz0;go_wp2;obtain ⟨wo2,rfl⟩:∃wo2:World,wo2=wr:=⟨_,rfl⟩;go_loopw [10,11] (λv _ wr=>∃op:Nat,1<=op/\op<=14/\v=.int .i64 op/\opsL s i opsW=opsL s i (opF z op)/\TokZ wr w.heap.size/\Below w w wr) (λv _ _=>14-(intOf v).toNat)
 case atStart=>exact ⟨1,by omega,by omega,rfl,HO1.o,Z2.o,HB2.o⟩
 obtain ⟨op,ho1,ho2,rfl,hops,hkz,hbw⟩:=hrel;have HO:=Hd hops;have Z3:=Hd hkz;have HB3:=Hd hbw;clear hops hkz hbw;have o0:(0:Int)<=(op:Int):=by omega
 by_cases hlo:op<=13;rotate_left
 ·have hlo':¬(op:Int)<=13:=by omega
  have HO5:=Hd (show opsL s i opsW=if z-1=0 then none else opsL s i (opF (z-1) 1) by
   rw[HO.o,show op=14 by omega];rcases hz12 with rfl|rfl
   ·rfl
   rfl)
  have hzz:(z:Int)-1=((z-1:Nat):Int):=by omega
  have HZZ:=Hd hzz;clear hzz;go_wp2;exact ⟨⟨z-1,by omega,by rw[HZZ.o],HO5.o,Z3.o,HB3.o⟩,by simp[intOf];omega⟩
 have hlo':(op:Int)<=13:=by omega
 have HST:=Hd (zzl z op hz12 ho1 hlo);have HOP:=Hd (znn op · ho1 hlo);have HXL:=Hd (z20 ⟨op,by omega⟩);have HPL:=Hd (zxk s i (opT op) (by omega) (zvt ⟨op,by omega⟩));simp only at HXL;generalize opT op=x at *;have HBG:=Hd (zkw s x i · hs (by have:=HXL.o;omega) (by omega));go_wp2_with fail;refine (HOP.o _).mono ?_;rintro u w1 ⟨rfl,rfl⟩;by_cases hxl:x.length=z;rotate_left
 ·have bl:((x.length:Int)==(z:Int))=false:=by simp only[jI,ne_eq];omega
  have HO5:=jM (opsL s i opsW=opsL s i (opF z (op+1))) (by rw[HO.o,HST.o,ja hxl]);clear hxl;go_wp2;exact ⟨⟨op+1,by omega,by omega,by go_num,HO5.o,Z3.o,HB3.o⟩,by simp[intOf];omega⟩
 have bl:((x.length:Int)==(z:Int))=true:=by simp only[beq_iff_eq];omega
 have HO4:=Hd (show opsL s i opsW=if zem s i x=true then some (⟨8,op,[],z4,i⟩,x.length) else opsL s i (opF z (op+1)) by
  rw[HO.o,HST.o,jb hxl,HPL.o];rfl)
 have HXZ:=Hd hxl;clear hxl;go_wp2_with fail;refine (HBG.o _).mono ?_;rintro u w2 ⟨rfl,hb2⟩;have Z4:=jM (TokZ w2 w.heap.size) (Blk.below_ Z3.o hb2);have HB4:=Hd (jd HB3.o hb2 HB3.o.size);clear hb2 Z3 HB3;cases hbg:zem s i x
 ·have HO5:=jM (opsL s i opsW=opsL s i (opF z (op+1))) (by rw[HO4.o,hbg];rfl);clear hbg;go_wp2;exact ⟨⟨op+1,by omega,by omega,by go_num,HO5.o,Z4.o,HB4.o⟩,by simp[intOf];omega⟩
 have HR:=Hd (show ztm s i=(⟨8,op,[],z4,i⟩,z) by
  rw[HF2.o,HSG.o,HO4.o,hbg,HXZ.o];rfl)
 clear hbg;obtain ⟨q0,q1,q2,q3,q4,q5,q6,q7,qf⟩:=zad Z4.o;go_wp2;refine jO results316 (v:=.tuple #[.agg (cTok ⟨8,op,[],z4,i⟩).toArray,.int .i64 ((i:Int)+(z:Int)),.bool true]) ?_ (by simp (maxDischargeDepth:=9) [jQ,go_sem,q0,q1,q2,q3,q4,q5,q6,q7,cTok,z4]);exact ⟨TokR.yes ⟨8,op,[],z4,i⟩ _ (by rw[HR.o];show 0<z;omega) (by rw[HR.o];exact ⟨rfl,rfl⟩) rfl,zan HB4.o jy _ _ _ _ _ _ _ _⟩
theorem z1t (s:zaa) (p:Nat) (h:ub s p=58):twoB s p=(adrS s (p+1)).2.2:=by
 unfold twoB adrS;rw[jB h,Bool.true_and];cases letB (s.getD (p+1) 0)
 ·rfl
 rw[ja (by decide),Bool.true_and]
theorem z36 {s:zaa} (h:letB (s.getD i 0)=true):adrS s i=((parA (zag s i)).1,i+(zag s i).length,decide ((parA (zag s i)).2=0)&&decide (ub s (i+(zag s i).length)≠40)):=by
 unfold adrS;rw[ja (by rw[h];decide)]
theorem z35 {s:zaa} {i:Nat} (h:(adrS s i).2.2=true):(adrS s i).1=(parA (zag s i)).1/\(adrS s i).2.1=i+(zag s i).length:=by
 unfold adrS at h ⊢;split
 ·rename_i hl;rw[jb hl] at h;cases h
 exact ⟨rfl,rfl⟩
abbrev tokW (k:Int) (a b c d:Int) (i:Nat):Array Value:=#[.int .u8 k,.int .i64 0,str [],.int .i64 a,.int .i64 b,.int .i64 c,.int .i64 d,.int .i64 i]
theorem zyx (s:zaa) (i:Nat) (w:World) (hs:s.length<=1000) (hi:i<s.length) (hl:letB (s.getD i 0)=true):
 Calls prog 315 #[str s,.int .i64 i] w λu w'=>TokR i (zbq s i) u/\Below w w w':=by
 have hi0:(0:Int)<=(i:Int):=jw _;have hlim:=zgk alnB s i;have HLN:=Hd (zjk s i);have HW:=Hd (zjf s i · (by omega) (by omega));have HWS:Hid (zbq s i=if ub s (i+lenB alnB s i)=40 then (⟨7,0,zag s i,z4,i⟩,lenB alnB s i)
  else if zag s i=zx8 then (⟨3,1,[],z4,i⟩,lenB alnB s i)
  else if zag s i=zrn then (⟨3,0,[],z4,i⟩,lenB alnB s i)
  else if (parA (zag s i)).2≠0 then (tok0,0)
  else if twoB s (i+lenB alnB s i) then
   (⟨if (parA (zag s i)).1=(parA (zag s (i+lenB alnB s i+1))).1 then 5 else 6,0,[],zoe (parA (zag s i)).1 (parA (zag s (i+lenB alnB s i+1))).1,i⟩,lenB alnB s i+1+(zag s (i+lenB alnB s i+1)).length)
  else (⟨5,0,[],⟨(parA (zag s i)).1.col,(parA (zag s i)).1.row,(parA (zag s i)).1.col,(parA (zag s i)).1.row⟩,i⟩,lenB alnB s i)):=Hd (by
  unfold zbq;rw[ja (by rw[hl];decide),zjk])
 have HAD:=Hd (z36 hl);have HRA:=Hd (zjg s i · hs (by omega));rw[HLN.o] at HAD;have HPOS:=Hd (show 0<lenB alnB s i by
  rw[zdx alnB s i hi,jb (by unfold alnB;rw[hl];rfl)];omega)
 have HUP:=Hd (zhh ((s.drop i).take (lenB alnB s i)) · (by simp;omega));rw[show ((s.drop i).take (lenB alnB s i)).map upU=zag s i from rfl] at HUP;have HE:=Hd (zdc s i (lenB alnB s i));generalize lenB alnB s i=n at *;generalize zag s i=P at *;obtain ⟨⟨⟨pc,pr⟩,pe⟩,hpq⟩:∃r,parA P=r:=⟨_,rfl⟩;rw[hpq] at HWS HAD;clear hpq hl HLN;have hic:((i+n:Nat):Int)=(i:Int)+(n:Int):=by omega
 rw[hic] at HW;have hn0:(i:Int)<=(i:Int)+(n:Int):=by omega
 have hn1:(i:Int)+(n:Int)<=(s.length:Int):=by omega
 have ht0:(0:Int)<=(i:Int)+(n:Int):=by omega
 have htn:((i:Int)+(n:Int)).toNat=i+n:=by omega
 clear hic;have KZ:=jM (TokZ (w.alloc (.cells aU 239)) w.heap.size) (je w _ _);have HB0:=jM (Below w w (w.alloc (.cells aU 239))) (by go_grown);have HX:=Hd (λh=>za3 s (i+n) h);have HU:=Hd (λc (h:s.getD (i+n) 0=c)=>zm2 s (i+n) h);have HGD:Hid (∀v:Nat,v≠0->(ub s (i+n)=v↔i+n<s.length/\(s.getD (i+n) 0).toNat=v)):=Hd (λv hv=>by
  constructor
  ·intro h;refine ⟨?_,by rw[<- h];rfl⟩;rw[<- Nat.not_le];intro q;unfold ub at h;rw[zdz s (i+n) q] at h;exact hv h.symm
  rintro ⟨_,h⟩;rw[<- h];rfl)
 go_enter func315,ntmps315;go_wp2_with fail;refine (HW.o _).mono ?_;rintro u w1 ⟨rfl,rfl⟩;go_wp2_with fail;rw[HE.o];refine (HUP.o _).mono ?_;rintro u w2 ⟨rfl,hb2⟩;have Z2:=jM (TokZ w2 w.heap.size) (Blk.below_ KZ.o hb2);have HB2:=Hd (jd HB0.o hb2 HB0.o.size);clear hb2 HE;go_upto_region 3 with (fail)
 go_cut [33] from 24 (λv wx=>v=.bool (decide (ub s (i+n)=40))/\wx=w2)
 case first=>
  by_cases hlt:i+n<s.length
  ·have hlt1:(i:Int)+(n:Int)<(s.length:Int):=by omega
   have hx:=HX.o (by rw[zae];exact hlt);have hu:=HU.o _ rfl;generalize s.getD (i+n) 0=c at *;have HR:=jM (((c.toNat:Int)==40)=decide (ub s (i+n)=40)) (by rw[hu,Bool.eq_iff_iff];simp only[beq_iff_eq,decide_eq_true_eq];omega);clear hu;go_wp2;go_meet
   case rel=>exact ⟨congrArg Value.bool HR.o,rfl⟩
  have hlt1:¬(i:Int)+(n:Int)<(s.length:Int):=by omega
  have HR:=jM (false=decide (ub s (i+n)=40)) (by rw[jA];exact λh=>hlt ((HGD.o 40 (by decide)).1 h).1);go_wp2;go_meet
  case rel=>exact ⟨congrArg Value.bool HR.o,rfl⟩
 obtain ⟨rfl,rfl⟩:=hcut;obtain ⟨q0,q1,q2,q3,q4,q5,q6,q7,qf⟩:=zad Z2.o;by_cases h40:ub s (i+n)=40
 ·rw[jB h40];have HR:=Hd (HWS.o.trans (jb h40));clear h40;go_wp2;refine jO results315 (v:=.tuple #[.agg (cTok ⟨7,0,P,z4,i⟩).toArray,.int .i64 ((i:Int)+(n:Int)),.bool true]) ?_ (by simp (maxDischargeDepth:=9) [jQ,go_sem,q0,q1,q2,q3,q4,q5,q6,q7,cTok,z4]);exact ⟨TokR.yes ⟨7,0,P,z4,i⟩ _ (by rw[HR.o];exact HPOS.o) (by rw[HR.o];exact ⟨rfl,rfl⟩) rfl,zan HB2.o jy _ _ _ _ _ _ _ _⟩
 rw[jA h40];have HW2:=Hd (HWS.o.trans (ja h40));rw[jB h40,Bool.and_true] at HAD;clear HWS h40;by_cases hpt:P=[84,82,85,69]
 ·have bt:(P== [84,82,85,69])=true:=by simpa using hpt
  have HR:=Hd (HW2.o.trans (jb hpt));clear hpt;go_wp2;refine jO results315 (v:=.tuple #[.agg (cTok ⟨3,1,[],z4,i⟩).toArray,.int .i64 ((i:Int)+(n:Int)),.bool true]) ?_ (by simp (maxDischargeDepth:=9) [jQ,go_sem,q0,q1,q2,q3,q4,q5,q6,q7,cTok,z4]);exact ⟨TokR.yes ⟨3,1,[],z4,i⟩ _ (by rw[HR.o];exact HPOS.o) (by rw[HR.o];exact ⟨rfl,rfl⟩) rfl,zan HB2.o jy _ _ _ _ _ _ _ _⟩
 have bt:(P== [84,82,85,69])=false:=by simpa using hpt
 have HW3:=Hd (HW2.o.trans (ja hpt));clear hpt HW2;by_cases hpf:P=[70,65,76,83,69]
 ·have bf:(P== [70,65,76,83,69])=true:=by simpa using hpf
  have HR:=Hd (HW3.o.trans (jb hpf));clear hpf;go_wp2;refine jO results315 (v:=.tuple #[.agg (cTok ⟨3,0,[],z4,i⟩).toArray,.int .i64 ((i:Int)+(n:Int)),.bool true]) ?_ (by simp (maxDischargeDepth:=9) [jQ,go_sem,q0,q1,q2,q3,q4,q5,q6,q7,cTok,z4]);exact ⟨TokR.yes ⟨3,0,[],z4,i⟩ _ (by rw[HR.o];exact HPOS.o) (by rw[HR.o];exact ⟨rfl,rfl⟩) rfl,zan HB2.o jy _ _ _ _ _ _ _ _⟩
 have bf:(P== [70,65,76,83,69])=false:=by simpa using hpf
 have HW4:=Hd (HW3.o.trans (ja hpf));clear hpf HW3;rw[HAD.o] at HRA;go_wp2_with fail;refine (HRA.o _).mono ?_;rintro u w3 ⟨rfl,hb3⟩;dsimp only;clear q0 q1 q2 q3 q4 q5 q6 q7 qf;have Z3:=jM (TokZ w3 w.heap.size) (Blk.below_ Z2.o hb3);have HB3:=Hd (jd HB2.o hb3 HB2.o.size);clear hb3;by_cases he:pe=0;rotate_left
 ·rw[jA he];have HR:=Hd (HW4.o.trans (jb he));obtain ⟨q0,q1,q2,q3,q4,q5,q6,q7,qf⟩:=zad Z3.o;have HB4:=jM (Below w w (w3.alloc (.cells #[.int .i64 pc,.int .i64 pr] 56))) (HB3.o.alloc HB3.o.size _);have Z4:=jM (TokZ (w3.alloc (.cells #[.int .i64 pc,.int .i64 pr] 56)) w.heap.size) (Z3.o.alloc _);clear he q0 q1 q2 q3 q4 q5 q6 q7 qf;go_upto_region 10 with (fail)
  obtain ⟨V,hV⟩:=jN (w3.alloc (.cells #[.int .i64 pc,.int .i64 pr] 56));rw[hV] at HB4 Z4 ⊢;clear hV;obtain ⟨q0,q1,q2,q3,q4,q5,q6,q7,qf⟩:=zad Z4.o;go_wp2;refine jO results315 (v:=.tuple #[.agg (cTok ⟨0,0,[],z4,0⟩).toArray,.int .i64 0,.bool false]) ?_ (by simp (maxDischargeDepth:=9) [jQ,go_sem,q0,q1,q2,q3,q4,q5,q6,q7,cTok,z4]);exact ⟨TokR.no _ _ (by rw[HR.o]) rfl,zan HB4.o jy _ _ _ _ _ _ _ _⟩
 rw[jB he];have HW5:=Hd (HW4.o.trans (ja (λh=>h he)));clear he HW4 HAD HRA;have KA:=Hd (je w3 56 #[.int .i64 pc,.int .i64 pr]);have Z4:=jM (TokZ (w3.alloc (.cells #[.int .i64 pc,.int .i64 pr] 56)) w.heap.size) (Z3.o.alloc _);have HB4:=jM (Below w w (w3.alloc (.cells #[.int .i64 pc,.int .i64 pr] 56))) (HB3.o.alloc HB3.o.size _);go_wp2_with fail;refine (z2o pc pr _).mono ?_;rintro u w5 ⟨rfl,hb5⟩;have KA5:=Hd (KA.o.below_ hb5);have Z5:=jM (TokZ w5 w.heap.size) (Blk.below_ Z4.o hb5);have HB5:=Hd (jd HB4.o hb5 HB4.o.size);clear hb5;have KT:=Hd (je w5 239 (tokW 5 pc pr pc pr i));have KA6:=jM (Blk (w5.alloc (.cells (tokW 5 pc pr pc pr i) 239)) w3.heap.size 56 #[.int .i64 pc,.int .i64 pr]) (KA5.o.alloc _);have Z6:=jM (TokZ (w5.alloc (.cells (tokW 5 pc pr pc pr i) 239)) w.heap.size) (Z5.o.alloc _);have HB6:=jM (Below w w (w5.alloc (.cells (tokW 5 pc pr pc pr i) 239))) (HB5.o.alloc HB5.o.size _);have HS6:=jM (w.heap.size<w3.heap.size/\w3.heap.size<w5.heap.size) ⟨Z3.o.lt,KA5.o.lt⟩;go_upto_region 13 with (fail)
 obtain ⟨ga,hga⟩:∃g,g=w3.heap.size:=⟨_,rfl⟩;obtain ⟨gt,hgt⟩:∃g,g=w5.heap.size:=⟨_,rfl⟩;obtain ⟨V,hV⟩:=jN (w5.alloc (.cells #[.int .u8 5,.int .i64 0,str [],.int .i64 pc,.int .i64 pr,.int .i64 pc,.int .i64 pr,.int .i64 i] 239));rw[show tokW 5 pc pr pc pr i=#[.int .u8 5,.int .i64 0,str [],.int .i64 pc,.int .i64 pr,.int .i64 pc,.int .i64 pr,.int .i64 i] from rfl] at KT KA6 Z6 HB6;rw[hV] at KT KA6 Z6 HB6 ⊢;rw[<- hgt] at KT HS6 ⊢;rw[<- hga] at KA6 HS6 ⊢;clear hV hga hgt KA KA5 Z2 Z3 Z4 Z5 HB2 HB3 HB4 HB5;go_cut [71] from 62 (λv wx=>v=.bool (decide (ub s (i+n)=58))/\wx=V)
 case first=>
  by_cases hlt:i+n<s.length
  ·have hlt1:(i:Int)+(n:Int)<(s.length:Int):=by omega
   have hx:=HX.o (by rw[zae];exact hlt);have hu:=HU.o _ rfl;generalize s.getD (i+n) 0=c at *;have HR:=jM (((c.toNat:Int)==58)=decide (ub s (i+n)=58)) (by rw[hu,Bool.eq_iff_iff];simp only[beq_iff_eq,decide_eq_true_eq];omega);clear hu;go_wp2;go_meet
   case rel=>exact ⟨congrArg Value.bool HR.o,rfl⟩
  have hlt1:¬(i:Int)+(n:Int)<(s.length:Int):=by omega
  have HR:=jM (false=decide (ub s (i+n)=58)) (by rw[jA];exact λh=>hlt ((HGD.o 58 (by decide)).1 h).1);go_wp2;go_meet
  case rel=>exact ⟨congrArg Value.bool HR.o,rfl⟩
 obtain ⟨rfl,rfl⟩:=hcut;have HQ:=jM (twoB s (i+n)=true->ub s (i+n)=58) (λh=>by
  unfold twoB at h;simp only[ji,decide_eq_true_eq] at h;exact h.1.1.1)
 have HT2:=Hd (z1t s (i+n));go_upto_if 71 with (fail)
 go_cut [13,14,15] from 71 (λ_ _ _ wx=>twoB s (i+n)=false/\Blk wx gt 239 #[.int .u8 5,.int .i64 0,str [],.int .i64 pc,.int .i64 pr,.int .i64 pc,.int .i64 pr,.int .i64 i]/\TokZ wx w.heap.size/\Below w w wx)
 case first=>
  by_cases h58:ub s (i+n)=58;rotate_left
  ·rw[jA h58];have HF:=jM (twoB s (i+n)=false) (by cases h:twoB s (i+n);rfl;exact absurd (HQ.o h) h58);clear h58;go_wp2;go_meet
   case rel=>exact ⟨HF.o,KT.o,Z6.o,HB6.o⟩
  rw[jB h58];have hlt:=((HGD.o 58 (by decide)).1 h58).1;have HRA2:=Hd (zjg s (i+n+1) · hs (by omega));have HAY:=Hd (@z35 s (i+n+1));have HT3:=Hd (HT2.o h58);rw[show ((i+n+1:Nat):Int)=(i:Int)+(n:Int)+1 by omega] at HRA2;obtain ⟨⟨⟨bc,br⟩,lst,ok2⟩,hA2⟩:∃r,adrS s (i+n+1)=r:=⟨_,rfl⟩;rw[hA2] at HRA2 HAY HT3;clear hA2 h58;have hl1:(i:Int)+(n:Int)+1<=1000:=by omega
  go_wp2_with fail;refine (HRA2.o _).mono ?_;rintro u w7 ⟨rfl,hb7⟩;dsimp only;have KA7:=Hd ((KA6.o.below_ hb7).alloc (.cells #[.int .i64 bc,.int .i64 br] 56));have KT7:=Hd ((KT.o.below_ hb7).alloc (.cells #[.int .i64 bc,.int .i64 br] 56));have Z7:=jM (TokZ (w7.alloc (.cells #[.int .i64 bc,.int .i64 br] 56)) w.heap.size) ((Blk.below_ Z6.o hb7).alloc _);have KB7:=Hd (je w7 56 #[.int .i64 bc,.int .i64 br]);have HB7:=jM (Below w w (w7.alloc (.cells #[.int .i64 bc,.int .i64 br] 56))) (Below.alloc (jd HB6.o hb7 HB6.o.size) (jx HB6.o.size hb7.size) _);have HS7:=jM (gt<w7.heap.size) (jG KT.o.lt hb7.size);clear hb7;go_upto_if 80 with (fail)
  obtain ⟨gb,hgb⟩:∃g,g=w7.heap.size:=⟨_,rfl⟩;obtain ⟨V7,hV⟩:=jN (w7.alloc (.cells #[.int .i64 bc,.int .i64 br] 56));rw[hV] at KA7 KT7 Z7 KB7 HB7 ⊢;rw[<- hgb] at KB7 HS7 ⊢;clear hV hgb;cases ok2
  ·go_wp2;go_meet
   case rel=>exact ⟨HT3.o,KT7.o,Z7.o,HB7.o⟩
  have HA3:=Hd (HAY.o rfl);have HR1:=Hd (HW5.o.trans (jb HT3.o));have HLST:=jM (lst=i+n+1+(zag s (i+n+1)).length) HA3.o.2;rw[show (parA (zag s (i+n+1))).1=(⟨bc,br⟩:Ref) from HA3.o.1.symm] at HR1;obtain ⟨a0,a1⟩:=KA7.o.c2 0 1;obtain ⟨b0,b1⟩:=KB7.o.c2 0 1;have hmin:∀x y:Int,(if y<x then y else x)=min x y:=λx y=>by split <;> omega
  have hmax:∀x y:Int,(if x<y then y else x)=max x y:=λx y=>by split <;> omega
  obtain ⟨t3,t4,t5,t6⟩:=KT7.o.c4 3 4 5 6;have tf:=λo=>KT7.o.frozen o;have hgw2:w.heap.size≠gt:=by have:=HS6.o;omega
  have hga:ga≠gt:=by have:=HS6.o;omega
  have hgb:gb≠gt:=by have:=HS7.o;omega
  go_upto_region 17 with (fail)
  have KA8:=Hd (Blk.far (p:=⟨gt,6,none⟩) (Blk.far (p:=⟨gt,5,none⟩) (Blk.far (p:=⟨gt,4,none⟩) (Blk.far (p:=⟨gt,3,none⟩) KA7.o hga (.int .i64 (min pc bc))) hga (.int .i64 (min pr br))) hga (.int .i64 (max pc bc))) hga (.int .i64 (max pr br)));have KB8:=Hd (Blk.far (p:=⟨gt,6,none⟩) (Blk.far (p:=⟨gt,5,none⟩) (Blk.far (p:=⟨gt,4,none⟩) (Blk.far (p:=⟨gt,3,none⟩) KB7.o hgb (.int .i64 (min pc bc))) hgb (.int .i64 (min pr br))) hgb (.int .i64 (max pc bc))) hgb (.int .i64 (max pr br)));have Z8:=Hd (show TokZ ((((V7.setCell (gt,3) (.int .i64 (min pc bc))).setCell (gt,4) (.int .i64 (min pr br))).setCell (gt,5) (.int .i64 (max pc bc))).setCell (gt,6) (.int .i64 (max pr br))) w.heap.size from Blk.far (p:=⟨gt,6,none⟩) (Blk.far (p:=⟨gt,5,none⟩) (Blk.far (p:=⟨gt,4,none⟩) (Blk.far (p:=⟨gt,3,none⟩) Z7.o hgw2 (.int .i64 (min pc bc))) hgw2 (.int .i64 (min pr br))) hgw2 (.int .i64 (max pc bc))) hgw2 (.int .i64 (max pr br)));have HB8:=Hd (jc (jc (jc (jc HB7.o (p:=⟨gt,3,none⟩) (jF (Nat.lt_trans HS6.o.1 HS6.o.2)) (.int .i64 (min pc bc))) (p:=⟨gt,4,none⟩) (jF (Nat.lt_trans HS6.o.1 HS6.o.2)) (.int .i64 (min pr br))) (p:=⟨gt,5,none⟩) (jF (Nat.lt_trans HS6.o.1 HS6.o.2)) (.int .i64 (max pc bc))) (p:=⟨gt,6,none⟩) (jF (Nat.lt_trans HS6.o.1 HS6.o.2)) (.int .i64 (max pr br)));have KT8:=Hd (Blk.eqv (cs':=#[.int .u8 5,.int .i64 0,str [],.int .i64 (min pc bc),.int .i64 (min pr br),.int .i64 (max pc bc),.int .i64 (max pr br),.int .i64 i]) (Blk.set_ (Blk.set_ (Blk.set_ (Blk.set_ KT7.o 3 (.int .i64 (min pc bc))) 4 (.int .i64 (min pr br))) 5 (.int .i64 (max pc bc))) 6 (.int .i64 (max pr br))) rfl);obtain ⟨V8,hV8⟩:=jN ((((V7.setCell (gt,3) (.int .i64 (min pc bc))).setCell (gt,4) (.int .i64 (min pr br))).setCell (gt,5) (.int .i64 (max pc bc))).setCell (gt,6) (.int .i64 (max pr br)));rw[hV8] at KA8 KB8 Z8 HB8 KT8 ⊢;clear hV8 t3 t4 t5 t6 tf a0 a1 b0 b1 hmin hmax;obtain ⟨m0,hm0⟩:=jN (min pc bc);obtain ⟨m1,hm1⟩:=jN (min pr br);obtain ⟨m2,hm2⟩:=jN (max pc bc);obtain ⟨m3,hm3⟩:=jN (max pr br);have HM:=jM (min pc bc=m0/\min pr br=m1/\max pc bc=m2/\max pr br=m3) ⟨hm0,hm1,hm2,hm3⟩;rw[hm0,hm1,hm2,hm3] at KT8;clear hm0 hm1 hm2 hm3 KA7 KB7 KT7 Z7 HB7 KT KA6 Z6 HB6 HQ HT2;obtain ⟨a0,a1⟩:=KA8.o.c2 0 1;obtain ⟨b0,b1⟩:=KB8.o.c2 0 1;by_cases hab:pc=bc/\pr=br
  ·have hn:∀W,(binOp .neq 56 (.agg #[.int .i64 pc,.int .i64 pr]) (.agg #[.int .i64 bc,.int .i64 br])).run prog W=.ok (.bool false) W:=by intro W;simp[go_sem,hab.1,hab.2]
   have HR2:=jM (zbq s i=(⟨5,0,[],⟨m0,m1,m2,m3⟩,i⟩,n+1+(zag s (i+n+1)).length)) (by rw[<- HM.o.1,<- HM.o.2.1,<- HM.o.2.2.1,<- HM.o.2.2.2,HR1.o,jb (by rw[hab.1,hab.2])];rfl);clear hab;clear a0 a1 b0 b1;obtain ⟨a0,a1⟩:=KA8.o.c2 0 1;obtain ⟨b0,b1⟩:=KB8.o.c2 0 1;obtain ⟨q0,q1,q2,q3,q4,q5,q6,q7,qf⟩:=zad Z8.o;obtain ⟨t0,t1,t2,t3,t4,t5⟩:=KT8.o.c6 0 1 2 3 4 5;obtain ⟨t6,t7⟩:=KT8.o.c2 6 7;go_wp2;refine jO results315 (v:=.tuple #[.agg (cTok ⟨5,0,[],⟨m0,m1,m2,m3⟩,i⟩).toArray,.int .i64 (lst:Int),.bool true]) ?_ (by simp (maxDischargeDepth:=9) [jQ,go_sem,q0,q1,q2,q3,q4,q5,q6,q7,cTok]);refine ⟨TokR.yes ⟨5,0,[],⟨m0,m1,m2,m3⟩,i⟩ _ (by rw[HR2.o];show 0<n+1+_;omega) (by rw[HR2.o];exact ⟨rfl,by have:=HLST.o;show (lst:Int)=(i:Int)+((n+1+(zag s (i+n+1)).length:Nat):Int);omega⟩) rfl,?_⟩;exact zan HB8.o jy _ _ _ _ _ _ _ _
  have hn:∀W,(binOp .neq 56 (.agg #[.int .i64 pc,.int .i64 pr]) (.agg #[.int .i64 bc,.int .i64 br])).run prog W=.ok (.bool true) W:=by
   intro W;by_cases h1:pc=bc
   ·have h2:¬pr=br:=λh=>hab ⟨h1,h⟩;simp[go_sem,h1,h2]
   simp[go_sem,h1]
  have HR2:=jM (zbq s i=(⟨6,0,[],⟨m0,m1,m2,m3⟩,i⟩,n+1+(zag s (i+n+1)).length)) (by rw[<- HM.o.1,<- HM.o.2.1,<- HM.o.2.2.1,<- HM.o.2.2.2,HR1.o,ja (λe=>hab ⟨congrArg Ref.col e,congrArg Ref.row e⟩)];rfl);clear hab;have t0:=KT8.o.cell 0;have tf:=λo=>KT8.o.frozen o;go_upto_region 19 with (fail)
  have KT9:=Hd (Blk.eqv (cs':=#[.int .u8 6,.int .i64 0,str [],.int .i64 m0,.int .i64 m1,.int .i64 m2,.int .i64 m3,.int .i64 i]) (Blk.set_ KT8.o 0 (.int .u8 6)) rfl);have Z9:=jM (TokZ (V8.setCell (gt,0) (.int .u8 6)) w.heap.size) (Blk.far (p:=⟨gt,0,none⟩) Z8.o hgw2 _);have HB9:=jM (Below w w (V8.setCell (gt,0) (.int .u8 6))) (jc HB8.o (p:=⟨gt,0,none⟩) (jF (Nat.lt_trans HS6.o.1 HS6.o.2)) _);obtain ⟨V9,hV9⟩:=jN (V8.setCell (gt,0) (.int .u8 6));rw[hV9] at KT9 Z9 HB9 ⊢;clear hV9 t0 tf;clear a0 a1 b0 b1;obtain ⟨q0,q1,q2,q3,q4,q5,q6,q7,qf⟩:=zad Z9.o;obtain ⟨t0,t1,t2,t3,t4,t5⟩:=KT9.o.c6 0 1 2 3 4 5;obtain ⟨t6,t7⟩:=KT9.o.c2 6 7;go_wp2;refine jO results315 (v:=.tuple #[.agg (cTok ⟨6,0,[],⟨m0,m1,m2,m3⟩,i⟩).toArray,.int .i64 (lst:Int),.bool true]) ?_ (by simp (maxDischargeDepth:=9) [jQ,go_sem,q0,q1,q2,q3,q4,q5,q6,q7,cTok]);refine ⟨TokR.yes ⟨6,0,[],⟨m0,m1,m2,m3⟩,i⟩ _ (by rw[HR2.o];show 0<n+1+_;omega) (by rw[HR2.o];exact ⟨rfl,by have:=HLST.o;show (lst:Int)=(i:Int)+((n+1+(zag s (i+n+1)).length:Nat):Int);omega⟩) rfl,?_⟩;exact zan HB9.o jy _ _ _ _ _ _ _ _
 obtain ⟨htw,hkt,hkz,hbw⟩:=hcut;have HR:=Hd (HW5.o.trans (ja (by rw[htw];decide)));have HBW:=Hd hbw;obtain ⟨q0,q1,q2,q3,q4,q5,q6,q7,qf⟩:=zad hkz;obtain ⟨t0,t1,t2,t3,t4,t5⟩:=hkt.c6 0 1 2 3 4 5;obtain ⟨t6,t7⟩:=hkt.c2 6 7;clear htw hkt hkz hbw;go_wp2;refine jO results315 (v:=.tuple #[.agg (cTok ⟨5,0,[],⟨pc,pr,pc,pr⟩,i⟩).toArray,.int .i64 ((i:Int)+(n:Int)),.bool true]) ?_ (by simp (maxDischargeDepth:=9) [jQ,go_sem,q0,q1,q2,q3,q4,q5,q6,q7,cTok]);exact ⟨TokR.yes ⟨5,0,[],⟨pc,pr,pc,pr⟩,i⟩ _ (by rw[HR.o];exact HPOS.o) (by rw[HR.o];exact ⟨rfl,rfl⟩) rfl,zan HBW.o jy _ _ _ _ _ _ _ _⟩
theorem zvc (s:zaa) (i:Nat) (w:World) (hs:s.length<=1000) (hi:i<s.length):
 Calls prog 295 #[str s,.int .i64 i] w λu w'=>TokR i (zm8 s i) u/\Below w w w':=by
 have hi0:(0:Int)<=(i:Int):=jw _;have hi1:(i:Int)<(s.length:Int):=by omega
 have HDG:=Hd (zf2 s i);have HLT:=Hd (zf1 s i);have HNU:=Hd (λw=>zso s i w hs (by omega));have HTX:=Hd (λw=>zyy s i w hs hi);have HWD:=Hd (λw=>zyx s i w hs hi);have HSG:=Hd (λw=>zyz s i w hs hi);have HT0:=jM (zm8 s i=if digB (s.getD i 0) then zii s i else if ub s i=34 then zfy s i else if letB (s.getD i 0) then zbq s i else ztm s i) rfl;have HLN:=jM (digB (s.getD i 0)=true->0<lenB digB s i) (λh=>by
  rw[zdx digB s i hi,jb h];omega)
 have hx:=za3 s i (by rw[zae];exact hi);have HU:=Hd (λc (h:s.getD i 0=c)=>zm2 s i h);generalize s.getD i 0=c at *;have hu:=HU.o c rfl;clear HU;have KZ:=jM (TokZ (w.alloc (.cells aU 239)) w.heap.size) (je w _ _);have HB0:=jM (Below w w (w.alloc (.cells aU 239))) (by go_grown);rw[hu] at HT0;clear hu;obtain ⟨dg,hdg⟩:=jN (digB c);obtain ⟨lt,hlt⟩:=jN (letB c);rw[hdg] at HT0 HDG HLN;rw[hlt] at HT0 HLT HWD;clear hdg hlt;cases dg;rotate_left
 ·have HT:=Hd (HT0.o.trans (jb rfl));clear HT0 hx;go_enter func295,ntmps295;go_wp2_with fail;refine (HDG.o _).mono ?_;rintro u w1 ⟨rfl,rfl⟩;go_wp2_with fail;refine (HNU.o _ (HLN.o (by first | rfl | trivial))).mono ?_;rintro u w9 ⟨hr,hb9⟩;obtain ⟨⟨kd,nm,tx,⟨ca,cb,cc,cd⟩,ta⟩,n,ok,rfl,hok,ht⟩:=hr;have HR:=jM (TokR i (zm8 s i) (.returned (.tuple #[.agg (cTok ⟨kd,nm,tx,⟨ca,cb,cc,cd⟩,ta⟩).toArray,.int .i64 n,.bool ok]))) ⟨_,n,ok,rfl,by rw[HT.o];exact hok,by rw[HT.o];exact ht⟩;have Z9:=jM (TokZ w9 w.heap.size) (Blk.below_ KZ.o hb9);have HB9:=Hd (jd HB0.o hb9 (HB0.o).size);clear hb9 hok ht HT;obtain ⟨q0,q1,q2,q3,q4,q5,q6,q7,qf⟩:=zad Z9.o;dsimp only[cTok,List.toArray];go_wp2;refine jO results295 (v:=.tuple #[.agg (cTok ⟨kd,nm,tx,⟨ca,cb,cc,cd⟩,ta⟩).toArray,.int .i64 n,.bool ok]) ?_ (by simp (maxDischargeDepth:=9) [jQ,go_sem,q0,q1,q2,q3,q4,q5,q6,q7,cTok]);exact ⟨HR.o,zan HB9.o jy _ _ _ _ _ _ _ _⟩
 have HT1:=Hd (HT0.o.trans (ja (by decide)));clear HT0;by_cases h34:c.toNat=34
 ·have t34:=zhs c 34 h34;have HT:=Hd (HT1.o.trans (jb h34));clear HT1 h34;go_enter func295,ntmps295;go_wp2_with fail;refine (HDG.o _).mono ?_;rintro u w1 ⟨rfl,rfl⟩;go_wp2_with fail;refine (HTX.o _).mono ?_;rintro u w9 ⟨hr,hb9⟩;obtain ⟨⟨kd,nm,tx,⟨ca,cb,cc,cd⟩,ta⟩,n,ok,rfl,hok,ht⟩:=hr;have HR:=jM (TokR i (zm8 s i) (.returned (.tuple #[.agg (cTok ⟨kd,nm,tx,⟨ca,cb,cc,cd⟩,ta⟩).toArray,.int .i64 n,.bool ok]))) ⟨_,n,ok,rfl,by rw[HT.o];exact hok,by rw[HT.o];exact ht⟩;have Z9:=jM (TokZ w9 w.heap.size) (Blk.below_ KZ.o hb9);have HB9:=Hd (jd HB0.o hb9 (HB0.o).size);clear hb9 hok ht HT;obtain ⟨q0,q1,q2,q3,q4,q5,q6,q7,qf⟩:=zad Z9.o;dsimp only[cTok,List.toArray];go_wp2;refine jO results295 (v:=.tuple #[.agg (cTok ⟨kd,nm,tx,⟨ca,cb,cc,cd⟩,ta⟩).toArray,.int .i64 n,.bool ok]) ?_ (by simp (maxDischargeDepth:=9) [jQ,go_sem,q0,q1,q2,q3,q4,q5,q6,q7,cTok]);exact ⟨HR.o,zan HB9.o jy _ _ _ _ _ _ _ _⟩
 have t34:((c.toNat:Int)==34)=false:=by simp only[jI,ne_eq];omega
 have HT2:=Hd (HT1.o.trans (ja h34));clear HT1 h34;cases lt;rotate_left
 ·have HT:=Hd (HT2.o.trans (jb rfl));clear HT2;go_enter func295,ntmps295;go_wp2_with fail;refine (HDG.o _).mono ?_;rintro u w1 ⟨rfl,rfl⟩;go_wp2_with fail;refine (HLT.o _).mono ?_;rintro u w1 ⟨rfl,rfl⟩;go_wp2_with fail;refine (HWD.o _ (by first | rfl | trivial)).mono ?_;rintro u w9 ⟨hr,hb9⟩;obtain ⟨⟨kd,nm,tx,⟨ca,cb,cc,cd⟩,ta⟩,n,ok,rfl,hok,ht⟩:=hr;have HR:=jM (TokR i (zm8 s i) (.returned (.tuple #[.agg (cTok ⟨kd,nm,tx,⟨ca,cb,cc,cd⟩,ta⟩).toArray,.int .i64 n,.bool ok]))) ⟨_,n,ok,rfl,by rw[HT.o];exact hok,by rw[HT.o];exact ht⟩;have Z9:=jM (TokZ w9 w.heap.size) (Blk.below_ KZ.o hb9);have HB9:=Hd (jd HB0.o hb9 (HB0.o).size);clear hb9 hok ht HT;obtain ⟨q0,q1,q2,q3,q4,q5,q6,q7,qf⟩:=zad Z9.o;dsimp only[cTok,List.toArray];go_wp2;refine jO results295 (v:=.tuple #[.agg (cTok ⟨kd,nm,tx,⟨ca,cb,cc,cd⟩,ta⟩).toArray,.int .i64 n,.bool ok]) ?_ (by simp (maxDischargeDepth:=9) [jQ,go_sem,q0,q1,q2,q3,q4,q5,q6,q7,cTok]);exact ⟨HR.o,zan HB9.o jy _ _ _ _ _ _ _ _⟩
 have HT:=Hd (HT2.o.trans (ja (by decide)));clear HT2;go_enter func295,ntmps295;go_wp2_with fail;refine (HDG.o _).mono ?_;rintro u w1 ⟨rfl,rfl⟩;go_wp2_with fail;refine (HLT.o _).mono ?_;rintro u w1 ⟨rfl,rfl⟩;go_wp2_with fail;refine (HSG.o _).mono ?_;rintro u w9 ⟨hr,hb9⟩;obtain ⟨⟨kd,nm,tx,⟨ca,cb,cc,cd⟩,ta⟩,n,ok,rfl,hok,ht⟩:=hr;have HR:=jM (TokR i (zm8 s i) (.returned (.tuple #[.agg (cTok ⟨kd,nm,tx,⟨ca,cb,cc,cd⟩,ta⟩).toArray,.int .i64 n,.bool ok]))) ⟨_,n,ok,rfl,by rw[HT.o];exact hok,by rw[HT.o];exact ht⟩;have Z9:=jM (TokZ w9 w.heap.size) (Blk.below_ KZ.o hb9);have HB9:=Hd (jd HB0.o hb9 (HB0.o).size);clear hb9 hok ht HT;obtain ⟨q0,q1,q2,q3,q4,q5,q6,q7,qf⟩:=zad Z9.o;dsimp only[cTok,List.toArray];go_wp2;refine jO results295 (v:=.tuple #[.agg (cTok ⟨kd,nm,tx,⟨ca,cb,cc,cd⟩,ta⟩).toArray,.int .i64 n,.bool ok]) ?_ (by simp (maxDischargeDepth:=9) [jQ,go_sem,q0,q1,q2,q3,q4,q5,q6,q7,cTok]);exact ⟨HR.o,zan HB9.o jy _ _ _ _ _ _ _ _⟩
end Go.Proofs.YtamcgggmfghljaaGreatDoor
