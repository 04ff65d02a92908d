/- walk -/
import Derived.Deep.CutRange
import Derived.Test.YtamcgggmfghljaaGreatDoorE12
set_option maxRecDepth 100000
set_option maxHeartbeats 8000000
open Go.Proofs.Tryz
namespace Go.Proofs.YtamcgggmfghljaaGreatDoor
open Go.RowKit
variable {u:Ending} {v:Int} {g i:Nat} {W:World}
def slen:Value->Nat
 | .string b=>b.size
 | _=>0
def TokR (i:Nat) (r:Tok × Nat) (u:Ending):Prop:=
 ∃(t:Tok) (n:Int) (ok:Bool),u=.returned (.tuple #[.agg (cTok t).toArray,.int .i64 n,.bool ok])/\ok=decide (0<r.2)/\(0<r.2->t=r.1/\n=i+r.2)
theorem TokR.no {r:Tok × Nat} (t:Tok) (n:Int) (h:r.2=0) (hu:u=.returned (.tuple #[.agg (cTok t).toArray,.int .i64 n,.bool false])):TokR i r u:=⟨t,n,false,hu,by simp[h],λq=>by omega⟩
theorem TokR.yes {r:Tok × Nat} (t:Tok) (n:Int) (h:0<r.2) (e:t=r.1/\n=i+r.2) (hu:u=.returned (.tuple #[.agg (cTok t).toArray,.int .i64 n,.bool true])):TokR i r u:=⟨t,n,true,hu,by simp[h],λ_=>e⟩
theorem zn9 (n:Nat) (l:zaa) (c:UInt8):natO n (l++ [c])=zuo zc2 (natO n l) c:=by unfold natO;rw[List.foldl_append];rfl
theorem z3c (l:zaa) (v:Nat) (h:natO 0 l=some v) (hd:l.all digB=true):v<=zc2:=by
 rw[zv3 l 0 hd (Nat.zero_le _)] at h;split at h
 ·cases h
 rename_i q;simp only[jl] at h;omega
theorem zl8 (l m:zaa) (h:natO 0 l=none):natO 0 (l++m)=none:=by
 unfold natO at *;rw[List.foldl_append,h]
 induction m with
 | nil=>rfl
 | cons c m ih=>exact ih
abbrev tokN (i:Nat) (v:Int):Array Value:=#[.int .u8 1,.int .i64 v,str [],.int .i64 0,.int .i64 0,.int .i64 0,.int .i64 0,.int .i64 i]
theorem zkm (h:Blk W g 239 (tokN i v)):
 W.cell? ⟨g,0,none⟩=some (.int .u8 1)/\W.cell? ⟨g,1,none⟩=some (.int .i64 v)/\W.cell? ⟨g,2,none⟩=some (str [])/\W.cell? ⟨g,3,none⟩=some (.int .i64 0)/\W.cell? ⟨g,4,none⟩=some (.int .i64 0)/\W.cell? ⟨g,5,none⟩=some (.int .i64 0)/\W.cell? ⟨g,6,none⟩=some (.int .i64 0)/\W.cell? ⟨g,7,none⟩=some (.int .i64 i)/\(∀o,W.frozen? ⟨g,o,none⟩=false)/\g<W.heap.size:=
 ⟨h.cell 0,h.cell 1,h.cell 2,h.cell 3,h.cell 4,h.cell 5,h.cell 6,h.cell 7,λo=>h.frozen o,h.lt⟩
theorem zso (s:zaa) (i:Nat) (w:World) (hs:s.length<=1000) (hi:i<=s.length) (hd:0<lenB digB s i):
 Calls prog 312 #[str s,.int .i64 i] w λu w'=>TokR i (zii s i) u/\Below w w w':=by
 have hi0:(0:Int)<=(i:Int):=jw _;have hW0:=jM (w.heap.size+1=(w.alloc (.cells aU 239)).heap.size) (by simp);have HNR:=jM (zii s i=if 4<(zb1 s i).length then (tok0,0) else match natO 0 (zb9 s i++zf8 (zb1 s i)) with
  | none=>(tok0,0)
  | some n=>(⟨1,n,[],z4,i⟩,zbj s i)) rfl
 have HDIG:=Hd hd;go_enter func312,ntmps312;go_wp2;obtain ⟨W1,hW1⟩:=jN ((w.alloc (.cells aU 239)).alloc (.cells #[.int .u8 1,.int .i64 0,.string ⟨#[]⟩,.int .i64 0,.int .i64 0,.int .i64 0,.int .i64 0,.int .i64 i] 239));have KZ:=jM (TokZ W1 w.heap.size) (hW1▸(je w _ _).alloc _);have KT:=jM (Blk W1 (w.heap.size+1) 239 (tokN i 0)) (hW1▸hW0.o▸je _ _ _);have HB0:=jM (Below w w W1) (by rw[<- hW1];go_grown);rw[hW1];clear hW1 hW0 hd;go_loopw [8] (λv wr=>∃k:Nat,i<=k/\k<=s.length/\v=.int .i64 k/\i+lenB digB s i=k+lenB digB s k/\W1=wr) (λv _=>s.length-(intOf v).toNat)
 case atStart=>exact ⟨i,Nat.le_refl _,hi,rfl,rfl,rfl⟩
 obtain ⟨k,hik,hk,rfl,he,rfl⟩:=hrel;have HE:=Hd he;have HD:=Hd (zf2 s k);clear he;cases hdk:digB (s.getD k 0)
 ·rw[hdk] at HD;have hz:lenB digB s k=0:=by
   by_cases hlt:k<s.length
   ·rw[zdx digB s k hlt,hdk];rfl
   exact ziv digB s k (by omega)
  have HK:=jM (i+lenB digB s i=k) (by have:=HE.o;omega);have hik1:(i:Int)<=(k:Int):=by omega
  have hk1:(k:Int)<=(s.length:Int):=by omega
  have hk0:(0:Int)<=(k:Int):=by omega
  clear hz HE hdk;go_wp2_with fail;refine (HD.o _).mono ?_;rintro u w1 ⟨rfl,rfl⟩;have HDK:=Hd (zf2 s (k+1));go_upto_region 6 with (fail)
  rw[show k=i+(k-i) by omega,zdc,<- show k=i+(k-i) by omega];go_cut [42] from 18 (λv wx=>v=.bool (dotB s k)/\wx=W1)
  case first=>
   by_cases hlt:k<s.length;rotate_left
   ·have hi1:¬(k:Int)<(s.length:Int):=by omega
    have HDB:=jM (dotB s k=false) (by unfold dotB;rw[jA (by omega:¬k+1<s.length)];rfl);go_wp2;go_meet
    case rel=>exact ⟨congrArg Value.bool HDB.o.symm,rfl⟩
   have hi1:(k:Int)<(s.length:Int):=by omega
   have hx:=za3 s k (by rw[zae];exact hlt);have HDB:=jM (dotB s k=(decide (k+1<s.length)&&decide (ub s k=46)&&digB (s.getD (k+1) 0))) rfl;have hu:=zm2 s k rfl;have HP:=Hd (zdz s (k+1));generalize s.getD k 0=c at *;by_cases h46:c.toNat=46
   ·have t1:=zhs c 46 h46;have HU:=Hd (hu.trans h46);clear hu;go_wp2_with fail;refine (HDK.o _).mono ?_;rintro u w2 ⟨rfl,rfl⟩;go_wp2;go_meet
    case rel=>
     refine ⟨congrArg Value.bool ?_,rfl⟩;rw[HDB.o,HU.o];by_cases h1:k+1<s.length
     ·simp[h1]
     simp only[h1,decide_false,Bool.false_and];exact (congrArg digB (HP.o (by omega))).trans rfl
   have t1:=zf4 c 46 h46;have HU:=jM (ub s k≠46) (by rw[hu];exact h46);clear hu;go_wp2;go_meet
   case rel=>exact ⟨congrArg Value.bool (by rw[HDB.o];simp[HU.o]),rfl⟩
  case rest=>
   obtain ⟨rfl,rfl⟩:=hcut;have HNB:=jM (zbj s i=if dotB s k then lenB digB s i+1+lenB digB s (k+1) else lenB digB s i) (by unfold zbj;rw[HK.o]);have HFR:=jM (zb1 s i=if dotB s k then (s.drop (k+1)).take (lenB digB s (k+1)) else []) (by unfold zb1;rw[HK.o]);have HWH:=jM ((s.drop i).take (k-i)=zb9 s i) (by unfold zb9;rw[show k-i=lenB digB s i by have:=HK.o;omega]);rw[HWH.o];go_upto_if 42 with (fail)
   go_cut [8,10] from 18 (λe p wx=>∃m:Nat,e=.int .i64 m/\i<=m/\m<=s.length/\m=i+zbj s i/\p=str (zb1 s i)/\wx=wc)
   case first=>
    cases hdb:dotB s k
    ·rw[hdb] at HNB HFR;go_wp2;go_meet
     case rel=>exact ⟨k,rfl,hik,hk,by rw[HNB.o];have:=HK.o;simp;omega,by rw[HFR.o];rfl,rfl⟩
    rw[hdb] at HNB HFR;have hk1l:k+1<=s.length:=by rw[<- Nat.not_lt];intro q;unfold dotB at hdb;rw[jA (by omega:¬k+1<s.length)] at hdb;cases hdb
    go_wp2;go_loopw [8] (λv wr=>∃j:Nat,k+1<=j/\j<=s.length/\v=.int .i64 j/\k+1+lenB digB s (k+1)=j+lenB digB s j/\wc=wr) (λv _=>s.length-(intOf v).toNat)
    case atStart=>exact ⟨k+1,Nat.le_refl _,hk1l,by go_num,rfl,rfl⟩
    obtain ⟨j,hkj,hj,rfl,hej,rfl⟩:=hrel;have HEJ:=Hd hej;have HDJ:=Hd (zf2 s j);clear hej;cases hdj:digB (s.getD j 0)
    ·rw[hdj] at HDJ;have hz:lenB digB s j=0:=by
      by_cases hlt:j<s.length
      ·rw[zdx digB s j hlt,hdj];rfl
      exact ziv digB s j (by omega)
     have HJ:=jM (k+1+lenB digB s (k+1)=j) (by have:=HEJ.o;omega);have b1:(k:Int)+1<=(j:Int):=by omega
     have b2:(j:Int)<=(s.length:Int):=by omega
     have b3:(0:Int)<=(j:Int):=by omega
     clear hz HEJ hdj;go_wp2_with fail;refine (HDJ.o _).mono ?_;rintro u w1 ⟨rfl,rfl⟩;go_wp2;go_meet
     case rel=>refine ⟨j,rfl,by omega,hj,by rw[HNB.o];have:=HK.o;have:=HJ.o;simp;omega,?_,rfl⟩;rw[HFR.o,jb (by trivial)];have e:j=(k+1)+lenB digB s (k+1):=HJ.o.symm;rw[e,zdc]
    rw[hdj] at HDJ;have hlt:j<s.length:=by rw[<- Nat.not_le];intro q;rw[zdz s j q] at hdj;cases hdj
    have HST:=jM (lenB digB s j=lenB digB s (j+1)+1) (by rw[zdx digB s j hlt,hdj];rfl);clear hdj;go_wp2_with fail;refine (HDJ.o _).mono ?_;rintro u w1 ⟨rfl,rfl⟩;go_wp2;refine ⟨⟨j+1,by omega,by omega,by go_num,?_,by trivial⟩,by simp[intOf];omega⟩;have h1:=HEJ.o;have h2:=HST.o;omega
   case rest=>
    obtain ⟨m,rfl,him,hm,hmn,rfl,rfl⟩:=hcut;obtain ⟨q0,q1,q2,q3,q4,q5,q6,q7,qf⟩:=zad KZ.o;obtain ⟨k0,k1,k2,k3,k4,k5,k6,k7,kf,kl⟩:=zkm KT.o;have hfd:=zrg s i;have hwd:(zb9 s i).all digB=true:=zht digB s i;have hwl:(zb9 s i).length<=s.length:=by have:=zgj digB s i;have:=zgk digB s i;unfold zb9;omega
    have HMN:=Hd hmn;have HFD:=Hd hfd;have HWD:=Hd hwd;clear hmn hfd hwd;by_cases h4:4<(zb1 s i).length
    ·have h4':(4:Int)<((zb1 s i).length:Int):=by omega
     have HR:=jM (zii s i=(tok0,0)) (by rw[HNR.o,jb h4]);go_wp2;refine jO results312 (v:=.tuple #[.agg (cTok ⟨1,0,[],z4,i⟩).toArray,.int .i64 0,.bool false]) ?_ (by simp (maxDischargeDepth:=9) [jQ,go_sem,q0,q1,q2,q3,q4,q5,q6,q7,cTok,z4]);exact ⟨TokR.no _ _ (by rw[HR.o]) rfl,zan HB0.o jy _ _ _ _ _ _ _ _⟩
    have h4':¬(4:Int)<((zb1 s i).length:Int):=by omega
    have HR0:=Hd (show zii s i=match natO 0 (zb9 s i++zf8 (zb1 s i)) with
     | none=>(tok0,0)
     | some n=>(⟨1,n,[],z4,i⟩,zbj s i) by rw[HNR.o,ja h4])
    have hfl:(zb1 s i).length<=4:=by omega
    clear HNR;have HF4:=jM (zf8 (zb1 s i)=zb1 s i++List.replicate (4-(zb1 s i).length) 48) rfl;have HFA:=Hd (zrh _ HFD.o);have HFL:=jM ((zf8 (zb1 s i)).length=4) (by unfold zf8;simp;omega);generalize zb1 s i=F at *;generalize zb9 s i=X at *;go_wp2;go_loopw [10] (λp wr=>∃r:Nat,F.length+r<=4/\p=str (F++List.replicate r 48)/\wc=wr) (λp _=>4-slen p)
    case atStart=>exact ⟨0,by omega,by simp,rfl⟩
    obtain ⟨r,hr,rfl,rfl⟩:=hrel;have hrl:(F++List.replicate r (48:UInt8)).length=F.length+r:=by simp
    by_cases hlt:F.length+r<4
    ·have l1:((F++List.replicate r (48:UInt8)).length:Int)<4:=by rw[hrl];omega
     have HSU:=jM (F++List.replicate r (48:UInt8)++ [48]=F++List.replicate (r+1) 48) (by rw[jJ,<- List.replicate_succ']);have HRL:=Hd hrl;clear hrl;go_wp2;refine ⟨⟨r+1,by omega,?_,by trivial⟩,?_⟩
     ·rw[<- HSU.o];exact congrArg Value.string (zdf _ [48])
     rw[show ((⟨(F++List.replicate r (48:UInt8)).toArray⟩:ByteArray)++⟨#[48]⟩)=_ from zdf _ [48],HSU.o];show 4-(⟨_⟩:ByteArray).size<4-(⟨_⟩:ByteArray).size;rw[zae,zae,HRL.o,jH,List.length_replicate];omega
    have l1:¬((F++List.replicate r (48:UInt8)).length:Int)<4:=by rw[hrl];omega
    have e4:F++List.replicate r (48:UInt8)=zf8 F:=by rw[HF4.o,show r=4-F.length by omega]
    rw[e4] at l1 ⊢;clear hrl e4;obtain ⟨L,hL⟩:=jN (X++zf8 F);have hLD:L.all digB=true:=by rw[<- hL,List.all_append,HWD.o,HFA.o];rfl
    have hLL:L.length<=1004:=by rw[<- hL,jH,HFL.o];omega
    have hR1:=HR0.o;rw[hL] at hR1;have HR1:=Hd hR1;have HL:=Hd hL;have HLD:=Hd hLD;have hsum:X.length+(zf8 F).length<=1004:=by rw[HFL.o];omega
    clear hR1 HR0 hLD hL HFD HWD;go_wp2;rw[zdf,HL.o];go_loopw [13] (λv wr=>∃(j n:Nat),j<=L.length/\v=.int .i64 j/\natO 0 (L.take j)=some n/\Blk wr (w.heap.size+1) 239 (tokN i n)/\TokZ wr w.heap.size/\Below w w wr) (λv _=>L.length-(intOf v).toNat)
    case atStart=>exact ⟨0,0,by omega,rfl,rfl,KT.o,KZ.o,HB0.o⟩
    obtain ⟨j,n,hj,rfl,hn,hkt,hkz,hbw⟩:=hrel;clear q0 q1 q2 q3 q4 q5 q6 q7 qf k0 k1 k2 k3 k4 k5 k6 k7 kf kl;obtain ⟨q0,q1,q2,q3,q4,q5,q6,q7,qf⟩:=zad hkz;obtain ⟨k0,k1,k2,k3,k4,k5,k6,k7,kf,kl⟩:=zkm hkt;have HN:=Hd hn;have KT':=Hd hkt;have KZ':=Hd hkz;have HBW:=Hd hbw;clear hn hkt hkz hbw;have hj0:(0:Int)<=(j:Int):=jw _;by_cases hlt:j<L.length;rotate_left
    ·have hj1:¬(j:Int)<(L.length:Int):=by omega
     have he:natO 0 L=some n:=by have:=HN.o;rwa [jK (by omega)] at this
     have hnp:0<zbj s i:=by unfold zbj;split <;> have:=HDIG.o <;> omega
     have HR:=jM (zii s i=(⟨1,n,[],z4,i⟩,zbj s i)) (by rw[HR1.o,he]);have HNP:=Hd hnp;clear he hnp;go_wp2;refine jO results312 (v:=.tuple #[.agg (cTok ⟨1,n,[],z4,i⟩).toArray,.int .i64 m,.bool true]) ?_ (by simp (maxDischargeDepth:=9) [jQ,go_sem,q0,q1,q2,q3,q4,q5,q6,q7,cTok,z4]);exact ⟨TokR.yes _ _ (by rw[HR.o];exact HNP.o) (by rw[HR.o];have:=HMN.o;exact ⟨rfl,by omega⟩) rfl,zan HBW.o jy _ _ _ _ _ _ _ _⟩
    have hj1:(j:Int)<(L.length:Int):=by omega
    have hx:=za3 L j (by rw[zae];exact hlt);have htk:L.take (j+1)=L.take j++ [L.getD j 0]:=by rw[jC hlt,jL,jz hlt];rfl
    have hmem:L.getD j 0∈L:=by rw[jL,jz hlt];exact jj hlt
    have hdig:=(zdq _).1 (List.all_eq_true.1 HLD.o _ hmem);have hsp:L=L.take (j+1)++L.drop (j+1):=(List.take_append_drop _ _).symm;have hnl:=z3c _ _ HN.o (by rw[List.all_eq_true];exact λc hc=>List.all_eq_true.1 HLD.o c (List.mem_of_mem_take hc));have HTK:=Hd htk;have HSP:=Hd hsp;clear htk hmem hsp;generalize L.getD j 0=c at *;have hw:IntKind.u8.wrap ((c.toNat:Int)-48)=(c.toNat:Int)-48:=by rw[IntKind.wrap_u8];omega
    unfold zc2 at hnl;have b0:(0:Int)<=(n:Int):=jw _;have b1:(n:Int)<=9223372036854775807:=by omega
    have b2:(0:Int)<=(c.toNat:Int)-48:=by omega
    have b3:(c.toNat:Int)-48<=9:=by omega
    have hNat:(((9223372036854775807-(c.toNat-48)) / 10:Nat):Int)=(9223372036854775807-((c.toNat:Int)-48)) / 10:=by omega
    by_cases hbig:(9223372036854775807-((c.toNat:Int)-48)) / 10<(n:Int)
    ·have HB1:=Hd (show natO 0 L=none by
      rw[HSP.o];refine zl8 _ _ ?_;rw[HTK.o,zn9,HN.o,zhz,jb (by show (9223372036854775807-(c.toNat-48)) / 10<n;omega)])
     have HR:=jM (zii s i=(tok0,0)) (by rw[HR1.o,HB1.o]);clear hNat;go_wp2;refine jO results312 (v:=.tuple #[.agg (cTok ⟨1,n,[],z4,i⟩).toArray,.int .i64 0,.bool false]) ?_ (by simp (maxDischargeDepth:=9) [jQ,go_sem,q0,q1,q2,q3,q4,q5,q6,q7,cTok,z4]);exact ⟨TokR.no _ _ (by rw[HR.o]) rfl,zan HBW.o jy _ _ _ _ _ _ _ _⟩
    have HB1:=Hd (show natO 0 (L.take (j+1))=some (10*n+(c.toNat-48)) by
     rw[HTK.o,zn9,HN.o,zhz,ja (by show ¬(9223372036854775807-(c.toNat-48)) / 10<n;omega)])
    have HI:=jM ((10*(n:Int)+((c.toNat:Int)-48))=((10*n+(c.toNat-48):Nat):Int)) (by omega);clear hNat;go_wp2;rw[HI.o];refine ⟨⟨j+1,10*n+(c.toNat-48),by omega,by go_num,HB1.o,(KT'.o.set_ 1 _).eqv (by simp[tokN]),KZ'.o.far (by simp) _,HBW.o.setCell (by simp) _⟩,by simp[intOf];omega⟩
 rw[hdk] at HD;have hlt:k<s.length:=by rw[<- Nat.not_le];intro q;rw[zdz s k q] at hdk;cases hdk
 have HST:=jM (lenB digB s k=lenB digB s (k+1)+1) (by rw[zdx digB s k hlt,hdk];rfl);clear hdk;go_wp2_with fail;refine (HD.o _).mono ?_;rintro u w1 ⟨rfl,rfl⟩;go_wp2;refine ⟨⟨k+1,by omega,by omega,by go_num,?_,by trivial⟩,by simp[intOf];omega⟩;have h1:=HE.o;have h2:=HST.o;omega
abbrev tokT (i:Nat) (x:zaa):Array Value:=#[.int .u8 2,.int .i64 0,str x,.int .i64 0,.int .i64 0,.int .i64 0,.int .i64 0,.int .i64 i]
theorem zhx {x:zaa} (h:Blk W g 239 (tokT i x)):
 W.cell? ⟨g,0,none⟩=some (.int .u8 2)/\W.cell? ⟨g,1,none⟩=some (.int .i64 0)/\W.cell? ⟨g,2,none⟩=some (str x)/\W.cell? ⟨g,3,none⟩=some (.int .i64 0)/\W.cell? ⟨g,4,none⟩=some (.int .i64 0)/\W.cell? ⟨g,5,none⟩=some (.int .i64 0)/\W.cell? ⟨g,6,none⟩=some (.int .i64 0)/\W.cell? ⟨g,7,none⟩=some (.int .i64 i)/\(∀o,W.frozen? ⟨g,o,none⟩=false)/\g<W.heap.size:=
 ⟨h.cell 0,h.cell 1,h.cell 2,h.cell 3,h.cell 4,h.cell 5,h.cell 6,h.cell 7,λo=>h.frozen o,h.lt⟩
theorem zyy (s:zaa) (i:Nat) (w:World) (hs:s.length<=1000) (hi:i<s.length):
 Calls prog 313 #[str s,.int .i64 i] w λu w'=>TokR i (zfy s i) u/\Below w w w':=by
 have hi0:(0:Int)<=(i:Int):=jw _;have hi1:(i:Int)<(s.length:Int):=by omega
 have hW0:=jM (w.heap.size+1=(w.alloc (.cells aU 239)).heap.size) (by simp);have HTX:=jM (zfy s i=match unqP (s.drop (i+1)) with
  | none=>(tok0,0)
  | some r=>(⟨2,0,r.1,z4,i⟩,r.2+1)) rfl
 go_enter func313,ntmps313;go_wp2;obtain ⟨W1,hW1⟩:=jN ((w.alloc (.cells aU 239)).alloc (.cells #[.int .u8 2,.int .i64 0,.string ⟨#[]⟩,.int .i64 0,.int .i64 0,.int .i64 0,.int .i64 0,.int .i64 i] 239));have KZ:=jM (TokZ W1 w.heap.size) (hW1▸(je w _ _).alloc _);have KT:=jM (Blk W1 (w.heap.size+1) 239 (tokT i [])) (hW1▸hW0.o▸je _ _ _);have HB0:=jM (Below w w W1) (by rw[<- hW1];go_grown);rw[hW1];clear hW1 hW0;go_loopw [8] (λv wr=>∃(k:Nat) (x:zaa),i+1<=k/\k<=s.length/\x.length<=k/\v=.int .i64 k/\unqP (s.drop (i+1))=(unqP (s.drop k)).map (λr=>(x++r.1,(k-(i+1))+r.2))/\Blk wr (w.heap.size+1) 239 (tokT i x)/\TokZ wr w.heap.size/\Below w w wr) (λv _=>s.length-(intOf v).toNat)
 case atStart=>exact ⟨i+1,[],Nat.le_refl _,by omega,by simp,by go_num,by simp,KT.o,KZ.o,HB0.o⟩
 obtain ⟨k,x,hik,hk,hxl,rfl,hq,hkt,hkz,hbw⟩:=hrel;have HQ:=Hd hq;have K1:=Hd hkt;have Z1:=Hd hkz;have HB:=Hd hbw;have c2:=hkt.cell 2;have f2:=hkt.frozen 2;have hk0:(0:Int)<=(k:Int):=jw _;clear hq hkt hkz hbw;by_cases hlt:k<s.length;rotate_left
 ·have hk1:¬(k:Int)<(s.length:Int):=by omega
  have HR:=Hd (show (zfy s i).2=0 by
   rw[HTX.o,HQ.o,jm (by omega:s.length<=k)];rfl)
  obtain ⟨q0,q1,q2,q3,q4,q5,q6,q7,qf⟩:=zad Z1.o;obtain ⟨k0,k1,k2,k3,k4,k5,k6,k7,kf,kl⟩:=zhx K1.o;go_wp2;refine jO results313 (v:=.tuple #[.agg (cTok ⟨2,0,x,z4,i⟩).toArray,.int .i64 (0),.bool false]) ?_ (by simp (maxDischargeDepth:=9) [jQ,go_sem,q0,q1,q2,q3,q4,q5,q6,q7,cTok,z4]);exact ⟨TokR.no ⟨2,0,x,z4,i⟩ _ HR.o rfl,zan HB.o jy _ _ _ _ _ _ _ _⟩
 have hk1:(k:Int)<(s.length:Int):=by omega
 have hx:=za3 s k (by rw[zae];exact hlt);have HD:=Hd (zh5 s k hlt);have HS2:=jM (k+1<s.length->s.drop (k+1)=s.getD (k+1) 0::s.drop (k+2)) (λh=>zh5 s (k+1) h);generalize s.getD k 0=c at *;have hc34:c=34↔c.toNat=34:=by rw[<- UInt8.toNat_inj];rfl
 have HC:=Hd hc34;clear hc34;by_cases h34:c.toNat=34;rotate_left
 ·have t1:=zf4 c 34 h34;have t2:((c.toNat:Int) != (34:Int))=true:=by simp only[bne_iff_ne,ne_eq];omega
  have hk2:(k:Int)<=(k:Int)+1:=by omega
  have hk3:(k:Int)+1<=(s.length:Int):=by omega
  have HU:=Hd (show unqP (s.drop k)=(unqP (s.drop (k+1))).map (λr=>(c::r.1,r.2+1)) by
   rw[HD.o,z1k (λe=>h34 (HC.o.1 e))])
  have HX1:=jM ((s.drop k).take 1=[c]) (by rw[HD.o];rfl);clear h34;go_wp2
  go_region
  go_wp2;refine ⟨⟨k+1,x++ [c],by omega,by omega,by simp;omega,by go_num,?_,?_,Z1.o.far (by simp) _,(HB.o.setCell (p:=⟨w.heap.size+1,2,none⟩) (by simp) _).drew⟩,by simp[intOf];omega⟩
  ·rw[HQ.o,HU.o,Option.map_map]
   congr 1
   funext r
   simp only[Function.comp_apply,jJ,List.singleton_append,Prod.mk.injEq,true_and];omega
  rw[zdc,HX1.o,zdf];exact (K1.o.set_ 2 _)
 have t1:=zhs c 34 h34;have t2:((c.toNat:Int) != (34:Int))=false:=by simp only[bne_eq_false_iff_eq];omega
 have HC2:=Hd (HC.o.2 h34);have hk2:(k:Int)<=(k:Int)+1:=by omega
 by_cases hn:k+1<s.length;rotate_left
 ·have hn1:¬(k:Int)+1<(s.length:Int):=by omega
  have HU:=Hd (show unqP (s.drop k)=some ([],1) by
   rw[HD.o,HC2.o,zp9 (by rw[jm (by omega)];simp)])
  have HR:=Hd (show zfy s i=(⟨2,0,x,z4,i⟩,k-(i+1)+1+1) by
   rw[HTX.o,HQ.o,HU.o];simp)
  clear h34;obtain ⟨q0,q1,q2,q3,q4,q5,q6,q7,qf⟩:=zad Z1.o;obtain ⟨k0,k1,k2,k3,k4,k5,k6,k7,kf,kl⟩:=zhx K1.o;go_wp2;refine jO results313 (v:=.tuple #[.agg (cTok ⟨2,0,x,z4,i⟩).toArray,.int .i64 ((k:Int)+1),.bool true]) ?_ (by simp (maxDischargeDepth:=9) [jQ,go_sem,q0,q1,q2,q3,q4,q5,q6,q7,cTok,z4]);exact ⟨TokR.yes ⟨2,0,x,z4,i⟩ _ (by rw[HR.o];simp) (by rw[HR.o];exact ⟨rfl,by simp only;omega⟩) rfl,zan HB.o jy _ _ _ _ _ _ _ _⟩
 have hn1:(k:Int)+1<(s.length:Int):=by omega
 have hx2:=za3 s (k+1) (by rw[zae];exact hn);have HT2:=Hd (HS2.o hn);generalize s.getD (k+1) 0=d at *;have hd34:d=34↔d.toNat=34:=by rw[<- UInt8.toNat_inj];rfl
 have HD4:=Hd hd34;clear hd34 h34;by_cases d34:d.toNat=34
 ·have t3:=zhs d 34 d34;have HU:=Hd (show unqP (s.drop k)=(unqP (s.drop (k+2))).map (λr=>(34::r.1,r.2+2)) by
   rw[HD.o,HC2.o,HT2.o,HD4.o.2 d34,zx6])
  clear d34;go_wp2;refine ⟨⟨k+2,x++ [34],by omega,by omega,by simp;omega,by go_num,?_,?_,Z1.o.far (by simp) _,HB.o.setCell (by simp) _⟩,by simp[intOf];omega⟩
  ·rw[HQ.o,HU.o,Option.map_map]
   congr 1
   funext r
   simp only[Function.comp_apply,jJ,List.singleton_append,Prod.mk.injEq,true_and];omega
  exact (K1.o.set_ 2 _).eqv (by simp[tokT,zdf])
 have t3:=zf4 d 34 d34;have HU:=Hd (show unqP (s.drop k)=some ([],1) by
  rw[HD.o,HC2.o,zp9 (by rw[HT2.o];simp only[List.head?_cons,ne_eq,jl];exact λe=>d34 (HD4.o.1 e))])
 clear d34;have HR:=Hd (show zfy s i=(⟨2,0,x,z4,i⟩,k-(i+1)+1+1) by
  rw[HTX.o,HQ.o,HU.o];simp)
 obtain ⟨q0,q1,q2,q3,q4,q5,q6,q7,qf⟩:=zad Z1.o;obtain ⟨k0,k1,k2,k3,k4,k5,k6,k7,kf,kl⟩:=zhx K1.o;go_wp2;refine jO results313 (v:=.tuple #[.agg (cTok ⟨2,0,x,z4,i⟩).toArray,.int .i64 ((k:Int)+1),.bool true]) ?_ (by simp (maxDischargeDepth:=9) [jQ,go_sem,q0,q1,q2,q3,q4,q5,q6,q7,cTok,z4]);exact ⟨TokR.yes ⟨2,0,x,z4,i⟩ _ (by rw[HR.o];simp) (by rw[HR.o];exact ⟨rfl,by simp only;omega⟩) rfl,zan HB.o jy _ _ _ _ _ _ _ _⟩
theorem zkv (c:UInt8) (w:World):
 Calls prog 357 #[.int .u8 c.toNat] w λu w'=>u=.returned (.int .i64 (zgt c))/\w=w':=by
 have hc:c.toNat<256:=c.toNat_lt;have HE:=jM (zgt c=if 65<=c.toNat/\c.toNat<=90 then (c.toNat:Int)-65+1 else if 97<=c.toNat/\c.toNat<=122 then (c.toNat:Int)-97+1 else 0) rfl;generalize zgt c=r at *;generalize c.toNat=n at *;have hn0:(0:Int)<=(n:Int):=jw _;by_cases h1:65<=n/\n<=90
 ·have e1:(65:Int)<=(n:Int):=by omega
  have e2:(n:Int)<=90:=by omega
  have hx:IntKind.u8.wrap ((n:Int)-65)=(n:Int)-65:=by rw[IntKind.wrap_u8];omega
  have HR:=jM (r=(n:Int)-65+1) (by rw[HE.o,jb h1]);clear HE;go_enter func357,ntmps357;go_wp2;go_ret;exact ⟨by rw[HR.o];rfl,rfl⟩
 by_cases h2:97<=n/\n<=122
 ·have e1:(65:Int)<=(n:Int):=by omega
  have e2:¬(n:Int)<=90:=by omega
  have e3:(97:Int)<=(n:Int):=by omega
  have e4:(n:Int)<=122:=by omega
  have hx:IntKind.u8.wrap ((n:Int)-97)=(n:Int)-97:=by rw[IntKind.wrap_u8];omega
  have HR:=jM (r=(n:Int)-97+1) (by rw[HE.o,ja h1,jb h2]);clear HE;go_enter func357,ntmps357;go_wp2;go_ret;exact ⟨by rw[HR.o];rfl,rfl⟩
 have HR:=jM (r=0) (by rw[HE.o,ja h1,ja h2]);clear HE;by_cases e1:(65:Int)<=(n:Int)
 ·have e2:¬(n:Int)<=90:=by omega
  by_cases e3:(97:Int)<=(n:Int)
  ·have e4:¬(n:Int)<=122:=by omega
   go_enter func357,ntmps357;go_wp2;go_ret;exact ⟨by rw[HR.o];rfl,rfl⟩
  skip
  go_enter func357,ntmps357;go_wp2;go_ret;exact ⟨by rw[HR.o];rfl,rfl⟩
 have e3:¬(97:Int)<=(n:Int):=by omega
 go_enter func357,ntmps357;go_wp2;go_ret;exact ⟨by rw[HR.o];rfl,rfl⟩
def colE (s:zaa):Int × Int:=if 1024<colI 0 s then (0,3) else (colI 0 s,0)
theorem zsy (s:zaa) (w:World) (hs:s.length<=1000000) (ha:∀c∈s,letB c=true) (hne:s≠ []):
 Calls prog 358 #[str s] w λu w'=>u=.returned (.tuple #[.int .i64 (colE s).1,.int .i64 (colE s).2])/\Below w w w':=by
 have hmin:∀x y:Int,(if y<x then y else x)=min x y:=by intro x y;omega
 have hp:=zmq s 0 ha (by omega) (.inl hne);go_enter func358,ntmps358;go_wp2;go_loopw [4,5] (λn i wr=>∃k:Nat,k<=s.length/\n=.int .i64 (colI 0 (s.take k))/\i=.int .i64 k/\w=wr) (λ_ i _=>s.length-(intOf i).toNat)
 case atStart=>exact ⟨0,by omega,by simp[colI],rfl,rfl⟩
 obtain ⟨k,hk,rfl,rfl,rfl⟩:=hrel;by_cases hlt:k<s.length
 ·have hx:=za3 s k (by rw[zae];exact hlt);have hcm:s.getD k 0∈s:=by rw[jL,jz hlt];exact jj hlt
  have hT:=Hd (show colI 0 (s.take (k+1))=min (26*colI 0 (s.take k)+zgt (s.getD k 0)) 1025 by
   rw[jC hlt,zot,jL,jz hlt];rfl)
  have hlc:=ha _ hcm;have hb:=zf7 (s.getD k 0);have h1:zgt (s.getD k 0)≠0:=by have:=hb.1.2 hlc;omega
  have b0:=zxc (s.take k) 0 (by omega);have b1:=zmr (s.take k) 0 (by omega);generalize s.getD k 0=c at *;have HL:=Hd (zkv c);have b2:=hb.2.1;have b3:=hb.2.2;have HT:=Hd hT.o;clear hT hb hlc hcm;generalize colI 0 (s.take k)=n at *;generalize zgt c=m at *;have t0:(m==0)=false:=by simpa using h1
  have hi0:(0:Int)<=(k:Int):=jw _;have hi1:(k:Int)<(s.length:Int):=by omega
  go_wp2_with fail;refine (HL.o _).mono ?_;rintro u w1 ⟨rfl,rfl⟩;go_wp2_with fail;refine (HL.o _).mono ?_;rintro u w2 ⟨rfl,rfl⟩;go_wp2;exact ⟨⟨k+1,by omega,by rw[HT.o],by go_num,trivial⟩,by simp[intOf];omega⟩
 have he:s.take k=s:=jK (by omega);rw[he];have hi1:¬(k:Int)<(s.length:Int):=by omega
 have hnn:=zmr s 0 (by omega);have HC:=jM (colE s=if 1024<colI 0 s then (0,3) else (colI 0 s,0)) rfl;generalize colI 0 s=n at *;have t0:(n==0)=false:=by simp only[jI,ne_eq];omega
 clear he;by_cases hg:1024<n
 ·have H:=Hd (HC.o.trans (jb hg));go_wp2;go_ret2;exact ⟨by rw[H.o];rfl,jg _ _⟩
 have H:=Hd (HC.o.trans (ja hg));go_wp2;go_ret2;exact ⟨by rw[H.o];rfl,jg _ _⟩
theorem zd9 (h:Blk W g 56 #[.int .i64 0,.int .i64 0]):W.cell? (g,0)=some (.int .i64 0)/\W.cell? (g,1)=some (.int .i64 0)/\(∀o,W.frozen? ⟨g,o,none⟩=false)/\g<W.heap.size:=⟨h.cell 0,h.cell 1,λo=>h.frozen o,h.lt⟩
theorem zkg (s:zaa) (w:World) (hs:s.length<=1000000):
 Calls prog 345 #[str s] w λu w'=>u=.returned (.tuple #[.agg #[.int .i64 (parR s).1.col,.int .i64 (parR s).1.row],.int .i64 (parR s).2])/\Below w w w':=by
 have hmin:∀x y:Int,(if y<x then y else x)=min x y:=by intro x y;omega
 have hlim:=zrb letB s;have HPAR:=jM (parR s=if lenB letB s 0=0\/s.drop (lenB letB s 0)=[]\/(s.drop (lenB letB s 0)).head?=some 48\/(s.drop (lenB letB s 0)).all digB=false then (⟨0,0⟩,4)
  else if 1024<colI 0 (s.take (lenB letB s 0))\/1024<rowI 0 (s.drop (lenB letB s 0)) then (⟨0,0⟩,3) else (⟨colI 0 (s.take (lenB letB s 0)),rowI 0 (s.drop (lenB letB s 0))⟩,0)) rfl
 have KZ:=Hd (je w 56 #[.int .i64 0,.int .i64 0]);have HB0:=jM (Below w w (w.alloc (.cells #[.int .i64 0,.int .i64 0] 56))) (by go_grown);go_enter func345,ntmps345;go_wp2;obtain ⟨W1,hW1⟩:=jN (w.alloc (.cells #[.int .i64 0,.int .i64 0] 56));rw[hW1] at KZ HB0 ⊢;clear hW1;go_loopw [4] (λv wr=>∃k:Nat,k<=s.length/\v=.int .i64 k/\lenB letB s 0=k+lenB letB s k/\W1=wr) (λv _=>s.length-(intOf v).toNat)
 case atStart=>exact ⟨0,by omega,rfl,by omega,rfl⟩
 obtain ⟨k,hk,rfl,he,rfl⟩:=hrel;have HE:=Hd he;clear he;have hi0:(0:Int)<=(k:Int):=jw _;by_cases hlt:k<s.length;rotate_left
 ·have hi1:¬(k:Int)<(s.length:Int):=by omega
  have hk0:lenB letB s 0=k:=by have:=HE.o;have:=ziv letB s k (by omega);omega
  have hPK:=HPAR.o;rw[hk0] at hPK;have HR:=Hd (hPK.trans (jb (.inr (.inl (jm (by omega))))));clear hPK HPAR HE hk0 hlim;have t1:((k:Int)==(s.length:Int))=true:=by simp only[beq_iff_eq];omega
  obtain ⟨q0,q1,qf,ql⟩:=zd9 KZ.o;by_cases h0:k=0
  ·subst h0;go_wp2;refine jO results345 (v:=.tuple #[.agg #[.int .i64 0,.int .i64 0],.int .i64 4]) ?_ (by simp (maxDischargeDepth:=9) [jQ,go_sem,q0,q1]);exact ⟨by rw[HR.o],HB0.o.setCell jy _ |>.setCell jy _⟩
  have t0:((k:Int)==0)=false:=by simp only[jI,ne_eq];omega
  go_wp2;refine jO results345 (v:=.tuple #[.agg #[.int .i64 0,.int .i64 0],.int .i64 4]) ?_ (by simp (maxDischargeDepth:=9) [jQ,go_sem,q0,q1]);exact ⟨by rw[HR.o],HB0.o.setCell jy _ |>.setCell jy _⟩
 have hi1:(k:Int)<(s.length:Int):=by omega
 have hx:=za3 s k (by rw[zae];exact hlt);have hst:=zdx letB s k hlt;have hlp:=zf7 (s.getD k 0);have HL:=Hd (zkv (s.getD k 0));have HD0:=Hd (zh5 s k hlt);generalize s.getD k 0=c at *;generalize zgt c=m at *;by_cases hm:0<m
 ·have hl:=hlp.1.1 hm;rw[hl] at hst;have HST:=Hd hst;clear hst hlp hl hlim;go_wp2_with fail;refine (HL.o _).mono ?_;rintro u w1 ⟨rfl,rfl⟩;go_wp2;refine ⟨⟨k+1,by omega,by go_num,?_,by trivial⟩,by simp[intOf];omega⟩;have h1:=HE.o;have h2:=HST.o;simp only[if_true] at h2;omega
 have hl:letB c=false:=by rw[Bool.eq_false_iff];exact λq=>hm (hlp.1.2 q)
 rw[hl] at hst;have hk0:lenB letB s 0=k:=by have:=HE.o;simp only[Bool.false_eq_true,if_false] at hst;omega
 have HK0:=Hd hk0;have HPK:=HPAR.o;rw[hk0] at HPK;have HP:=Hd HPK;have hall:=zht letB s 0;rw[hk0,List.drop_zero] at hall;have HALL:=Hd hall;clear HPK hst hlp hl hlim HPAR HE hk0 hall;go_wp2_with fail;refine (HL.o _).mono ?_;rintro u w1 ⟨rfl,rfl⟩;clear HL;by_cases h0:k=0
 ·subst h0;have HR:=Hd (HP.o.trans (jb (.inl rfl)));obtain ⟨q0,q1,qf,ql⟩:=zd9 KZ.o;go_wp2;refine jO results345 (v:=.tuple #[.agg #[.int .i64 0,.int .i64 0],.int .i64 4]) ?_ (by simp (maxDischargeDepth:=9) [jQ,go_sem,q0,q1]);exact ⟨by rw[HR.o],HB0.o.setCell jy _ |>.setCell jy _⟩
 have t0:((k:Int)==0)=false:=by simp only[jI,ne_eq];omega
 have t1:((k:Int)==(s.length:Int))=false:=by simp only[jI,ne_eq];omega
 by_cases h48:c.toNat=48
 ·have t2:=zhs c 48 h48;have e48:c=48:=UInt8.toNat_inj.1 (by simpa using h48);have HR:=Hd (HP.o.trans (jb (.inr (.inr (.inl (by rw[HD0.o,e48];rfl))))));obtain ⟨q0,q1,qf,ql⟩:=zd9 KZ.o;go_wp2;refine jO results345 (v:=.tuple #[.agg #[.int .i64 0,.int .i64 0],.int .i64 4]) ?_ (by simp (maxDischargeDepth:=9) [jQ,go_sem,q0,q1]);exact ⟨by rw[HR.o],HB0.o.setCell jy _ |>.setCell jy _⟩
 have t2:=zf4 c 48 h48;have hne:s.take k≠ []:=by rw[<- List.length_pos_iff,List.length_take];omega
 have HNE:=Hd hne;have HTL:=jM ((s.take k).length<=1000000) (by rw[List.length_take];omega);clear hne;obtain ⟨D,hD⟩:=jN (s.drop k);have hDl:D.length=s.length-k:=by rw[<- hD,jp]
 have hDat:∀j,k<=j->D.getD (j-k) 0=s.getD j 0:=λj hj=>by rw[<- hD,jL,List.getElem?_drop,show k+(j-k)=j by omega,<- jL]
 have hDh:D.head?=some c:=by rw[<- hD,HD0.o];rfl
 have hP:=HP.o;rw[hD] at hP;have hP2:D.all digB=true->parR s=if 1024<colI 0 (s.take k)\/1024<rowI 0 D then (⟨0,0⟩,3) else (⟨colI 0 (s.take k),rowI 0 D⟩,0):=λha=>hP.trans (ja (by
  rw[hDh,ha];rintro (q | q | q | q)
  ·exact h0 q
  ·rw[q] at hDh;cases hDh
  ·simp only[jl] at q;exact h48 (by rw[q];rfl)
  cases q))
 have hP3:D.all digB=false->parR s=(⟨0,0⟩,4):=λha=>hP.trans (jb (.inr (.inr (.inr ha))));have HP2:=Hd hP2;have HP3:=Hd hP3;have HDL:=Hd hDl;have HDA:=Hd hDat;clear hP hP2 hP3 hDl hDat hDh hD HP HD0 h48 h0;go_wp2;go_loopw [5,6] (λr v wr=>∃j:Nat,k<=j/\j<=s.length/\r=.int .i64 (rowI 0 (D.take (j-k)))/\v=.int .i64 j/\(D.take (j-k)).all digB=true/\W1=wr) (λ_ v _=>s.length-(intOf v).toNat)
 case atStart=>exact ⟨k,Nat.le_refl _,hk,by simp[rowI],rfl,by simp,rfl⟩
 obtain ⟨j,hkj,hj,rfl,rfl,hall,rfl⟩:=hrel;have HJ:=Hd hall;clear hall;have hj0:(0:Int)<=(j:Int):=jw _;have hb0:=zu1 (D.take (j-k)) 0 (by omega);have hb1:=zu0 (D.take (j-k)) 0 (by omega) HJ.o;by_cases hjl:j<s.length
 ·have hj1:(j:Int)<(s.length:Int):=by omega
  have hxj:=za3 s j (by rw[zae];exact hjl);have hDn:j-k<D.length:=by rw[HDL.o];omega
  have hg:D[j-k]'hDn=s.getD j 0:=by have:=HDA.o j hkj;rw[jL,jz hDn] at this;exact this
  have htk:D.take (j+1-k)=D.take (j-k)++ [s.getD j 0]:=by rw[show j+1-k=j-k+1 by omega,jC hDn,hg]
  have hmem:s.getD j 0∈D:=by rw[<- hg];exact jj hDn
  generalize s.getD j 0=e at *;have HTK:=Hd htk;have HMEM:=Hd hmem;clear htk hmem hg hDn;generalize hrow:rowI 0 (D.take (j-k))=r at *;by_cases d1:48<=e.toNat
  ·by_cases d2:e.toNat<=57
   ·have c1:¬(e.toNat:Int)<48:=by omega
    have c2:¬(57:Int)<(e.toNat:Int):=by omega
    have hw:IntKind.u8.wrap ((e.toNat:Int)-48)=(e.toNat:Int)-48:=by rw[IntKind.wrap_u8];omega
    have HRW:=Hd hrow;have HDG:=Hd ((zdq e).2 ⟨d1,d2⟩);clear hrow;go_wp2;refine ⟨⟨j+1,by omega,by omega,?_,by go_num,?_,by trivial⟩,by simp[intOf];omega⟩
    ·rw[HTK.o,znh,HRW.o]
    rw[HTK.o,List.all_append,HJ.o];simp[HDG.o]
   have c1:¬(e.toNat:Int)<48:=by omega
   have c2:(57:Int)<(e.toNat:Int):=by omega
   have HR:=Hd (HP3.o (by rw[Bool.eq_false_iff];intro q;have:=List.all_eq_true.1 q e HMEM.o;rw[zdq] at this;omega));obtain ⟨q0,q1,qf,ql⟩:=zd9 KZ.o;go_wp2;refine jO results345 (v:=.tuple #[.agg #[.int .i64 0,.int .i64 0],.int .i64 4]) ?_ (by simp (maxDischargeDepth:=9) [jQ,go_sem,q0,q1]);exact ⟨by rw[HR.o],HB0.o.setCell jy _ |>.setCell jy _⟩
  have c1:(e.toNat:Int)<48:=by omega
  have HR:=Hd (HP3.o (by rw[Bool.eq_false_iff];intro q;have:=List.all_eq_true.1 q e HMEM.o;rw[zdq] at this;omega));obtain ⟨q0,q1,qf,ql⟩:=zd9 KZ.o;go_wp2;refine jO results345 (v:=.tuple #[.agg #[.int .i64 0,.int .i64 0],.int .i64 4]) ?_ (by simp (maxDischargeDepth:=9) [jQ,go_sem,q0,q1]);exact ⟨by rw[HR.o],HB0.o.setCell jy _ |>.setCell jy _⟩
 have hj1:¬(j:Int)<(s.length:Int):=by omega
 have htk:D.take (j-k)=D:=jK (by rw[HDL.o];omega);have hJ:=HJ.o;rw[htk] at hJ hb0 hb1;rw[htk];have hP:=HP2.o hJ;have HCO:=Hd (zsy (s.take k) · HTL.o (List.all_eq_true.1 HALL.o) HNE.o);have HCE:=jM (colE (s.take k)=if 1024<colI 0 (s.take k) then (0,3) else (colI 0 (s.take k),0)) rfl;have HPP:=Hd hP;clear hP hJ htk;generalize rowI 0 D=r at *;generalize colI 0 (s.take k)=m at *;have hk1:(k:Int)<=(s.length:Int):=by omega
 go_wp2_with fail;rw[zj3];refine (HCO.o _).mono ?_;rintro u w2 ⟨rfl,hb2⟩;have KZ2:=Hd (KZ.o.below_ hb2);have HB2:=Hd (jd HB0.o hb2 HB0.o.size);clear hb2;obtain ⟨q0,q1,qf,ql⟩:=zd9 KZ2.o;by_cases g1:1024<m
 ·rw[HCE.o.trans (jb g1)];have HR:=Hd (HPP.o.trans (jb (.inl g1)));go_wp2;refine jO results345 (v:=.tuple #[.agg #[.int .i64 0,.int .i64 0],.int .i64 3]) ?_ (by simp (maxDischargeDepth:=9) [jQ,go_sem,q0,q1]);exact ⟨by rw[HR.o],HB2.o.setCell jy _ |>.setCell jy _⟩
 rw[HCE.o.trans (ja g1)];by_cases g2:1024<r
 ·have HR:=Hd (HPP.o.trans (jb (.inr g2)));go_wp2;refine jO results345 (v:=.tuple #[.agg #[.int .i64 0,.int .i64 0],.int .i64 3]) ?_ (by simp (maxDischargeDepth:=9) [jQ,go_sem,q0,q1]);exact ⟨by rw[HR.o],HB2.o.setCell jy _ |>.setCell jy _⟩
 have HR:=Hd (HPP.o.trans (ja (by omega)));go_wp2;refine jO results345 (v:=.tuple #[.agg #[.int .i64 m,.int .i64 r],.int .i64 0]) ?_ (by simp (maxDischargeDepth:=9) [jQ,go_sem,q0,q1]);exact ⟨by rw[HR.o],HB2.o.setCell jy _ |>.setCell jy _⟩
theorem zkw (s x:zaa) (i:Nat) (w:World) (hs:s.length<=1000) (hx:x.length<=1000) (hi:i<=s.length):
 Calls prog 332 #[str s,.int .i64 i,str x] w λu w'=>u=.returned (.bool (zem s i x))/\Below w w w':=by
 have hi0:(0:Int)<=(i:Int):=jw _;have HB:=jM (zem s i x=(decide (i+x.length<=s.length)&&decide (((s.drop i).take x.length).map upU=x))) rfl;obtain ⟨q,hq⟩:=jN (zem s i x);rw[hq] at HB ⊢;clear hq;by_cases h:i+x.length<=s.length;rotate_left
 ·have h1:¬(i:Int)+(x.length:Int)<=(s.length:Int):=by omega
  have HQ:=jM (false=q) (by rw[HB.o,jA h,Bool.false_and]);go_enter func332,ntmps332;go_wp2;go_ret;exact ⟨congrArg (λz=>Ending.returned (.bool z)) HQ.o,by go_grown⟩
 have h1:(i:Int)+(x.length:Int)<=(s.length:Int):=by omega
 have h2:(i:Int)<=(i:Int)+(x.length:Int):=by omega
 have HE:=Hd (zdc s i x.length);have HU:=Hd (zhh ((s.drop i).take x.length) · (by simp;omega));obtain ⟨y,hy⟩:=jN (((s.drop i).take x.length).map upU);rw[hy] at HU HB;clear hy;have HB2:=jM (decide (y=x)=q) (by rw[HB.o,jB h,Bool.true_and]);go_enter func332,ntmps332;go_wp2_with fail;rw[HE.o];refine (HU.o _).mono ?_;rintro u w1 ⟨rfl,hb1⟩;by_cases hxy:y=x
 ·have be:(y==x)=true:=by simpa using hxy
  have HQ:=jM (true=q) (by rw[<- HB2.o,jB hxy]);clear hxy;go_wp2;go_ret;exact ⟨congrArg (λz=>Ending.returned (.bool z)) HQ.o,hb1⟩
 have be:(y==x)=false:=by simpa using hxy
 have HQ:=jM (false=q) (by rw[<- HB2.o,jA hxy]);clear hxy;go_wp2;go_ret;exact ⟨congrArg (λz=>Ending.returned (.bool z)) HQ.o,hb1⟩
theorem znn (op:Nat) (w:World) (h1:1<=op) (h2:op<=13):
 Calls prog 333 #[.int .i64 op] w λu w'=>u=.returned (str (opT op))/\w=w':=by
 rcases (by omega:op=1\/op=2\/op=3\/op=4\/op=5\/op=6\/op=7\/op=8\/op=9\/op=10\/op=11\/op=12\/op=13) with rfl|rfl|rfl|rfl|rfl|rfl|rfl|rfl|rfl|rfl|rfl|rfl|rfl
 all_goals
  go_enter func333,ntmps333;go_wp2;go_ret;exact ⟨rfl,rfl⟩
def adrS (s:zaa) (i:Nat):Ref × Nat × Bool:=
 if letB (s.getD i 0)=false then (⟨0,0⟩,0,false) else ((parA (zag s i)).1,i+(zag s i).length,decide ((parA (zag s i)).2=0)&&decide (ub s (i+(zag s i).length)≠40))
theorem zjk (s:zaa) (i:Nat):(zag s i).length=lenB alnB s i:=by
 unfold zag;rw[List.length_map,zgj]
theorem zvp (s:zaa) (i:Nat):parR ((s.drop i).take (lenB alnB s i))=parA (zag s i):=by
 unfold zag;rw[par_up,z2v]
theorem zjg (s:zaa) (i:Nat) (w:World) (hs:s.length<=1000) (hi:i<=s.length):
 Calls prog 330 #[str s,.int .i64 i] w λu w'=>u=.returned (.tuple #[.agg #[.int .i64 (adrS s i).1.col,.int .i64 (adrS s i).1.row],.int .i64 (adrS s i).2.1,.bool (adrS s i).2.2])/\Below w w w':=by
 have hi0:(0:Int)<=(i:Int):=jw _;have HA:=jM (adrS s i=if letB (s.getD i 0)=false then (⟨0,0⟩,0,false) else ((parA (zag s i)).1,i+(zag s i).length,decide ((parA (zag s i)).2=0)&&decide (ub s (i+(zag s i).length)≠40))) rfl;obtain ⟨⟨⟨rc,rr⟩,en,ok⟩,hr⟩:∃r,adrS s i=r:=⟨_,rfl⟩;rw[hr] at HA ⊢;clear hr;have HL:=Hd (zf1 s i);have HLN:=Hd (zjk s i);have hlim:=zgk alnB s i;have HP:=Hd (zvp s i);have HW:=Hd (zjf s i · (by omega) hi);generalize hn:lenB alnB s i=n at *;clear hn;cases hl:letB (s.getD i 0)
 ·rw[hl] at HL HA;have HA2:=Hd (HA.o.trans (jb rfl));go_enter func330,ntmps330;go_wp2_with fail;refine (HL.o _).mono ?_;rintro u w1 ⟨rfl,rfl⟩;go_wp2;refine jO results330 (v:=.tuple #[.agg #[.int .i64 0,.int .i64 0],.int .i64 0,.bool false]) ?_;exact ⟨by
   have:=HA2.o;simp only[Prod.mk.injEq,Ref.mk.injEq] at this;rw[this.1.1,this.1.2,this.2.1,this.2.2];rfl,by go_grown⟩
 rw[hl] at HL HA;have HA2:=Hd (HA.o.trans (ja (by decide)));have HPR:=Hd (zkg ((s.drop i).take n) · (by simp;omega));rw[HP.o] at HPR;obtain ⟨⟨⟨pc,pr⟩,pe⟩,hpq⟩:∃r,parA (zag s i)=r:=⟨_,rfl⟩;rw[hpq] at HPR HA2;rw[HLN.o] at HA2;clear hpq hl HP HLN HA;have HE:=Hd (zdc s i n);have hn0:(i:Int)<=(i:Int)+(n:Int):=by omega
 have hn1:(i:Int)+(n:Int)<=(s.length:Int):=by omega
 have hic:((i+n:Nat):Int)=(i:Int)+(n:Int):=by omega
 rw[hic] at HW;go_enter func330,ntmps330;go_wp2_with fail;refine (HL.o _).mono ?_;rintro u w1 ⟨rfl,rfl⟩;go_wp2_with fail;refine (HW.o _).mono ?_;rintro u w1 ⟨rfl,rfl⟩;go_wp2_with fail;rw[HE.o];refine (HPR.o _).mono ?_;rintro u w2 ⟨rfl,hb2⟩;have KZ:=Hd ((je w 56 #[.int .i64 0,.int .i64 0]).below_ hb2);have HB2:=jM (Below w w (w2.alloc (.cells #[.int .i64 pc,.int .i64 pr] 56))) (Below.alloc (nxt hb2) (by have:=hb2.size;simp at this;omega) _);have KP:=Hd (je w2 56 #[.int .i64 pc,.int .i64 pr]);have KZ2:=Hd (KZ.o.alloc (.cells #[.int .i64 pc,.int .i64 pr] 56));clear hb2;go_upto_region 5 with (fail)
 obtain ⟨g,hg⟩:∃g,g=w2.heap.size:=⟨_,rfl⟩;obtain ⟨V,hV⟩:=jN (w2.alloc (.cells #[.int .i64 pc,.int .i64 pr] 56));rw[hV] at HB2 KP KZ2 ⊢;rw[<- hg] at KP ⊢;clear hV hg;obtain ⟨z0,z1⟩:=KZ2.o.c2 0 1;have zf:=λo=>KZ2.o.frozen o;have hzl:=KZ2.o.lt;obtain ⟨p0,p1⟩:=KP.o.c2 0 1;have HRES:Hid (∀q:Bool,q=(decide (pe=0)&&decide (ub s (i+n)≠40))->rc=pc/\rr=pr/\en=i+n/\ok=q):=Hd (λq hq=>by
  have h:=HA2.o;simp only[Prod.mk.injEq,Ref.mk.injEq] at h;exact ⟨h.1.1,h.1.2,h.2.1,h.2.2.trans hq.symm⟩)
 have HBW:Hid (∀v0 v1:Value,Below w w ((V.drew.setCell (w,0) v0).setCell (w,1) v1)):=Hd (λv0 v1=>(HB2.o.drew.setCell (p:=(w,0)) jy v0).setCell (p:=(w,1)) jy v1);have HBX:Hid (∀v0 v1:Value,Below w w (((V.setCell (w,0) v0).setCell (w,1) v1).drew)):=Hd (λv0 v1=>((HB2.o.setCell (p:=(w,0)) jy v0).setCell (p:=(w,1)) jy v1).drew);clear HA2 HPR;by_cases he:pe=0;rotate_left
 ·have be:(pe==0)=false:=by simpa using he
  have HQ:=Hd (HRES.o false (by rw[jA he];rfl));clear he HRES
  go_region
  go_wp2;refine jO results330 (v:=.tuple #[.agg #[.int .i64 pc,.int .i64 pr],.int .i64 ((i:Int)+(n:Int)),.bool false]) ?_ (by simp (maxDischargeDepth:=9) [jQ,go_sem,z0,z1]);refine ⟨by rw[HQ.o.1,HQ.o.2.1,HQ.o.2.2.1,HQ.o.2.2.2];rfl,?_⟩
  first | exact HBW.o _ _ | exact HBX.o _ _
 have be:(pe==0)=true:=by simpa using he
 by_cases hend:i+n=s.length
 ·have bl:((i:Int)+(n:Int)==(s.length:Int))=true:=by simp only[beq_iff_eq];omega
  have HQ:=Hd (HRES.o true (by rw[jB he,show ub s (i+n)=0 from by unfold ub;rw[zdz s (i+n) (by omega)];rfl];rfl));clear he HRES hend
  go_region
  go_wp2;refine jO results330 (v:=.tuple #[.agg #[.int .i64 pc,.int .i64 pr],.int .i64 ((i:Int)+(n:Int)),.bool true]) ?_ (by simp (maxDischargeDepth:=9) [jQ,go_sem,z0,z1]);refine ⟨by rw[HQ.o.1,HQ.o.2.1,HQ.o.2.2.1,HQ.o.2.2.2];rfl,?_⟩
  first | exact HBW.o _ _ | exact HBX.o _ _
 have bl:((i:Int)+(n:Int)==(s.length:Int))=false:=by simp only[jI,ne_eq];omega
 have hlt:i+n<s.length:=by omega
 have hlt1:(i:Int)+(n:Int)<(s.length:Int):=by omega
 have hx:=za3 s (i+n) (by rw[zae];exact hlt);have hu:=zm2 s (i+n) rfl;generalize s.getD (i+n) 0=c at *;have HQ:=Hd (HRES.o ((c.toNat:Int) != 40) (by rw[jB he,hu,Bool.true_and,Bool.eq_iff_iff];simp only[bne_iff_ne,ne_eq,decide_eq_true_eq];omega));have ht0:(0:Int)<=(i:Int)+(n:Int):=by omega
 have htn:((i:Int)+(n:Int)).toNat=i+n:=by omega
 clear he HRES hend hu
 go_region
 go_wp2;refine jO results330 (v:=.tuple #[.agg #[.int .i64 pc,.int .i64 pr],.int .i64 ((i:Int)+(n:Int)),.bool ((c.toNat:Int) != 40)]) ?_ (by simp (maxDischargeDepth:=9) [jQ,go_sem,z0,z1]);refine ⟨by rw[HQ.o.1,HQ.o.2.1,HQ.o.2.2.1,HQ.o.2.2.2];rfl,?_⟩
 first | exact HBW.o _ _ | exact HBX.o _ _
end Go.Proofs.YtamcgggmfghljaaGreatDoor
