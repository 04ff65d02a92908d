/- walk -/
import Derived.Test.YtamcgggmfghljaaGreatDoorE23
import Derived.Test.YtamcgggmfghljaaGreatDoorE29
set_option maxRecDepth 100000
set_option maxHeartbeats 8000000
open Go.Proofs.Tryz
namespace Go.Proofs.YtamcgggmfghljaaGreatDoor
open Go.RowKit
variable {u:Ending} {e:Int} {B g:Nat} {sv:Value} {a w w':World}
abbrev z38 (t:List Nod) (p:Part):Prop:=p.root<t.length/\1<=p.depth/\p.depth<=32/\p.wide=decide ((t.getD p.root (nod0 0)).kind=3)
theorem zv0 {t:List Nod} {k:Nat} {y:Nod} {st:List Part} {e:Int} (h:NodOk y) (he:zij t k y st=.error e):e≠0:=by
 rw[ziu t k h st] at he;split at he
 ·injection he with he;omega
 split at he
 ·injection he with he;omega
 cases he
theorem zpj {t:List Nod} {k:Nat} {y:Nod} {st st':List Part} (hy:t[k]?=some y) (h:NodOk y) (hst:∀p∈st,z38 t p) (hsl:st.length<=k) (he:zij t k y st=.ok st'):st'.length<=k+1/\∀p∈st',z38 t p:=by
 rw[ziu t k h st] at he;split at he
 ·cases he
 split at he
 ·cases he
 rename_i h1 h2;injection he with he
 subst he;refine ⟨?_,λp hp=>?_⟩
 ·simp only[jH,List.length_take,jk,List.length_nil];omega
 rcases List.mem_append.1 hp with hp | hp
 ·exact hst p (List.mem_of_mem_take hp)
 rw[List.mem_singleton] at hp;subst hp;have hb:=zho (st.drop (st.length-zcl y)) (λp hp=>(hst p (List.mem_of_mem_drop hp)).2.2.1) 1 (by omega) (by omega);refine ⟨(jE.1 hy).1,hb.1,by have:=h2;show zdd _<=32;omega,?_⟩;show decide (y.kind=3)=decide ((t.getD k (nod0 0)).kind=3);rw[jL,hy];rfl
def JudgeR (t:List Nod) (B:Nat) (u:Ending) (w':World):Prop:=
 (∃e,e≠0/\zcc t 0 t []=e/\u=.returned (.tuple #[.slice none 0 0,.int .i64 e]))\/
 ∃sv st,u=.returned (.tuple #[sv,.int .i64 0])/\zcc t 0 t []=(if st.length=1 then 0 else 4)/\Own cTop 312 2 w' sv st/\(∀q,sv.ownBlock=some q->B<=q)/\st.length<=2000
theorem JudgeR.bad {t:List Nod} (h:e≠0) (hw:zcc t 0 t []=e) (hu:u=.returned (.tuple #[.slice none 0 0,.int .i64 e])):JudgeR t B u w':=.inl ⟨e,h,hw,hu⟩
theorem JudgeR.good {t:List Nod} {st:List Part} (hu:u=.returned (.tuple #[sv,.int .i64 0])) (hw:zcc t 0 t []=(if st.length=1 then 0 else 4)) (ho:Own cTop 312 2 w' sv st) (hq:∀q,sv.ownBlock=some q->B<=q) (hl:st.length<=2000):JudgeR t B u w':=.inr ⟨sv,st,hu,hw,ho,hq,hl⟩
theorem zyo (tv:Value) (t:List Nod) (B:Nat) (w:World) (hB:B<=w.heap.size) (ht:Sls cNod w B tv t) (htl:t.length<=2000) (hn:∀n∈t,NodOk n):
 Calls prog 298 #[tv] w λu w'=>JudgeR t w.heap.size u w'/\Below w w w':=by
 obtain ⟨A,cap,rfl,hc1,hm1,ha1⟩:=id ht;have HT:=Hd ht;have HN:=Hd hn;clear ht hn ha1;unfold maxLen at hm1;go_enter func298,ntmps298;go_wp2_with fail;go_loopw [4,5] (λsv iv wr=>∃(k:Nat) (st:List Part),k<=t.length/\iv=.int .i64 k/\Own cTop 312 2 wr sv st/\(∀q,sv.ownBlock=some q->w.heap.size<=q)/\Below w w wr/\zcc t 0 t []=zcc t k (t.drop k) st/\st.length<=k/\(∀p∈st,z38 t p)) (λ_ iv _=>t.length-(intOf iv).toNat)
 case atStart=>exact ⟨0,[],by omega,rfl,Own.nil _ _ _ _,λq hq=>by simp[Value.ownBlock] at hq,jg _ _,by simp,by simp,by simp⟩
 rename World=>w0
 obtain ⟨k,st,hk,rfl,how,hob,hbw,hwk,hsl,hrt⟩:=hrel;have HW:=Hd hwk;have HBW:=Hd hbw;have HOW:=Hd how;have HOB:=Hd hob;have HRT:=Hd hrt;clear hwk hob hrt hbw how;have hk0:(0:Int)<=(k:Int):=jw _;by_cases hlt:k<t.length;rotate_left
 ·have HE:=jM (zcc t 0 t []=if st.length=1 then 0 else 4) (by rw[HW.o,jm (by omega)];rfl);have hil:¬(k:Int)<(t.length:Int):=by omega
  go_wp2;refine jO results298 (v:=.tuple #[u4,.int .i64 0]) ?_;exact ⟨JudgeR.good rfl HE.o HOW.o HOB.o (by omega),HBW.o⟩
 have hil:(k:Int)<(t.length:Int):=by omega
 obtain ⟨y,hy⟩:∃y,t[k]?=some y:=⟨_,jz hlt⟩;have hny:=HN.o y (List.mem_of_getElem? hy);have HD:=Hd (zkk t st hy);have HKP:=Hd (λst'=>@zpj t k y st st' hy hny HRT.o hsl);have HER:=Hd (λe=>@zv0 t k y st e hny);have HC:=Hd (z19 _ _ t k y st w0.heap.size w0 jy ((HT.o.below (HBW.o.mono hB)).more (jx hB HBW.o.size)) (HOW.o.sls (by unfold maxLen;omega)) htl hy hny hsl HRT.o);clear hny hy;go_wp2_with fail;refine HC.o.mono ?_;rintro u w2 ⟨hr,hb2⟩;have HB2:=Hd (jd HBW.o hb2 HBW.o.size);have hsz:=HBW.o.size;clear hb2
 cases hnd:zij t k y st with
 | error e=>
  unfold NodeR at hr;rw[hnd] at hr;obtain rfl:=hr;have he0:=HER.o e hnd;have HE:=jM (zcc t 0 t []=e) (by rw[HW.o,HD.o,hnd]);have hne:(e != 0)=true:=by simpa using he0
  have HE0:=Hd he0;clear hnd he0;go_wp2;refine jO results298 (v:=.tuple #[.slice none 0 0,.int .i64 e]) ?_;exact ⟨JudgeR.bad HE0.o HE.o rfl,HB2.o⟩
 | ok st'=>unfold NodeR at hr;rw[hnd] at hr;obtain ⟨sv,rfl,ho,hq⟩:=hr;have HE:=jM (zcc t 0 t []=zcc t (k+1) (t.drop (k+1)) st') (by rw[HW.o,HD.o,hnd]);have HKS:=Hd (HKP.o st' hnd);have HO2:=Hd ho;have HQ2:=jM (∀q,sv.ownBlock=some q->w.heap.size<=q) (λq h=>jx hsz (hq q h));clear hnd ho hq;go_wp2;exact ⟨⟨k+1,st',by omega,by go_num,HO2.o,HQ2.o,HB2.o,HE.o,HKS.o.1,HKS.o.2⟩,by simp[intOf];omega⟩
theorem z06 (st:List Part):(((st.length:Int) != 1)=true↔¬st.length=1):=by
 simp only[bne_iff_ne,ne_eq];omega
def DepthR (e:Int) (u:Ending):Prop:=∃d:Int,u=.returned (.tuple #[.int .i64 d,.int .i64 e])
theorem zyp (tv:Value) (t:List Nod) (B:Nat) (w:World) (hB:B<=w.heap.size) (ht:Sls cNod w B tv t) (htl:t.length<=2000) (hn:∀n∈t,NodOk n):
 Calls prog 264 #[tv] w λu w'=>DepthR (zb8 t) u/\Below w w w':=by
 obtain ⟨A,cap,rfl,hc1,hm1,ha1⟩:=id ht;have HT:=Hd ht;have HN:=Hd hn;have HJ:=Hd (zyo _ t B w hB ht htl hn);clear ht hn ha1;unfold maxLen at hm1;by_cases h256:256<t.length
 ·have HE:=jM (zb8 t=5) (by unfold zb8;rw[jb h256]);obtain ⟨te,hte⟩:=jN (zb8 t);rw[hte] at HE ⊢;clear hte;have g256:(256:Int)<(t.length:Int):=by omega
  go_enter func264,ntmps264;go_wp2;refine jO results264 (v:=.tuple #[.int .i64 0,.int .i64 5]) ?_;exact ⟨⟨0,by rw[HE.o]⟩,jg _ _⟩
 have g256:¬(256:Int)<(t.length:Int):=by omega
 by_cases h0:t=[]
 ·have HE:=jM (zb8 t=4) (by unfold zb8;rw[ja h256,jb h0]);have HW0:=jM (zcc t 0 t []=4) (by rw[h0];rfl);obtain ⟨te,hte⟩:=jN (zb8 t);rw[hte] at HE ⊢;clear hte h0 h256;go_enter func264,ntmps264;go_wp2_with fail;refine HJ.o.mono ?_;rintro u w2 ⟨hr,hb2⟩;have HB2:=Hd hb2;clear hb2;rcases hr with ⟨e,he,hw,rfl⟩ | ⟨sv,st,rfl,hw,ho,hq,hl⟩
  ·obtain rfl:e=4:=hw.symm.trans HW0.o;clear hw he;go_wp2;refine jO results264 (v:=.tuple #[.int .i64 0,.int .i64 4]) ?_;exact ⟨⟨0,by rw[HE.o]⟩,HB2.o⟩
  obtain ⟨A2,cap2,rfl,hc2,hm2,ha2⟩:=id (ho.sls (by unfold maxLen;omega));have h1:¬st.length=1:=λh=>by rw[HW0.o,jb h] at hw;omega
  have b1:((st.length:Int) != 1)=true:=(z06 st).2 h1;clear hw ho hq ha2 h1;go_wp2;refine jO results264 (v:=.tuple #[.int .i64 0,.int .i64 4]) ?_;exact ⟨⟨0,by rw[HE.o]⟩,HB2.o⟩
 have HE0:=jM (zb8 t=if zcc t 0 t []≠0 then zcc t 0 t [] else if (t.getLast?.map (·.kind))=some 3 then 4 else 0) (by unfold zb8;rw[ja h256,ja h0]);have hpos:0<t.length:=List.length_pos_iff.2 h0;obtain ⟨m,hm⟩:∃m,t.length=m+1:=⟨t.length-1,by omega⟩;obtain ⟨x,hx⟩:∃x,t[m]?=some x:=⟨_,jz (by omega)⟩;have hlast:t.getLast?=some x:=by rw[List.getLast?_eq_getElem?,show t.length-1=m by omega];exact hx
 obtain ⟨b,o,hA,hb,r⟩:=HT.o.get 11 zbx hx;subst hA;have r0:w.cell? (b,o+m*11)=some (.int .u8 x.kind):=r 0 _ rfl;rw[hlast] at HE0;have HE1:Hid (zb8 t=if zcc t 0 t []≠0 then zcc t 0 t [] else if x.kind=3 then 4 else 0):=Hd (by
  rw[HE0.o];simp only[Option.map_some,jl])
 obtain ⟨te,hte⟩:=jN (zb8 t);rw[hte] at HE1 ⊢;have hmz:(0:Int)<=(m:Int):=jw _;have hmi:(t.length:Int)-1=(m:Int):=by omega
 have hml:(m:Int)<(t.length:Int):=by omega
 have hblt:b<w.heap.size:=by omega
 clear hx hlast r HE0 h0 hm h256 hte hpos;obtain ⟨xk,hxk⟩:=jN x.kind;rw[hxk] at HE1 r0;clear hxk x;go_enter func264,ntmps264;go_wp2_with fail;refine HJ.o.mono ?_;rintro u w2 ⟨hr,hb2⟩;have HB2:=Hd hb2;have r2:w2.cell? (b,o+m*11)=some (.int .u8 xk):=(hb2.cell (p:=(b,o+m*11)) hblt).trans r0;clear hb2 r0;rcases hr with ⟨e,he,hw,rfl⟩ | ⟨sv,st,rfl,hw,ho,hq,hl⟩
 ·have HE2:=jM (te=e) (by rw[HE1.o,hw,jb he]);have hne:(e != 0)=true:=by simpa using he
  clear hw he HE1;go_wp2;refine jO results264 (v:=.tuple #[.int .i64 0,.int .i64 e]) ?_;exact ⟨⟨0,by rw[HE2.o]⟩,HB2.o⟩
 obtain ⟨A2,cap2,rfl,hc2,hm2,ha2⟩:=id (ho.sls (by unfold maxLen;omega));by_cases h1:st.length=1;rotate_left
 ·have b1:((st.length:Int) != 1)=true:=(z06 st).2 h1;have HE2:=jM (te=4) (by rw[HE1.o,hw,ja h1,jb (by decide)]);clear hw h1 HE1 ho hq ha2;go_wp2;refine jO results264 (v:=.tuple #[.int .i64 0,.int .i64 4]) ?_;exact ⟨⟨0,by rw[HE2.o]⟩,HB2.o⟩
 have HE2:=jM (te=if xk=3 then 4 else 0) (by rw[HE1.o,hw,jb h1,ja (by decide)]);have hs:=ho.sls (by unfold maxLen;omega);obtain ⟨p,hp⟩:∃p,st[0]?=some p:=⟨_,jz (by omega)⟩;obtain ⟨b3,o3,hA,hb3,rp⟩:=hs.get 2 zhq hp;subst hA;have q1:w2.cell? (b3,o3+1)=some (.int .i64 p.depth):=by have:=rp 1 _ rfl;simpa using this
 rw[h1] at hc2 hm2 ⊢;clear hw h1 HE1 ho hq ha2 hs hp rp;by_cases h3:xk=3
 ·have HE3:=Hd (HE2.o.trans (jb h3));have b3':(xk==3)=true:=by simpa using h3
  clear h3;go_wp2;refine jO results264 (v:=.tuple #[.int .i64 0,.int .i64 4]) ?_;exact ⟨⟨0,by rw[HE3.o]⟩,HB2.o⟩
 have HE3:=Hd (HE2.o.trans (ja h3));have b3':(xk==3)=false:=by simpa using h3
 clear h3;go_wp2;refine jO results264 (v:=.tuple #[.int .i64 p.depth,.int .i64 0]) ?_;exact ⟨⟨p.depth,by rw[HE3.o]⟩,HB2.o⟩
def FormR (s:zaa) (w:World) (u:Ending) (w':World):Prop:=∃v,∃p:Int,u=.returned (.tuple #[v,.int .i64 p,.int .i64 (zat s).2])/\Sls cNod w' w'.heap.size v (zat s).1/\Below w w w'
theorem FormR.of {s:zaa} {l:List Nod} (h:zat s=(l,e)) (v:Value) (p:Int) (hu:u=.returned (.tuple #[v,.int .i64 p,.int .i64 e])) (hs:Sls cNod w' w'.heap.size v l) (hb:Below w w w'):FormR s w u w':=
 ⟨v,p,by rw[h];exact hu,by rw[h];exact hs,hb⟩
theorem zpb (s:zaa) (w:World) (hs:s.length<=1000000):
 Calls prog 229 #[str s] w λu w'=>FormR s w u w':=by
 have HTK:=Hd (zsn s w hs);have HTL:=Hd (zqa s);have HTO:=Hd (zud s);have HNB:=Hd (zm6 s);have HFE:=Hd (@zri s);have HFO:=Hd (@zwv s);go_enter func229,ntmps229;go_wp2_with fail;refine HTK.o.mono ?_;rintro u w1 ⟨tv,tp,rfl,ht,hb1, -⟩;have HB1:=Hd hb1;have HT:=Hd ht;obtain ⟨TA,tcap,rfl, -⟩:=id ht;clear hb1 ht HTK;obtain ⟨L,hL⟩:=jN ((zaf s).1);obtain ⟨te,hte⟩:=jN ((zaf s).2);rw[hL] at HT HTL HTO HNB HFO ⊢;rw[hte] at HFE HFO ⊢;clear hL hte;by_cases h0:te=0;rotate_left
 ·have HE:=Hd (HFE.o h0);have bt:(te != 0)=true:=by simpa using h0
  clear h0 HFE HFO;go_wp2;refine jO results229 (v:=.tuple #[.slice none 0 0,.int .i64 tp,.int .i64 te]) ?_;exact FormR.of HE.o _ _ rfl (Sls.nil _ _ _ _ _) HB1.o
 have HF:=Hd (HFO.o (by simp[h0]));subst h0;have hl256:=HTL.o;clear HFE HFO HTL;have HP0:=Hd (show PR (w1.alloc (.cells #[str s,.slice TA L.length tcap,.int .i64 0,.slice none 0 0,.int .i64 0,.int .i64 0] 272)) w1.heap.size s L (.slice none 0 0) 0 [] 0 0 from
  ⟨⟨_,je _ _ _,HT.o.below (by go_grown)⟩,Own.nil _ _ _ _,λk hk=>by simp[Value.ownBlock] at hk⟩)
 have HRU:=Hd (((zxp s L (by omega) HNB.o (10*L.length+20) (10*L.length+20) jy).level 1 (by omega) (by omega)) w1.heap.size (.slice none 0 0) 0 [] 0 _ HP0.o (Nat.zero_le _) (by simp;omega) (by simp only[zbg];omega) (by omega));have HPK:=Hd (λst'=>zdi s.length (10*L.length+20) (.level 1) (L,[]) st' (show 1<=4 by omega) (λk e=>by cases e;omega) ⟨HTO.o,λn hn=>by simp at hn⟩);have HPN:=Hd (λst'=>za4 s.length (10*L.length+20) (.level 1) (L,[]) st');have HBP:=jM (Below w w (w1.alloc (.cells #[str s,.slice TA L.length tcap,.int .i64 0,.slice none 0 0,.int .i64 0,.int .i64 0] 272))) (HB1.o.alloc HB1.o.size _);clear HTO HNB HT;rw[show lev1 1 w1.heap.size=#[.pointer (some ⟨w1.heap.size,0,none⟩),.int .i64 1] from rfl,List.drop_zero] at HRU;go_wp2_with fail;refine HRU.o.mono ?_;intro u w4 hw;obtain ⟨W2,hW2⟩:=jN (w1.alloc (.cells #[str s,.slice TA L.length tcap,.int .i64 0,.slice none 0 0,.int .i64 0,.int .i64 0] 272));rw[hW2] at hw HP0 HBP;have HSZ:=jM (w.heap.size<=w1.heap.size) HB1.o.size;obtain ⟨p,hp⟩:=jN w1.heap.size;rw[hp] at hw HP0 HSZ ⊢;clear hW2 hp HRU;have HB1:=HBP;have HPL:=Hd (λ(W':World) (ov:Value) (h:PTo p W2 (.slice none 0 0) W' ov)=>HBP.o.trans ((h.old (jF HP0.o.lt) (λk hk=>by simp[Value.ownBlock] at hk)).mono HSZ.o));rcases zbd hw with ⟨i4,T4,ov4,hr,hi4,rfl,ha,ht4⟩ | ⟨x,er,i4,T4,ov4,hr,he,hi4,hm,rfl,ha,ht4⟩
 rotate_left
 ·have HE:=jM (zat s=([],er)) (by rw[HF.o,hr]);have H4:=Hd ha;have P4:=Hd ht4;have HER:=Hd he;clear hr hw ha ht4 HF HPK HPN he;have i0:(0:Int)<=(i4:Int):=jw _;by_cases hlt:i4<L.length
  ·have HNX:=Hd (λW=>zc5 p s L ov4 i4 T4 x er W);have hil:(i4:Int)<(L.length:Int):=by omega
   generalize zak s.length (L.drop i4,T4)=t at *;obtain ⟨A5,cp5,c0,c1,c2,c3,c4,c5,cf, -,dl⟩:=H4.o.cells;have hf4:∀W,(Instr.field 239 (.agg t) 4).run prog W=.ok (.int .i64 t.at_) W:=λ_=>by rfl
   go_wp2_with fail;go_quiet (fail);go_wp2_with fail;refine (HNX.o _ (by exact ⟨H4.o.bx,H4.o.ow,H4.o.ob⟩) (by omega)).mono ?_;rintro u w5 ⟨rfl,hb5⟩;have H5:=jM (PR w5 p s L ov4 i4 T4 x er) (by first | exact H4.o.below hb5 | exact (PR.below (by exact ⟨H4.o.bx,H4.o.ow,H4.o.ob⟩) hb5));have P5:=jM (PTo p W2 (.slice none 0 0) w5 ov4) (by first | exact P4.o.below hb5 | exact PTo.below (by exact ⟨P4.o.chg.drewN _,P4.o.own⟩) hb5);clear hb5 c0 c1 c2 c3 c4 c5 cf dl;rw[show (cTok t).toArray=#[.int .u8 t.kind,.int .i64 t.num,str t.text,.int .i64 t.rect.c1,.int .i64 t.rect.r1,.int .i64 t.rect.c2,.int .i64 t.rect.r2,.int .i64 t.at_] from rfl];go_wp2_with fail;refine (zd6 p s L ov4 i4 T4 x er t.at_ 4 _ H5.o HER.o).mono ?_;rintro u w6 ⟨rfl,rfl⟩;obtain ⟨A6,cp6,c0,c1,c2,c3,c4,c5,cf, -,dl⟩:=H5.o.cells;have HBE:=Hd (HPL.o _ _ P5.o);have bne:((er:Int) != 0)=true:=by simpa using HER.o
   go_wp2;go_quiet (fail);go_wp2;refine jO results229 (v:=.tuple #[.slice none 0 0,.int .i64 x,.int .i64 er]) ?_;exact FormR.of HE.o _ _ rfl (Sls.nil _ _ _ _ _) (by first | exact HBE.o | exact HBE.o.drew | exact (HBE.o.drew).drew | exact ((HBE.o.drew).drew).drew | exact jf HBE.o _ | exact jf (jf HBE.o _) _)
  have hnl:¬(i4:Int)<(L.length:Int):=by omega
  obtain ⟨A6,cp6,c0,c1,c2,c3,c4,c5,cf, -,dl⟩:=H4.o.cells;have HBE:=Hd (HPL.o _ _ P4.o);have bne:((er:Int) != 0)=true:=by simpa using HER.o
  go_wp2;go_quiet (fail);go_wp2;go_quiet (fail);go_wp2;refine jO results229 (v:=.tuple #[.slice none 0 0,.int .i64 x,.int .i64 er]) ?_;exact FormR.of HE.o _ _ rfl (Sls.nil _ _ _ _ _) (by first | exact HBE.o | exact HBE.o.drew | exact (HBE.o.drew).drew | exact ((HBE.o.drew).drew).drew | exact jf HBE.o _ | exact jf (jf HBE.o _) _)
 have H4:=Hd ha;have P4:=Hd ht4;have i0:(0:Int)<=(i4:Int):=jw _;have HR:=Hd hr;clear hw ha ht4 hr;by_cases hlt:i4<L.length
 ·have HE:=Hd (show zat s=([],4) by
   rw[HF.o,HR.o];simp only;rw[jb (λh=>by have:=congrArg List.length h;simp at this;omega)])
  clear HF HR HPK HPN;have HNX:=Hd (λW=>zc5 p s L ov4 i4 T4 0 0 W);have hil:(i4:Int)<(L.length:Int):=by omega
  generalize zak s.length (L.drop i4,T4)=t at *;obtain ⟨A5,cp5,c0,c1,c2,c3,c4,c5,cf, -,dl⟩:=H4.o.cells;have hf4:∀W,(Instr.field 239 (.agg t) 4).run prog W=.ok (.int .i64 t.at_) W:=λ_=>by rfl
  go_wp2_with fail;go_quiet (fail);go_wp2_with fail;refine (HNX.o _ (by exact ⟨H4.o.bx,H4.o.ow,H4.o.ob⟩) (by omega)).mono ?_;rintro u w5 ⟨rfl,hb5⟩;have H5:=jM (PR w5 p s L ov4 i4 T4 0 0) (by first | exact H4.o.below hb5 | exact (PR.below (by exact ⟨H4.o.bx,H4.o.ow,H4.o.ob⟩) hb5));have P5:=jM (PTo p W2 (.slice none 0 0) w5 ov4) (by first | exact P4.o.below hb5 | exact PTo.below (by exact ⟨P4.o.chg.drewN _,P4.o.own⟩) hb5);clear hb5 c0 c1 c2 c3 c4 c5 cf dl;rw[show (cTok t).toArray=#[.int .u8 t.kind,.int .i64 t.num,str t.text,.int .i64 t.rect.c1,.int .i64 t.rect.r1,.int .i64 t.rect.c2,.int .i64 t.rect.r2,.int .i64 t.at_] from rfl];go_wp2_with fail;refine (zbv p s L ov4 i4 T4 0 t.at_ 4 _ H5.o).mono ?_;rintro u w6 ⟨rfl,h6,p6⟩;have H6:=Hd h6;have P6:=Hd (P5.o.trans p6);clear h6 p6;obtain ⟨A6,cp6,c0,c1,c2,c3,c4,c5,cf, -,dl⟩:=H6.o.cells;have HBE:=Hd (HPL.o _ _ P6.o);have bne:((4:Int) != 0)=true:=by decide
  go_wp2;go_quiet (fail);go_wp2;refine jO results229 (v:=.tuple #[.slice none 0 0,.int .i64 t.at_,.int .i64 4]) ?_;exact FormR.of HE.o _ _ rfl (Sls.nil _ _ _ _ _) (by first | exact HBE.o | exact HBE.o.drew | exact (HBE.o.drew).drew | exact ((HBE.o.drew).drew).drew | exact jf HBE.o _ | exact jf (jf HBE.o _) _)
 have HF5:=Hd (show zat s=if zb8 T4≠0 then ([],zb8 T4) else (T4,0) by
  rw[HF.o,HR.o];simp only;rw[ja (by rw[jm (by omega)];simp)])
 have HNO:=Hd ((HPK.o _ HR.o).nods);have hpn:=(HPN.o _ HR.o).2;have hT4:T4.length<=300:=by simp at hpn;omega
 clear hpn HPK HPN HF HR;have hnl:¬(i4:Int)<(L.length:Int):=by omega
 have HS4:=Hd (H4.o.ow.sls (by unfold maxLen;omega));obtain ⟨A4,k4,rfl, -⟩:=id HS4.o;have HDP:=Hd (λw=>zyp (.slice A4 T4.length k4) T4 w4.heap.size w);obtain ⟨A5,cp5,c0,c1,c2,c3,c4,c5,cf, -,dl⟩:=H4.o.cells;go_wp2_with fail;go_quiet (fail);go_wp2_with fail;refine (HDP.o _ (by first | exact Nat.le_refl _ | simp) (by exact HS4.o) (by omega) HNO.o).mono ?_;rintro u w6 ⟨⟨d,rfl⟩,hb6⟩;have HB4:=Hd (HPL.o _ _ P4.o);have HBE:=jM (Below w w w6) (by first | exact jd HB4.o hb6 HB4.o.size | exact jd (jf HB4.o _) hb6 HB4.o.size);have HS6:=jM (Sls cNod w6 w6.heap.size (.slice A4 T4.length k4) T4) (by exact (Sls.below (by exact HS4.o) hb6).more hb6.size);have y3:w6.cell? (p,3)=some (.slice A4 T4.length k4):=(hb6.cell (p:=⟨p,3,none⟩) dl).trans c3;clear hb6 c0 c1 c2 c3 c4 c5 cf HDP;by_cases ht0:zb8 T4=0
 ·have HE:=Hd (HF5.o.trans (ja (by simpa using ht0)));have bt:(zb8 T4 != 0)=false:=by simpa using ht0
  clear ht0 HF5;go_wp2;refine jO results229 (v:=.tuple #[.slice A4 T4.length k4,.int .i64 0,.int .i64 0]) ?_;exact FormR.of HE.o _ _ rfl HS6.o HBE.o
 have HE:=Hd (HF5.o.trans (jb ht0));have bt:(zb8 T4 != 0)=true:=by simpa using ht0
 obtain ⟨te,hte⟩:=jN (zb8 T4);rw[hte] at HE bt ⊢;clear hte ht0 HF5;go_wp2;refine jO results229 (v:=.tuple #[.slice none 0 0,.int .i64 0,.int .i64 te]) ?_;exact FormR.of HE.o _ _ rfl (Sls.nil _ _ _ _ _) HBE.o
def zli:Prop:=∀(s:zaa) (w:World),s.length<=256->Calls prog 228 #[str s] w λu w'=>(∃(k n:Int) (x:zaa),u=.returned (.agg #[.int .u8 k,.int .i64 n,str x]))/\Below w w w'
abbrev MngZ (w:World) (g:Nat):Prop:=Blk w g 192 #[.bool false,.int .u8 0,.int .i64 0,.string ⟨#[]⟩,.slice none 0 0]
theorem zf5 (h:MngZ w g):w.cell? (g,0)=some (.bool false)/\w.cell? (g,1)=some (.int .u8 0)/\w.cell? (g,2)=some (.int .i64 0)/\w.cell? (g,3)=some (str [])/\w.cell? (g,4)=some (.slice none 0 0)/\∀o,w.frozen? ⟨g,o,none⟩=false:=
 ⟨h.cell 0,h.cell 1,h.cell 2,h.cell 3,h.cell 4,h.frozen⟩
theorem zka (h:Below B a w) (hg:B<=g) (v0 v1 v2 v3 v4:Value):Below B a (((((w.setCell (g,0) v0).setCell (g,1) v1).setCell (g,2) v2).setCell (g,3) v3).setCell (g,4) v4):=
 ((((h.setCell hg _).setCell hg _).setCell hg _).setCell hg _).setCell hg _
def OfR (s:zaa) (w:World) (u:Ending) (w':World):Prop:=(∃(b:Bool) (k n:Int) (x:zaa) (A:Option Addr) (sl sc:Nat) (p:Int),u=.returned (.tuple #[.agg #[.bool b,.int .u8 k,.int .i64 n,str x,.slice A sl sc],.int .i64 p,.int .i64 (ofE s)]))/\Below w w w'
theorem OfR.of {s:zaa} (h:ofE s=e) (b:Bool) (k n:Int) (x:zaa) (A:Option Addr) (sl sc:Nat) (p:Int) (hu:u=.returned (.tuple #[.agg #[.bool b,.int .u8 k,.int .i64 n,str x,.slice A sl sc],.int .i64 p,.int .i64 e])) (hb:Below w w w'):OfR s w u w':=
 ⟨⟨b,k,n,x,A,sl,sc,p,by rw[h];exact hu⟩,hb⟩
theorem ref_of (hc:zli) (s:zaa) (w:World) (hs:s.length<=1000000):
 Calls prog 200 #[str s] w λu w'=>OfR s w u w':=by
 have HC:=Hd hc;clear hc;have KZ:=jM (MngZ (w.alloc (.cells #[.bool false,.int .u8 0,.int .i64 0,.string ⟨#[]⟩,.slice none 0 0] 192)) w.heap.size) (je w _ _);have HB0:=jM (Below w w (w.alloc (.cells #[.bool false,.int .u8 0,.int .i64 0,.string ⟨#[]⟩,.slice none 0 0] 192))) (by go_grown);obtain ⟨W1,hW1⟩:=jN (w.alloc (.cells #[.bool false,.int .u8 0,.int .i64 0,.string ⟨#[]⟩,.slice none 0 0] 192));rw[hW1] at KZ HB0;by_cases h256:256<s.length
 ·have h256':(256:Int)<s.length:=by omega
  have HE:=jM (ofE s=5) (by unfold ofE;rw[jb h256]);go_enter func200,ntmps200;go_upto_region 1 with (fail)
  clear hW1;obtain ⟨q0,q1,q2,q3,q4,qf⟩:=zf5 KZ.o;go_wp2;refine jO results200 (v:=.tuple #[.agg #[.bool false,.int .u8 0,.int .i64 0,str [],.slice none 0 0],.int .i64 (0),.int .i64 (5)]) ?_ (by simp (maxDischargeDepth:=9) [jQ,go_sem,q0,q1,q2,q3,q4]);exact OfR.of HE.o _ _ _ _ _ _ _ _ rfl (zka HB0.o jy _ _ _ _ _)
 have h256':¬(256:Int)<s.length:=by omega
 have h256n:s.length<=256:=by omega
 go_enter func200,ntmps200;go_upto_region 1 with (fail)
 clear hW1;obtain ⟨q0,q1,q2,q3,q4,qf⟩:=zf5 KZ.o;go_wp2_with fail;go_loopw [5] (λv wr=>∃k:Nat,k<=s.length/\v=.int .i64 k/\(∀j,j<k->32<=ub s j/\ub s j<=126)/\W1=wr) (λv _=>s.length-(intOf v).toNat)
 case atStart=>exact ⟨0,by omega,rfl,λj hj=>by omega,rfl⟩
 obtain ⟨k,hk,rfl,hall,rfl⟩:=hrel;have HA:=Hd hall;clear hall;have k0:(0:Int)<=(k:Int):=by omega
 by_cases hkn:k<s.length
 ·have hk1:(k:Int)<(s.length:Int):=by omega
  have hx:=za3 s k (by rw[zae];exact hkn);have HU:=jM (ub s k=(s.getD k 0).toNat) rfl;generalize s.getD k 0=c at hx HU;by_cases hc:32<=c.toNat/\c.toNat<=126
  ·have c1:¬(c.toNat:Int)<32:=by omega
   have c2:¬126<(c.toNat:Int):=by omega
   have HA2:=jM (∀j,j<k+1->32<=ub s j/\ub s j<=126) (λj hj=>by
    rcases Nat.lt_or_ge j k with h | h
    ·exact HA.o j h
    obtain rfl:j=k:=by omega
    rw[HU.o];exact hc)
   clear hc;go_wp2;exact ⟨⟨k+1,by omega,by go_num,HA2.o,trivial⟩,by simp[intOf];omega⟩
  have HE:=jM (ofE s=4) (by unfold ofE;rw[ja h256,jb (zqw s k hkn (by rw[HU.o];exact hc))]);by_cases c1:c.toNat<32
  ·have c1':(c.toNat:Int)<32:=by omega
   clear hc;go_wp2;refine jO results200 (v:=.tuple #[.agg #[.bool false,.int .u8 0,.int .i64 0,str [],.slice none 0 0],.int .i64 (k),.int .i64 (4)]) ?_ (by simp (maxDischargeDepth:=9) [jQ,go_sem,q0,q1,q2,q3,q4]);exact OfR.of HE.o _ _ _ _ _ _ _ _ rfl (zka HB0.o jy _ _ _ _ _)
  have c1':¬(c.toNat:Int)<32:=by omega
  have c2':126<(c.toNat:Int):=by omega
  clear hc;go_wp2;refine jO results200 (v:=.tuple #[.agg #[.bool false,.int .u8 0,.int .i64 0,str [],.slice none 0 0],.int .i64 (k),.int .i64 (4)]) ?_ (by simp (maxDischargeDepth:=9) [jQ,go_sem,q0,q1,q2,q3,q4]);exact OfR.of HE.o _ _ _ _ _ _ _ _ rfl (zka HB0.o jy _ _ _ _ _)
 have hk1:¬(k:Int)<(s.length:Int):=by omega
 have HP:=Hd (zl5 s (λj hj=>HA.o j (by omega)));have HE0:=jM (ofE s=if s.head?=some 61 then (zat s.tail).2 else 0) (by unfold ofE;rw[ja h256,ja (by rw[HP.o];decide)]);clear HA q0 q1 q2 q3 q4 qf;by_cases hse:s=[]
 ·have be:(s== [])=true:=by simp[hse]
  have HE:=jM (ofE s=0) (by rw[HE0.o,ja (by rw[hse];simp)]);clear hse HE0;go_wp2_with fail;refine (HC.o s _ h256n).mono ?_;rintro u w5 ⟨⟨ck,cn,cx,rfl⟩,hb5⟩;have HB5:=Hd (jd HB0.o hb5 HB0.o.size);have K5:=jM (MngZ w5 w.heap.size) (Blk.below_ KZ.o hb5);clear hb5;obtain ⟨q0,q1,q2,q3,q4,qf⟩:=zf5 K5.o;go_wp2;refine jO results200 (v:=.tuple #[.agg #[.bool false,.int .u8 ck,.int .i64 cn,str cx,.slice none 0 0],.int .i64 0,.int .i64 0]) ?_ (by simp (maxDischargeDepth:=9) [jQ,go_sem,q0,q1,q2,q3,q4]);exact OfR.of HE.o _ _ _ _ _ _ _ _ rfl (zka HB5.o jy _ _ _ _ _)
 have be:(s== [])=false:=by simpa using hse
 have hpos:0<s.length:=List.length_pos_iff.2 hse;have hx:=za3 s 0 (by rw[zae];exact hpos);have hhd:s.head?=some (s.getD 0 0):=by
  cases s with
  | nil=>exact absurd rfl hse
  | cons a l=>rfl
 rw[hhd] at HE0;generalize s.getD 0 0=c at hx HE0;clear hhd hse;have hp1:(0:Int)<(s.length:Int):=by omega
 by_cases h61:c.toNat=61;rotate_left
 ·have b61:((c.toNat:Int) != 61)=true:=by simp;omega
  have HE:=Hd (show ofE s=0 by
   rw[HE0.o,ja];intro h;apply h61;rw[Option.some.inj h];rfl)
  clear h61 HE0;go_wp2_with fail;refine (HC.o s _ h256n).mono ?_;rintro u w5 ⟨⟨ck,cn,cx,rfl⟩,hb5⟩;have HB5:=Hd (jd HB0.o hb5 HB0.o.size);have K5:=jM (MngZ w5 w.heap.size) (Blk.below_ KZ.o hb5);clear hb5;obtain ⟨q0,q1,q2,q3,q4,qf⟩:=zf5 K5.o;go_wp2;refine jO results200 (v:=.tuple #[.agg #[.bool false,.int .u8 ck,.int .i64 cn,str cx,.slice none 0 0],.int .i64 0,.int .i64 0]) ?_ (by simp (maxDischargeDepth:=9) [jQ,go_sem,q0,q1,q2,q3,q4]);exact OfR.of HE.o _ _ _ _ _ _ _ _ rfl (zka HB5.o jy _ _ _ _ _)
 have b61:((c.toNat:Int) != 61)=false:=by simp[h61]
 have HE:=Hd (show ofE s=(zat s.tail).2 by
  rw[HE0.o,jb]
  congr 1
  exact UInt8.toNat_inj.1 h61)
 clear h61 HE0;have HTL:=jM (s.tail.length<=1000000) (by rw[List.length_tail];omega);go_wp2_with fail;rw[zev s 1 _ rfl,show s.drop 1=s.tail from List.drop_one];refine (zpb s.tail _ HTL.o).mono ?_;rintro u w5 ⟨fv,fp,rfl,hs5,hb5⟩;have HB5:=Hd (jd HB0.o hb5 HB0.o.size);have K5:=jM (MngZ w5 w.heap.size) (Blk.below_ KZ.o hb5);obtain ⟨A,fc,rfl, -⟩:=id hs5;clear hb5 hs5;obtain ⟨q0,q1,q2,q3,q4,qf⟩:=zf5 K5.o;by_cases he:(zat s.tail).2=0
 ·have bf:((zat s.tail).2 != 0)=false:=by simpa using he
  have HE2:=Hd (HE.o.trans he);generalize (zat s.tail).1.length=fl at *;clear he;go_wp2;refine jO results200 (v:=.tuple #[.agg #[.bool true,.int .u8 0,.int .i64 0,str [],.slice A fl fc],.int .i64 0,.int .i64 0]) ?_ (by simp (maxDischargeDepth:=9) [jQ,go_sem,q0,q1,q2,q3,q4]);exact OfR.of HE2.o _ _ _ _ _ _ _ _ rfl (zka HB5.o jy _ _ _ _ _)
 have bf:((zat s.tail).2 != 0)=true:=by simpa using he
 generalize (zat s.tail).2=fe at *;clear he;go_wp2;refine jO results200 (v:=.tuple #[.agg #[.bool false,.int .u8 0,.int .i64 0,str [],.slice none 0 0],.int .i64 (wrap64 (fp+1)),.int .i64 fe]) ?_ (by simp (maxDischargeDepth:=9) [jQ,go_sem,q0,q1,q2,q3,q4]);exact OfR.of HE.o _ _ _ _ _ _ _ _ rfl (zka HB5.o jy _ _ _ _ _)
end Go.Proofs.YtamcgggmfghljaaGreatDoor
