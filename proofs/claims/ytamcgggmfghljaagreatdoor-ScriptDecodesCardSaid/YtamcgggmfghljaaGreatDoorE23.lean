/- walk -/
import Derived.Recover
import Derived.Defers
import Derived.Test.YtamcgggmfghljaaGreatDoorE18
import Derived.Test.YtamcgggmfghljaaGreatDoorE21
set_option maxRecDepth 100000
set_option maxHeartbeats 8000000
open Go.Proofs.Tryz
namespace Go.Proofs.YtamcgggmfghljaaGreatDoor
open Go.RowKit
variable {B:Nat} {α:Type} {v:Value} {w w':World}
theorem zek (v:Value) (l:zaa) (a b c d:Int) (w:World) (h:Out w v l) (hl:l.length<=1000000000):
 Calls prog 92 #[v,.agg #[.int .i64 a,.int .i64 b,.int .i64 c,.int .i64 d]] w λe w'=>∃v',e=.returned v'/\Out w' v' (l++za7 ⟨a,b,c,d⟩)/\OutTo w v w' v':=by
 have H:=Hd h;clear h;have n1:=zab a;have n2:=zab b;have n3:=zab c;have n4:=zab d;go_enter func92,ntmps92;go_wp2_with fail;have hv:v.ownBlock≠some (w.heap.size+1):=λe=>by have:=H.o.lt _ e;omega
 have KK:=jM (Blk ((w.alloc (.cells #[.int .i64 a,.int .i64 b,.int .i64 c,.int .i64 d] 43)).alloc (.cells #[.int .i64 a,.int .i64 b,.int .i64 c,.int .i64 d] 3)) (w.heap.size+1) 3 #[.int .i64 a,.int .i64 b,.int .i64 c,.int .i64 d]) (by have:=je (w.alloc (.cells #[.int .i64 a,.int .i64 b,.int .i64 c,.int .i64 d] 43)) 3 #[.int .i64 a,.int .i64 b,.int .i64 c,.int .i64 d];simpa using this);have hlen:∀k,(([a,b,c,d].take k).flatMap numI).length<=36:=by intro k;rcases k with _ | _ | _ | _ | _ | k <;> simp <;> omega
 have HL:=Hd hlen;clear n1 n2 n3 n4 hlen;go_loopw [0,17] (λu i wr=>∃k:Nat,k<=4/\i=.int .i64 k/\Out wr u (l++([a,b,c,d].take k).flatMap numI)/\OutTo w v wr u/\Blk wr (w.heap.size+1) 3 #[.int .i64 a,.int .i64 b,.int .i64 c,.int .i64 d]/\u.ownBlock≠some (w.heap.size+1)) (λ_ i _=>4-(intOf i).toNat)
 case atStart=>exact ⟨0,by omega,rfl,by simpa using (H.o.alloc _).alloc _,((OutTo.refl w v).alloc _).alloc _,KK.o,hv⟩
 obtain ⟨k,hk,rfl,oo,tt,kk,hu⟩:=hrel;have OO:=Hd oo;have TT:=Hd tt;have KK:=Hd kk;have hl2:=HL.o k;clear oo tt;by_cases hlt:k<4;rotate_left
 ·go_wp2;go_ret;obtain rfl:k=4:=by omega
  exact ⟨_,rfl,by simpa [za7] using OO.o,TT.o⟩
 obtain ⟨x,hx,hc,hs⟩:∃x,[a,b,c,d][k]?=some x/\(∀W,Blk W (w.heap.size+1) 3 #[.int .i64 a,.int .i64 b,.int .i64 c,.int .i64 d]->W.cell? (w.heap.size+1,k)=some (.int .i64 x))/\[a,b,c,d].take (k+1)=[a,b,c,d].take k++ [x]:=by
  have e:k=0\/k=1\/k=2\/k=3:=by omega
  rcases e with rfl|rfl|rfl|rfl
  ·exact ⟨a,rfl,λW hW=>hW.cell 0,rfl⟩
  ·exact ⟨b,rfl,λW hW=>hW.cell 1,rfl⟩
  ·exact ⟨c,rfl,λW hW=>hW.cell 2,rfl⟩
  exact ⟨d,rfl,λW hW=>hW.cell 3,rfl⟩
 have hcw:=hc wr kk;have HS:=Hd hs;have hi0:(0:Int)<=(k:Int):=by omega
 have hi1:(k:Int)<4:=by omega
 have hg:=kk.lt;clear hc hs hx kk;go_wp2_with fail;refine (zb6 _ _ _ _ OO.o (by rw[jH];omega)).mono ?_;rintro e w1 ⟨v1,rfl,o1,t1⟩;have O1:=Hd o1;have T1:=Hd (TT.o.trans t1);have K1:=Hd (KK.o.outTo t1 hu);have hu1:=t1.ne hg hu;clear o1 t1;go_wp2;refine ⟨⟨k+1,by omega,by go_num,?_,T1.o,K1.o,hu1⟩,by simp[intOf];omega⟩;rw[HS.o];simpa using O1.o
theorem zln (tv:Value) (t:List Nod) (B:Nat) (w:World) (hB:B<=w.heap.size) (ht:Sls cNod w B tv t) (htl:t.length<=2000) (hn:∀n∈t,NodOk n):
 Calls prog 252 #[tv,.bool false,.func (.func 253) #[] #[]] w λu w'=>u=.returned (.int .i64 (zb8 t))/\Below w w w':=by
 obtain ⟨A,cap,rfl,hc1,hm1,ha1⟩:=id ht;have HT:=Hd ht;have HN:=Hd hn;clear ht hn ha1;unfold maxLen at hm1;by_cases h256:256<t.length
 ·have HE:=jM (zb8 t=5) (by unfold zb8;rw[jb h256]);have g256:(256:Int)<(t.length:Int):=by omega
  go_enter func252,ntmps252;go_wp2;go_ret;exact ⟨by rw[HE.o];rfl,jg _ _⟩
 have g256:¬(256:Int)<(t.length:Int):=by omega
 by_cases h0:t.length=0
 ·have HE:=jM (zb8 t=4) (by unfold zb8;rw[ja h256,jb (js h0)]);have g0:((t.length:Int)==0)=true:=by simp[h0]
  clear h0;go_enter func252,ntmps252;go_wp2;go_ret;exact ⟨by rw[HE.o];rfl,jg _ _⟩
 have g0:((t.length:Int)==0)=false:=by simpa using h0
 have hne:t≠ []:=λe=>h0 (by rw[e];rfl);have HE0:=jM (zb8 t=if zcc t 0 t []≠0 then zcc t 0 t [] else if (t.getLast?.map (·.kind))=some 3 then 4 else 0) (by unfold zb8;rw[ja h256,ja hne]);have HWK:=Hd (zub _ t B w hB HT.o htl HN.o);obtain ⟨m,hm⟩:∃m,t.length=m+1:=⟨t.length-1,by omega⟩;have hx:=jz (l:=t) (i:=m) (by omega);have hlast:t.getLast?=some (t[m]'(by omega)):=by rw[List.getLast?_eq_getElem?,show t.length-1=m by omega];exact hx
 generalize t[m]'(by omega)=x at hx hlast;obtain ⟨b,o,hA,hb,r⟩:=HT.o.get 11 zbx hx;subst hA;have r0:w.cell? (b,o+m*11)=some (.int .u8 x.kind):=r 0 _ rfl;rw[hlast] at HE0;have HE1:Hid (zb8 t=if zcc t 0 t []≠0 then zcc t 0 t [] else if x.kind=3 then 4 else 0):=Hd (by
  rw[HE0.o];simp only[Option.map_some,jl])
 generalize zcc t 0 t []=wk at HE1 HWK;have hmz:(0:Int)<=(m:Int):=jw _;have hmy:(m:Int)<=2000:=by omega
 have hmi:(t.length:Int)-1=(m:Int):=by omega
 have hml:(m:Int)<(t.length:Int):=by omega
 have hblt:b<w.heap.size:=by omega
 clear hx hlast r HE0 h0 hne hm h256;generalize x.kind=xk at HE1 r0;clear x;go_enter func252,ntmps252;go_wp2_with fail;refine HWK.o.mono ?_;rintro u w2 ⟨rfl,hb2⟩;have HB2:=Hd hb2;have r2:w2.cell? (b,o+m*11)=some (.int .u8 xk):=(hb2.cell (p:=(b,o+m*11)) hblt).trans r0;clear hb2 r0;by_cases hw:wk=0
 ·have HE2:=Hd (HE1.o.trans (ja (by simpa using hw)));have bw:(wk != 0)=false:=by simpa using hw
  clear HE1;by_cases h3:xk=3
  ·have HE3:=Hd (HE2.o.trans (jb h3));have b3:(xk==3)=true:=by simpa using h3
   clear h3 hw;go_wp2;go_ret;exact ⟨by rw[HE3.o];rfl,HB2.o⟩
  have HE3:=Hd (HE2.o.trans (ja h3));have b3:(xk==3)=false:=by simpa using h3
  clear h3 hw;go_wp2;go_ret;exact ⟨by rw[HE3.o];rfl,HB2.o⟩
 have HE2:=Hd (HE1.o.trans (jb (by simpa using hw)));have bw:(wk != 0)=true:=by simpa using hw
 clear HE1 hw;go_wp2;go_ret;exact ⟨by rw[HE2.o];rfl,HB2.o⟩
theorem zsb (tv:Value) (t:List Nod) (B:Nat) (w:World) (hB:B<=w.heap.size) (ht:Sls cNod w B tv t) (htl:t.length<=2000) (hn:∀n∈t,NodOk n):
 Calls prog 227 #[tv] w λu w'=>u=.returned (.int .i64 (zb8 t))/\Below w w w':=by
 have HC:=Hd (zln tv t B w hB ht htl hn);generalize zb8 t=e at HC ⊢;clear ht hn;go_enter func227,ntmps227;go_wp2_with fail;refine HC.o.mono ?_;rintro u w2 ⟨rfl,hb2⟩;have HB2:=Hd hb2;clear hb2;go_wp2;go_ret;exact ⟨rfl,HB2.o⟩
theorem zk2:zbt.size=50:=by decide
theorem zo4 (w:World) (cur:Array Value) (hc:cur.size=50):(storeCells (w,0) zbt.toList).run prog (w.alloc (.cells cur 355))=.ok () (w.alloc (.cells zbt 355)):=by
 have h:=run_storeCells_at prog w.heap.size 0 355 zbt.toList 0 cur (w.alloc (.cells cur 355)) (heap_alloc_new w _) (by rw[Array.length_toList,zk2,hc];omega) (by
  intro v hv;simp only[zbt,List.mem_map] at hv;obtain ⟨x,_,rfl⟩:=hv;rfl)
 rw[h,zkr]
 congr 3
 apply Array.ext';simp[zk2,hc]
theorem zv4 (w:World):Sls cStr (w.alloc (.cells zbt 355)) (w.heap.size+1) (.slice (some (w,0)) 50 50) zbo:=
 ⟨_,50,rfl,Nat.le_refl _,by unfold maxLen;decide,λ_=>⟨w.heap.size,0,rfl,Nat.lt_succ_self _,(je w 355 zbt).range λj v hv=>by
  rw[Nat.zero_add];have e:zbt.toList=zbo.flatMap cStr:=rfl;rw[<- Array.getElem?_toList,e];exact hv⟩⟩
theorem zww (s:zaa) (h:zbo.contains s=true):∃i:Nat,i<50/\idxS zbo s=i/\fnOf s=i+1:=by
 refine ⟨zbo.idxOf s,List.idxOf_lt_length_of_mem (by simpa using h),?_,?_⟩
 ·unfold idxS;rw[jb h]
 unfold fnOf;rw[jb h]
theorem zwx (s:zaa) (h:zbo.contains s=false):idxS zbo s= -1/\fnOf s=0:=by
 unfold idxS fnOf;rw[h];exact ⟨rfl,rfl⟩
theorem zlm (s:zaa) (W:World):Calls prog 355 #[str s] W λu W'=>(∃er:Int,(er=0↔fnOf s≠0)/\u=.returned (.tuple #[.int .u8 (fnOf s),.int .i64 er]))/\Below W W W':=by
 go_enter func355,ntmps355;go_wp2_with fail;refine (zsa _).mono ?_;rintro u w1 ⟨rfl,hb1⟩;go_wp2_with fail;rw[zo4 w1 _ rfl];go_simp;go_wp2_with fail;refine (zwq (w1.heap.size+1) _ zbo s _ (zv4 w1) (by decide)).mono ?_;rintro u w2 ⟨rfl,rfl⟩;have HB:=jM (Below W W (w1.alloc (.cells zbt 355))) (hb1.alloc hb1.size _);clear hb1;cases hc:zbo.contains s;rotate_left
 ·obtain ⟨i,hi,e1,e2⟩:=zww s hc;rw[e1];have E2:=Hd e2;have i0:(0:Int)<=(i:Int):=by omega
  have i1:(i:Int)<50:=by omega
  clear e1 e2 hc;go_wp2;go_ret2;exact ⟨⟨0,by rw[E2.o];simp,by rw[E2.o];rfl⟩,HB.o⟩
 obtain ⟨e1,e2⟩:=zwx s hc;rw[e1];have E2:=Hd e2;clear e1 e2 hc;go_wp2;go_ret2;exact ⟨⟨6,by rw[E2.o];simp,by rw[E2.o];rfl⟩,HB.o⟩
theorem zxl (fn:Nat) (h1:1<=fn) (h2:fn<=50):1<=(zao fn).1:=by
 unfold zao
 repeat' split
 all_goals first | decide | omega
theorem z0g (s:zaa) (h:fnOf s≠0):1<=fnOf s/\fnOf s<=50:=by
 cases hc:zbo.contains s;rotate_left
 ·obtain ⟨i,hi,_,e⟩:=zww s hc;omega
 exact absurd (zwx s hc).2 h
theorem z3z (e:Int) (f:Nat) (hl:∀f' fn n,f'<=f->1<=fn->fn<=50->n<=2000->RunS 356 (arg1 fn n) e f' (.arg fn n)):zx0 e (f+1):=by
 intro t p ov st W h hn hf ht hk;have HL:=Hd hl;have HH:=Hd h;have HLT:=Hd h.lt;have HOV:=jM (∀k,W.heap.size<=k->ov.ownBlock≠some k) (λk hk e=>by have:=h.ow.lt _ e;omega);have hne:st.1≠ []:=ze2 (e:=e) (by rw[ht,hk];decide);have HR:Hid (parS e (f+1) (.call t) st=if fnOf t.text=0 then .error (t.at_,10) else
  thenS (ze4 e 9 (zap st)) λst=>if (zak e st).kind=10 then ze3 e t (fnOf t.text) 0 st else parS e f (.args t (fnOf t.text) 0) st):=Hd rfl
 generalize parS e (f+1) (.call t) st=R at HR ⊢;clear hl h ht hk;have K0:=Hd (je W 239 (cTok t).toArray);have HB0:=jM (Below W W (W.alloc (.cells (cTok t).toArray 239))) (by go_grown);rw[show (cTok t).toArray=#[.int .u8 t.kind,.int .i64 t.num,str t.text,.int .i64 t.rect.c1,.int .i64 t.rect.r1,.int .i64 t.rect.c2,.int .i64 t.rect.r2,.int .i64 t.at_] from rfl] at K0 HB0 ⊢;have H0:=Hd (HH.o.below HB0.o);go_enter func343,ntmps343;go_upto_region 1 with (fail)
 obtain ⟨W1,hW1⟩:=jN (W.alloc (.cells t 239));rw[hW1] at K0 HB0 H0 ⊢;clear hW1;have KU:Hid (∀W' ov',PTo p W1 ov W' ov'->Blk W' W.heap.size 239 t):=Hd (λW' ov' h=>h.blk K0.o (by have:=HLT.o;omega) (HOV.o _ jy));have BU:Hid (∀W' ov',PTo p W1 ov W' ov'->Below p W W'):=Hd (λW' ov' h=>(HB0.o.mono (jF HLT.o)).trans (h.old (by have:=H0.o.lt;omega) HH.o.ob));have TU:Hid (∀W' ov',PTo p W1 ov W' ov'->PTo p W ov W' ov'):=Hd (λW' ov' h=>(PTo.below (PTo.refl p W ov) HB0.o).trans h);obtain ⟨x2,x7⟩:=K0.o.c2 2 7;go_wp2_with fail;refine (zlm t.text _).mono ?_;rintro u w2 ⟨⟨er,her,rfl⟩,hb2⟩;have H2:=Hd (H0.o.below hb2);have U2:=Hd (PTo.below (PTo.refl p W1 ov) hb2);clear hb2 x2 x7;by_cases hf0:fnOf t.text=0
 ·have x7:w2.cell? (W,7)=some (.int .i64 t.at_):=(KU.o _ _ U2.o).cell 7;have HR2:=Hd (HR.o.trans (jb hf0));have be:(er != 0)=true:=by
   have:¬er=0:=λh=>her.1 h hf0;simpa using this
  clear her hf0 HR;generalize fnOf t.text=fn;go_wp2_with fail;refine (zc9 _ t.at_ 10 _).mono ?_;rintro u w3 ⟨rfl,rfl⟩;unfold flt;go_wp2;exact ⟨rfl,zay HR2.o (BU.o _ _ U2.o)⟩
 have HR2:=Hd (HR.o.trans (ja hf0));have he0:er=0:=her.2 hf0;have HFR:=Hd (z0g t.text hf0);subst he0;clear her hf0 HR;generalize hfn:fnOf t.text=fn at HR2 HFR ⊢;clear hfn;go_wp2_with fail;refine (zb5 p e ov st _ H2.o (by omega) hne).mono ?_;rintro u w3 ⟨rfl,ha,ht⟩;have hpos:1<=st.1.length:=List.length_pos_iff.2 hne;have H3:=Hd ha;have U3:=Hd (U2.o.trans ht);clear ha ht;go_wp2_with fail;refine (zqx p e ov (zap st) 9 _ H3.o (by rw[zai];omega) (by decide)).mono ?_;intro u w4 hw;rcases zaz hw with ⟨s4,ov4,hr,rfl,ha,ht⟩ | ⟨a,er,hr,rfl,hb⟩
 rotate_left
 ·have HR3:=jM (R=.error (a,er)) (by rw[HR2.o,hr];rfl);have HB3:=Hd ((BU.o _ _ U3.o).trans hb);clear hr hw hb;unfold flt;go_wp2;exact ⟨rfl,zay HR3.o HB3.o⟩
 have HS4:=Hd (zi3 (by decide) hr);have HR3:=jM (R=if (zak e s4).kind=10 then ze3 e t fn 0 s4 else parS e f (.args t fn 0) s4) (by rw[HR2.o,hr];rfl);have H4:=Hd ha;have U4:=Hd (U3.o.trans ht);have HL4:=Hd (show s4.1.length+2=st.1.length/\s4.2=st.2 by
  obtain ⟨h1,h2⟩:=HS4.o;rw[h1,zai,zai,zah,zah];rw[zai] at h2;exact ⟨by omega,rfl⟩)
 clear ha ht hr hw HR2;go_wp2_with fail;refine (zc8 p e ov4 s4 _ H4.o (by have:=HL4.o;omega)).mono ?_;rintro u w5 ⟨rfl,hb5⟩;have H5:=Hd (H4.o.below hb5);have U5:=Hd (PTo.below U4.o hb5);clear hb5;generalize hq:zak e s4=q at HR3 ⊢;have HQ:=Hd hq;clear hq;rw[show (cTok q).toArray=#[.int .u8 q.kind,.int .i64 q.num,str q.text,.int .i64 q.rect.c1,.int .i64 q.rect.r1,.int .i64 q.rect.c2,.int .i64 q.rect.r2,.int .i64 q.at_] from rfl];have hfi:∀W:World,(Instr.field 239 (.agg q) 0).run prog W=.ok (.int .u8 q.kind) W:=λW=>by rfl
 by_cases h10:q.kind=10
 ·have b10:(q.kind != 10)=false:=by simpa using h10
  have HR4:=Hd (HR3.o.trans (jb h10));have H10:=Hd h10;clear HR3 h10;go_wp2_with fail;refine (zc8 p e ov4 s4 _ H5.o (by have:=HL4.o;omega)).mono ?_;rintro u w6 ⟨rfl,hb6⟩;rw[HQ.o];have U6:=Hd (PTo.below U5.o (hb6.alloc hb6.size (.cells (cTok q).toArray 239)));have KQ:=Hd (je w6 239 (cTok q).toArray);clear hb6;obtain ⟨W6,hW6⟩:=jN (w6.alloc (.cells (cTok q).toArray 239));rw[hW6] at U6 KQ;rw[show (cTok q).toArray=#[.int .u8 q.kind,.int .i64 q.num,str q.text,.int .i64 q.rect.c1,.int .i64 q.rect.r1,.int .i64 q.rect.c2,.int .i64 q.rect.r2,.int .i64 q.at_] from rfl] at hW6 KQ ⊢;go_upto_region 13 with (fail)
  clear hW6;have y0:=KQ.o.cell 0;have x7:W6.cell? (W,7)=some (.int .i64 t.at_):=(KU.o _ _ U6.o).cell 7;have ha1:=zxl fn HFR.o.1 HFR.o.2;have HA:=Hd (zf9 fn HFR.o.1 HFR.o.2 W6);have HD:Hid (ze3 e t fn 0 s4=.error (t.at_,11)):=Hd (by
   unfold ze3;rw[HQ.o,ja (by simpa using H10.o),jb (.inl (by omega))])
  generalize (zao fn).1=m0 at HA ha1;generalize (zao fn).2.1=m1 at HA;generalize (zao fn).2.2=m2 at HA;have m0p:(0:Int)<m0:=by omega
  clear ha1;go_wp2_with fail;refine HA.o.mono ?_;rintro u w7 ⟨rfl,rfl⟩;go_wp2_with fail;refine (zc9 _ t.at_ 11 _).mono ?_;rintro u w8 ⟨rfl,rfl⟩;unfold flt;go_wp2;exact ⟨rfl,zay (HR4.o.trans HD.o) (BU.o _ _ U6.o)⟩
 have b10:(q.kind != 10)=true:=by simpa using h10
 have HR4:=Hd (HR3.o.trans (ja h10));clear HR3 h10 HQ;go_wp2_with fail;go_loopw [6] (λnv wr=>∃(n:Nat) (f':Nat) (s':PSt) (ov':Value),nv=.int .i64 n/\R=parS e f' (.args t fn n) s'/\10*s'.1.length+13<=f'/\f'<=f+1/\n+s'.1.length<=2000/\s'.1.length+s'.2.length<=2000/\PA wr p e ov' s'/\PTo p W1 ov wr ov') (λ_ wr=>ztl p wr)
 case atStart=>exact ⟨0,f,s4,ov4,rfl,HR4.o,by have:=HL4.o;omega,by omega,by have:=HL4.o;omega,by have:=HL4.o;rw[this.2];omega,H5.o,U5.o⟩
 obtain ⟨n,f',s',ov',rfl,hr,hf',hff,hns,hn',ha,ht⟩:=hrel;obtain ⟨f2,rfl⟩:∃f2,f'=f2+1:=⟨f'-1,by omega⟩;have HR5:=jM (R=thenS (parS e f2 (.arg fn n) s') λst=>if (zak e st).kind=11 then parS e f2 (.args t fn (n+1)) (zap st) else ze3 e t fn (n+1) st) hr;have H6:=Hd ha;have U6:=Hd ht;have HLA:=Hd (zet ha);have n0:(0:Int)<=(n:Int):=by omega
 have n1:(n:Int)<=2000:=by omega
 clear hr ha ht HR4;go_wp2_with fail;refine (HL.o f2 fn n (by omega) HFR.o.1 HFR.o.2 (by omega) p ov' s' _ H6.o hn' (by simp only[zbg];omega)).mono ?_;intro u w7 hw;rcases zaz hw with ⟨s7,ov7,hr,rfl,ha,ht⟩ | ⟨a,er,hr,rfl,hb⟩
 rotate_left
 ·have HR6:=jM (R=.error (a,er)) (by rw[HR5.o,hr];rfl);have HB6:=Hd ((BU.o _ _ U6.o).trans hb);clear hr hw hb;unfold flt;go_wp2;exact ⟨rfl,zay HR6.o HB6.o⟩
 have HL7:=Hd (za4 e f2 _ _ _ hr);have HG7:=Hd (zbp e f2 _ _ _ hr);have HR6:=jM (R=if (zak e s7).kind=11 then parS e f2 (.args t fn (n+1)) (zap s7) else ze3 e t fn (n+1) s7) (by rw[HR5.o,hr];rfl);have H7:=Hd ha;have U7:=Hd (U6.o.trans ht);clear ha ht hr hw HR5;go_wp2_with fail;refine (zc8 p e ov7 s7 _ H7.o (by have:=HL7.o;omega)).mono ?_;rintro u w8 ⟨rfl,hb8⟩;have H8:=Hd (H7.o.below hb8);have U8:=Hd (PTo.below U7.o hb8);clear hb8;have HN8:Hid ((zak e s7).kind≠0->s7.1≠ []):=Hd ze2;generalize hq8:zak e s7=q8 at HR6 HN8 ⊢;have HQ8:=Hd hq8;clear hq8;rw[show (cTok q8).toArray=#[.int .u8 q8.kind,.int .i64 q8.num,str q8.text,.int .i64 q8.rect.c1,.int .i64 q8.rect.r1,.int .i64 q8.rect.c2,.int .i64 q8.rect.r2,.int .i64 q8.at_] from rfl];have hfi8:∀W:World,(Instr.field 239 (.agg q8) 0).run prog W=.ok (.int .u8 q8.kind) W:=λW=>by rfl
 by_cases h11:q8.kind=11
 ·have b11:(q8.kind != 11)=false:=by simpa using h11
  have HR7:=Hd (HR6.o.trans (jb h11));have hne8:=HN8.o (by omega);have hpos8:1<=s7.1.length:=List.length_pos_iff.2 hne8;clear h11 HR6;go_wp2_with fail;refine (zb5 p e ov7 s7 _ H8.o (by have:=HL7.o;omega) hne8).mono ?_;rintro u w9 ⟨rfl,ha,ht⟩;have H9:=Hd ha;have U9:=Hd (U8.o.trans ht);have HL9:=Hd (zet ha);clear ha ht;go_wp2;exact ⟨⟨n+1,f2,zap s7,ov7,by go_num,HR7.o,by have:=HL7.o;rw[zai];simp only[za0] at this;omega,by omega,by have:=HL7.o;rw[zai];simp only[za0] at this;omega,by have:=HL7.o;rw[zai,zah];simp only[za0] at this;omega,H9.o,U9.o⟩,by rw[HL9.o,HLA.o,zai];have:=HL7.o;simp only[za0] at this;omega⟩
 have b11:(q8.kind != 11)=true:=by simpa using h11
 have HR7:=Hd (HR6.o.trans (ja h11));clear h11 HR6 b10;go_wp2_with fail;refine (zc8 p e ov7 s7 _ H8.o (by have:=HL7.o;omega)).mono ?_;rintro u w9 ⟨rfl,hb9⟩;rw[HQ8.o];have H9:=Hd (H8.o.below (hb9.alloc hb9.size (.cells (cTok q8).toArray 239)));have U9:=Hd (PTo.below U8.o (hb9.alloc hb9.size (.cells (cTok q8).toArray 239)));have KQ:=Hd (je w9 239 (cTok q8).toArray);clear hb9;obtain ⟨W9,hW9⟩:=jN (w9.alloc (.cells (cTok q8).toArray 239));rw[hW9] at H9 U9 KQ;rw[show (cTok q8).toArray=#[.int .u8 q8.kind,.int .i64 q8.num,str q8.text,.int .i64 q8.rect.c1,.int .i64 q8.rect.r1,.int .i64 q8.rect.c2,.int .i64 q8.rect.r2,.int .i64 q8.at_] from rfl] at hW9 KQ ⊢;go_upto_region 13 with (fail)
 clear hW9;obtain ⟨y0,y7⟩:=KQ.o.c2 0 7;have x7:W9.cell? (W,7)=some (.int .i64 t.at_):=(KU.o _ _ U9.o).cell 7;by_cases h10:q8.kind=10;rotate_left
 ·have c10:(q8.kind != 10)=true:=by simpa using h10
  have HD:=Hd (show R=.error (q8.at_,4) by
   rw[HR7.o];unfold ze3;rw[HQ8.o,jb h10])
  clear h10;go_wp2_with fail;refine (zc9 _ q8.at_ 4 _).mono ?_;rintro u w10 ⟨rfl,rfl⟩;unfold flt;go_wp2;exact ⟨rfl,zay HD.o (BU.o _ _ U9.o)⟩
 have c10:(q8.kind != 10)=false:=by simpa using h10
 have hne8:=HN8.o (by omega);have HA:=Hd (zf9 fn HFR.o.1 HFR.o.2 W9);have HD:Hid (R=if ((n+1:Nat):Int)<(zao fn).1\/(zao fn).2.1<((n+1:Nat):Int) then .error (t.at_,11) else if 46<=fn/\(s7.2.getLast?.map (·.kind))≠some 2/\(s7.2.getLast?.map (·.kind))≠some 3 then .error (t.at_,4) else .ok (putS { nod0 7 with fn:=fn,n:=(n+1:Nat) } (zap s7))):=Hd (by
  rw[HR7.o];unfold ze3;rw[HQ8.o,ja (by simpa using h10)])
 clear h10 HR7;rw[show ((n+1:Nat):Int)=(n:Int)+1 by omega] at HD;generalize (zao fn).1=m0 at HA HD;generalize (zao fn).2.1=m1 at HA HD;generalize (zao fn).2.2=m2 at HA;go_wp2_with fail;refine HA.o.mono ?_;rintro u w10 ⟨rfl,rfl⟩;by_cases hm:(n:Int)+1<m0\/m1<(n:Int)+1
 ·have HD2:=Hd (HD.o.trans (jb hm));have HM:=Hd hm;clear HD hm;by_cases hm0:(n:Int)+1<m0
  ·go_wp2_with fail;refine (zc9 _ t.at_ 11 _).mono ?_;rintro u w11 ⟨rfl,rfl⟩;unfold flt;go_wp2;exact ⟨rfl,zay HD2.o (BU.o _ _ U9.o)⟩
  have hm1:m1<(n:Int)+1:=HM.o.resolve_left hm0;go_wp2_with fail;refine (zc9 _ t.at_ 11 _).mono ?_;rintro u w11 ⟨rfl,rfl⟩;unfold flt;go_wp2;exact ⟨rfl,zay HD2.o (BU.o _ _ U9.o)⟩
 have HD2:=Hd (HD.o.trans (ja hm));have hm0:¬(n:Int)+1<m0:=λh=>hm (.inl h);have hm1:¬m1<(n:Int)+1:=λh=>hm (.inr h);clear HD hm;obtain ⟨m,hm⟩:∃m,s7.2.length=m+1:=⟨s7.2.length-1,by have:=HG7.o;simp only[za0] at this;omega⟩;have hx:=jz (l:=s7.2) (i:=m) (by omega);have hlast:s7.2.getLast?=some (s7.2[m]'(by omega)):=by rw[List.getLast?_eq_getElem?,show s7.2.length-1=m by omega];exact hx
 generalize s7.2[m]'(by omega)=x at hx hlast;obtain ⟨g,cap,hv,hcells⟩:∃g cap,ov7=.slice (some ⟨g,0,none⟩) (m+1) cap/\W9.cell? ⟨g,m*11,none⟩=some (.int .u8 x.kind):=by
  obtain ⟨g,cap,hv,_⟩:=World.ownsRow.form H9.o.ow (by omega);have hs:=H9.o.ow.sls (by have:=HL7.o;unfold maxLen;omega);rw[hv] at hs;obtain ⟨b,o,e1,_,hr⟩:=Sls.get hs 11 zbx hx;injection e1 with e1
  injection e1 with e1 e2
  subst e1 e2;refine ⟨g,cap,by rw[hv,hm],?_⟩;have:=hr 0 _ rfl
  rwa [Nat.zero_add,Nat.add_zero] at this
 have HD4:Hid (R=if 46<=fn/\x.kind≠2/\x.kind≠3 then .error (t.at_,4) else .ok (putS { nod0 7 with fn:=fn,n:=(n:Int)+1 } (zap s7))):=Hd (by
  rw[HD2.o,hlast];simp only[Option.map_some,ne_eq,jl])
 obtain ⟨lv,hbx,_⟩:=H9.o.bx;have p2:W9.cell? (p,2)=some (.slice (some (g,0)) (m+1) cap):=by rw[<- hv];exact hbx.cell 2
 have HV:=Hd hv;have hmz:(0:Int)<=(m:Int):=by omega
 have hmy:(m:Int)<=2000:=by have:=HL7.o;omega
 clear hx hlast hm hv hbx HD2;generalize x.kind=xk at HD4 hcells;clear x;go_upto_region 18 with (fail)
 go_region
 have HH10:=Hd (H9.o.below ((jg _ _).drew));have UU10:=Hd (PTo.below U9.o ((jg _ _).drew));clear hcells p2 H9 U9;have H9:=HH10;have U9:=UU10;clear HH10 UU10;by_cases h46:46<=fn;rotate_left
 ·have g46:¬(46:Int)<=(fn:Int):=by omega
  have HD3:=Hd (HD4.o.trans (ja (λh=>h46 h.1)));clear HD4;go_wp2_with fail;refine (zb5 p e _ s7 _ H9.o (by have:=HL7.o;omega) hne8).mono ?_;rintro u w11 ⟨rfl,ha,ht⟩;have H11:=Hd ha;have U11:=Hd (U9.o.trans ht);clear ha ht;go_wp2_with fail;refine (zeg p e _ (zap s7) { nod0 7 with fn:=fn,n:=(n:Int)+1 } _ H11.o (by have:=HL7.o;rw[zah];omega)).mono ?_;rintro u w12 ⟨rfl,ov12,ha,ht⟩;have H12:=Hd ha;have U12:=Hd (U11.o.trans ht);clear ha ht;go_wp2;refine bE ?_;exact zbn HD3.o H12.o (TU.o _ _ U12.o)
 have g46:(46:Int)<=(fn:Int):=by omega
 by_cases k2:xk=2
 ·have b2:(xk != 2)=false:=by simpa using k2
  have HD3:=Hd (HD4.o.trans (ja (λh=>h.2.1 k2)));clear HD4;go_wp2_with fail;refine (zb5 p e _ s7 _ H9.o (by have:=HL7.o;omega) hne8).mono ?_;rintro u w11 ⟨rfl,ha,ht⟩;have H11:=Hd ha;have U11:=Hd (U9.o.trans ht);clear ha ht;go_wp2_with fail;refine (zeg p e _ (zap s7) { nod0 7 with fn:=fn,n:=(n:Int)+1 } _ H11.o (by have:=HL7.o;rw[zah];omega)).mono ?_;rintro u w12 ⟨rfl,ov12,ha,ht⟩;have H12:=Hd ha;have U12:=Hd (U11.o.trans ht);clear ha ht;go_wp2;refine bE ?_;exact zbn HD3.o H12.o (TU.o _ _ U12.o)
 have b2:(xk != 2)=true:=by simpa using k2
 by_cases k3:xk=3
 ·have b3:(xk != 3)=false:=by simpa using k3
  have HD3:=Hd (HD4.o.trans (ja (λh=>h.2.2 k3)));clear HD4;go_wp2_with fail;refine (zb5 p e _ s7 _ H9.o (by have:=HL7.o;omega) hne8).mono ?_;rintro u w11 ⟨rfl,ha,ht⟩;have H11:=Hd ha;have U11:=Hd (U9.o.trans ht);clear ha ht;go_wp2_with fail;refine (zeg p e _ (zap s7) { nod0 7 with fn:=fn,n:=(n:Int)+1 } _ H11.o (by have:=HL7.o;rw[zah];omega)).mono ?_;rintro u w12 ⟨rfl,ov12,ha,ht⟩;have H12:=Hd ha;have U12:=Hd (U11.o.trans ht);clear ha ht;go_wp2;refine bE ?_;exact zbn HD3.o H12.o (TU.o _ _ U12.o)
 have b3:(xk != 3)=true:=by simpa using k3
 have HD3:=Hd (HD4.o.trans (jb ⟨h46,k2,k3⟩));clear HD4 k2 k3;go_wp2_with fail;refine (zc9 _ t.at_ 4 _).mono ?_;rintro u w11 ⟨rfl,rfl⟩;unfold flt;go_wp2;exact ⟨rfl,zay HD3.o (BU.o _ _ U9.o)⟩
structure AllOk (e:Int) (f:Nat):Prop where
 sign:RunS 284 one1 e f .sign
 pct:RunS 307 one1 e f .pct
 prim:RunS 325 one1 e f .prim
 level:∀k,1<=k->k<=4->RunS 251 (lev1 k) e f (.level k)
 call:zx0 e f
 arg:∀fn n,1<=fn->fn<=50->n<=2000->RunS 356 (arg1 fn n) e f (.arg fn n)
theorem z0v (e:Int):AllOk e 0 where
 sign:=λp ov st W h hn hf=>by simp only[zbg] at hf;omega
 pct:=λp ov st W h hn hf=>by simp only[zbg] at hf;omega
 prim:=λp ov st W h hn hf=>by simp only[zbg] at hf;omega
 level:=λk h1 h4 p ov st W h hn hf=>by simp only[zbg] at hf;omega
 call:=λt p ov st W h hn hf=>by omega
 arg:=λfn n h1 h2 h3 p ov st W h hn hf=>by simp only[zbg] at hf;omega
theorem z1h (e:Int):∀f,∀f'≤f,AllOk e f'
 | 0,f',h=>by
  obtain rfl:f'=0:=by omega
  exact z0v e
 | f+1,f',h=>by
  have ih:=z1h e f;rcases Nat.lt_or_ge f f' with hlt | hge
  rotate_left
  ·exact ih f' hge
  obtain rfl:f'=f+1:=by omega
  have a:=ih f jy;have hfo:=zk8 e f (a.level 1 (by omega) (by omega));exact
   { sign:=z1x e f a.sign a.pct
     pct:=pct_ok e f a.prim
     prim:=z2q e f hfo a.call
     level:=λk h1 h4=>by
      rcases Nat.lt_or_ge k 4 with hk | hk
      ·exact zwh e f k h1 hk (λf' hf'=>(ih f' hf').level (k+1) (by omega) (by omega))
      exact ztj e f k h1 (by omega) (λf' hf'=>(ih f' hf').sign)
     call:=z3z e f (λf' fn n hf' h1 h2 h3=>(ih f' hf').arg fn n h1 h2 h3)
     arg:=λfn n h1 h2 h3=>arg_ok e f fn n h1 h2 h3 hfo }
theorem zzh (e:Int) (f:Nat):RunS 224 one1 e f (.level 1):=zk8 e f ((z1h e f f jy).level 1 (by omega) (by omega))
theorem zog (p q r:Addr) (w:World):
 CallsD prog 223 #[.pointer (some p),.pointer (some q),.pointer (some r)] .returning w λe u' w'=>e=.returned (.tuple #[])/\u'=.returning/\w'=w:=by
 have hnil:∀w:World,(binOp BinOp.eql 20 .nilIface .nilIface).run prog w=.ok (.bool true) w:=λ_=>by kernel_rfl
 refine callsD_of_wpS func223 rfl λc₀ cs hu=>?_;apply wpS_seq;apply wpS_region;simp[wpOpsS,go_sem,recoverD,hu,ntmps223,Exit.thenS];refine wpS_of_wp ?_;go_wp2;cases c₀
 simp_all[bodyPostS,results,results223]
theorem zj1 (p q r:Nat) (a er v1 v2:Int) (v0:Value) (w:World) (older:List PanicEntry) (hp:Blk w p 190 #[v0]) (hq:Blk w q 3 #[.int .i64 v1]) (hr:Blk w r 35 #[.int .i64 v2]) (hpq:p≠q) (hpr:p≠r) (hqr:q≠r):
 CallsD prog 223 #[.pointer (some (p,0)),.pointer (some (q,0)),.pointer (some (r,0))] (.panicking ({ v:=.iface 234 (.agg #[.int .i64 a,.int .i64 er]),recovered:=false }::older)) w λe u' w'=>e=.returned (.tuple #[])/\u'=.panicking ({ v:=.iface 234 (.agg #[.int .i64 a,.int .i64 er]),recovered:=true }::older)/\Blk w' p 190 #[.slice none 0 0]/\Blk w' q 3 #[.int .i64 a]/\Blk w' r 35 #[.int .i64 er]/\Chg (λk=>k=p\/k=q\/k=r) w w':=by
 have hnil:∀w:World,(binOp BinOp.eql 20 (.iface 234 (.agg #[.int .i64 a,.int .i64 er])) .nilIface).run prog w=.ok (.bool false) w:=λ_=>by rfl
 have hta:∀w:World,(Instr.typeAssert (.iface 234 (.agg #[.int .i64 a,.int .i64 er])) 20 234 true).run prog w=.ok (.tuple #[.agg #[.int .i64 a,.int .i64 er],.bool true]) w:=λ_=>by rfl
 have HP:=Hd hp;have HQ:=Hd hq;have HR:=Hd hr;have c0:w.cell? (p,0)=some v0:=hp.cell 0;have c1:=hq.cell 0;have c2:=hr.cell 0;have f0:w.frozen? (p,0)=false:=hp.frozen 0;have f1:w.frozen? (q,0)=false:=hq.frozen 0;have f2:w.frozen? (r,0)=false:=hr.frozen 0;have l0:=hp.lt;have l1:=hq.lt;have l2:=hr.lt;clear hp hq hr;refine callsD_of_wpS func223 rfl λc₀ cs hu=>?_;apply wpS_seq;apply wpS_region;simp[wpOpsS,go_sem,recoverD,hu,ntmps223,Exit.thenS];refine wpS_of_wp ?_;rw[show (#[Value.pointer (some ⟨p,0,none⟩),.pointer (some ⟨q,0,none⟩),.pointer (some ⟨r,0,none⟩)]++(Array.replicate 13 undef).setIfInBounds 3 (.iface 234 (.agg #[.int .i64 a,.int .i64 er])))=#[Value.pointer (some ⟨p,0,none⟩),.pointer (some ⟨q,0,none⟩),.pointer (some ⟨r,0,none⟩),undef,undef,undef,.iface 234 (.agg #[.int .i64 a,.int .i64 er]),undef,undef,undef,undef,undef,undef,undef,undef,undef] from rfl];go_wp2_with fail;have H1:=Hd (((((HP.o.set_ 0 (.slice none 0 0)).far (p:=⟨q,0,none⟩) hpq (.int .i64 a)).far (p:=⟨r,0,none⟩) hpr (.int .i64 er)).alloc (.cells #[.int .i64 a,.int .i64 er] 234)).drew);have H2:=Hd (((((HQ.o.far (p:=⟨p,0,none⟩) (Ne.symm hpq) (.slice none 0 0)).set_ 0 (.int .i64 a)).far (p:=⟨r,0,none⟩) hqr (.int .i64 er)).alloc (.cells #[.int .i64 a,.int .i64 er] 234)).drew);have H3:=Hd (((((HR.o.far (p:=⟨p,0,none⟩) (Ne.symm hpr) (.slice none 0 0)).far (p:=⟨q,0,none⟩) (Ne.symm hqr) (.int .i64 a)).set_ 0 (.int .i64 er)).alloc (.cells #[.int .i64 a,.int .i64 er] 234)).drew);have H4:=Hd ((((((Chg.refl (λk=>k=p\/k=q\/k=r) w).setCell (p:=⟨p,0,none⟩) (.inl (.inl rfl)) (.slice none 0 0)).setCell (p:=⟨q,0,none⟩) (.inl (.inr (.inl rfl))) (.int .i64 a)).setCell (p:=⟨r,0,none⟩) (.inl (.inr (.inr rfl))) (.int .i64 er)).alloc (.cells #[.int .i64 a,.int .i64 er] 234)).drew)
 go_region
 all_goals
  go_wp2;cases c₀;simp[bodyPostS,results,results223];exact ⟨H1.o,H2.o,H3.o,H4.o⟩
theorem zi7 (s:zaa):∀(f i:Nat) (l:List Tok),ze0 s f i=some l->l.length<=s.length-i
 | 0,i,l,h=>by simp[ze0] at h
 | f+1,i,l,h=>by
  unfold ze0 at h;split at h
  ·cases h;simp
  split at h
  ·have:=zi7 s f _ l h;omega
  split at h
  ·cases h
  obtain ⟨l2,h2,rfl⟩:=Option.map_eq_some_iff.1 h;have:=zi7 s f _ l2 h2;rw[jk];omega
theorem zqa (s:zaa):(zaf s).1.length<=256:=by
 unfold zaf;split
 ·simp
 split
 ·simp
 split
 ·simp
 rename_i l hl;have:=zi7 s _ _ l hl;simp only;omega
theorem Sls.chgOwn {c:α->List Value} {S:Nat->Prop} {l:List α} (h:Sls c w B v l) (hb:Chg S w w') (hB:B<=w.heap.size) (hs:∀q,v.ownBlock=some q->¬S q):Sls c w' B v l:=by
 obtain ⟨A,cap,rfl,h1,hm,h2⟩:=h;refine ⟨A,cap,rfl,h1,hm,λhn=>?_⟩;obtain ⟨b,o,rfl,hlt,hr⟩:=h2 hn;exact ⟨b,o,rfl,hlt,zvj hr hb (jG hlt hB) (hs b rfl)⟩
theorem zwv {s:zaa} (h:¬(zaf s).2≠0):zat s=match parS s.length (10*(zaf s).1.length+20) (.level 1) ((zaf s).1,[]) with
 | .error e=>([],e.2)
 | .ok st=>if st.1≠ [] then ([],4) else if zb8 st.2≠0 then ([],zb8 st.2) else (st.2,0):=by
 unfold zat;rw[ja h];cases parS s.length (10*(zaf s).1.length+20) (.level 1) ((zaf s).1,[]) <;> rfl
theorem zri {s:zaa} (h:(zaf s).2≠0):zat s=([],(zaf s).2):=by unfold zat;rw[jb h]
theorem zpr (s:zaa) (w:World) (hs:s.length<=1000000) (hw:Words w):
 Calls prog 197 #[str s] w λu w'=>∃v,∃p:Int,u=.returned (.tuple #[v,.int .i64 p,.int .i64 (zat s).2])/\Sls cNod w' w'.heap.size v (zat s).1/\Below w w w':=by
 have hmf:∀(fn:Fn) (first cap:Array Value) (w:World),(Instr.makeFunc fn first cap).run prog w=.ok (.func fn first cap) w:=λ_ _ _ _=>rfl;have HW:=Hd hw;clear hw;have HB0:=jM (Below w w (((w.alloc (.cells #[.slice none 0 0] 190)).alloc (.cells #[.int .i64 0] 3)).alloc (.cells #[.int .i64 0] 35))) (by go_grown);have K0:=Hd (((je w 190 #[.slice none 0 0]).alloc (.cells #[.int .i64 0] 3)).alloc (.cells #[.int .i64 0] 35));have K1:=Hd (show Blk (((w.alloc (.cells #[.slice none 0 0] 190)).alloc (.cells #[.int .i64 0] 3)).alloc (.cells #[.int .i64 0] 35)) (w.heap.size+1) 3 #[.int .i64 0] by
  have:=(je (w.alloc (.cells #[.slice none 0 0] 190)) 3 #[.int .i64 0]).alloc (.cells #[.int .i64 0] 35);simpa using this)
 have K2:=Hd (show Blk (((w.alloc (.cells #[.slice none 0 0] 190)).alloc (.cells #[.int .i64 0] 3)).alloc (.cells #[.int .i64 0] 35)) (w.heap.size+1+1) 35 #[.int .i64 0] by
  have:=je ((w.alloc (.cells #[.slice none 0 0] 190)).alloc (.cells #[.int .i64 0] 3)) 35 #[.int .i64 0];simpa using this)
 go_enter_defers func197,ntmps197;go_upto_region 1 with (fail)
 obtain ⟨W0,hW0⟩:=jN (((w.alloc (.cells #[.slice none 0 0] 190)).alloc (.cells #[.int .i64 0] 3)).alloc (.cells #[.int .i64 0] 35));have HZ0:=jM ((((w.alloc (.cells #[.slice none 0 0] 190)).alloc (.cells #[.int .i64 0] 3)).alloc (.cells #[.int .i64 0] 35)).heap.size=w.heap.size+1+1+1) (by simp);rw[hW0] at HB0 K0 K1 K2 HZ0 ⊢;clear hW0;go_wp2_with fail;refine (ztg s _ hs (HW.o.below HB0.o)).mono ?_;rintro u w1 ⟨tv,tp,rfl,hsl,hb1,htq⟩;have HTQ:=Hd htq;clear htq;obtain ⟨TA,tcap,rfl, -⟩:=id hsl;have HT1:=Hd hsl;have HB1:=Hd (jd HB0.o hb1 HB0.o.size);have L0:=Hd (K0.o.below_ hb1);have L1:=Hd (K1.o.below_ hb1);have L2:=Hd (K2.o.below_ hb1);clear hsl hb1 K0 K1 K2;have c1:=L1.o.cell 0;have c2:=L2.o.cell 0;have f1:w1.frozen? (w.heap.size+1,0)=false:=L1.o.frozen 0;have f2:w1.frozen? (w.heap.size+1+1,0)=false:=L2.o.frozen 0;go_upto_region 2 with (fail)
 have M0:=Hd ((L0.o.far (p:=⟨w.heap.size+1,0,none⟩) (by show w.heap.size≠w.heap.size+1;omega) (.int .i64 tp)).far (p:=⟨w.heap.size+1+1,0,none⟩) (by show w.heap.size≠w.heap.size+1+1;omega) (.int .i64 (zaf s).2));have M1:=Hd (show Blk ((w1.setCell (w.heap.size+1,0) (.int .i64 tp)).setCell (w.heap.size+1+1,0) (.int .i64 (zaf s).2)) (w.heap.size+1) 3 #[.int .i64 tp] from (L1.o.set_ 0 (.int .i64 tp)).far (p:=⟨w.heap.size+1+1,0,none⟩) (by show w.heap.size+1≠w.heap.size+1+1;omega) (.int .i64 (zaf s).2));have M2:=Hd (show Blk ((w1.setCell (w.heap.size+1,0) (.int .i64 tp)).setCell (w.heap.size+1+1,0) (.int .i64 (zaf s).2)) (w.heap.size+1+1) 35 #[.int .i64 (zaf s).2] from (L2.o.far (p:=⟨w.heap.size+1,0,none⟩) (by show w.heap.size+1+1≠w.heap.size+1;omega) (.int .i64 tp)).set_ 0 (.int .i64 (zaf s).2));have HC2:=Hd (((Chg.refl (λk=>k=w.heap.size+1\/k=w.heap.size+1+1) w1).setCell (p:=⟨w.heap.size+1,0,none⟩) (.inl (.inl rfl)) (.int .i64 tp)).setCell (p:=⟨w.heap.size+1+1,0,none⟩) (.inl (.inr rfl)) (.int .i64 (zaf s).2));have HB2:=Hd (HB1.o.trans (HC2.o.to_below (B:=w.heap.size) HB1.o.size (λk hk e=>by omega)));obtain ⟨W2,hW2⟩:=jN ((w1.setCell (w.heap.size+1,0) (.int .i64 tp)).setCell (w.heap.size+1+1,0) (.int .i64 (zaf s).2));rw[hW2] at M0 M1 M2 HC2 HB2 ⊢;clear hW2 c1 c2 f1 f2 L0 L1 L2;have d0:=M0.o.cell 0;have d1:=M1.o.cell 0;have d2:=M2.o.cell 0;have e0:W2.frozen? (w,0)=false:=M0.o.frozen 0;have e1:W2.frozen? (w.heap.size+1,0)=false:=M1.o.frozen 0;have e2:W2.frozen? (w.heap.size+1+1,0)=false:=M2.o.frozen 0;by_cases hte:(zaf s).2≠0
 ·have HE:=Hd (zri hte);have bt:((zaf s).2 != 0)=true:=by simpa using hte
  generalize (zaf s).2=te at *;clear hte;have N0:=Hd ((((M0.o.set_ 0 (.slice none 0 0)).far (p:=⟨w.heap.size+1,0,none⟩) (by show w.heap.size≠w.heap.size+1;omega) (.int .i64 tp)).far (p:=⟨w.heap.size+1+1,0,none⟩) (by show w.heap.size≠w.heap.size+1+1;omega) (.int .i64 te)).drew);have N1:=Hd ((((M1.o.far (p:=⟨w.heap.size,0,none⟩) (by show w.heap.size+1≠w.heap.size;omega) (.slice none 0 0)).set_ 0 (.int .i64 tp)).far (p:=⟨w.heap.size+1+1,0,none⟩) (by show w.heap.size+1≠w.heap.size+1+1;omega) (.int .i64 te)).drew);have N2:=Hd ((((M2.o.far (p:=⟨w.heap.size,0,none⟩) (by show w.heap.size+1+1≠w.heap.size;omega) (.slice none 0 0)).far (p:=⟨w.heap.size+1,0,none⟩) (by show w.heap.size+1+1≠w.heap.size+1;omega) (.int .i64 tp)).set_ 0 (.int .i64 te)).drew);have HB3:=Hd (show Below w w (((W2.setCell (w,0) (.slice none 0 0)).setCell (w.heap.size+1,0) (.int .i64 tp)).setCell (w.heap.size+1+1,0) (.int .i64 te)).drew from (jc (jc (jc HB2.o jy _) (Nat.le_succ _) _) (by show w.heap.size<=w.heap.size+1+1;omega) _).drew);go_wp2_with fail
  go_region
  all_goals
   go_wp2;obtain ⟨W3,hW3⟩:=jN ((((W2.setCell (w,0) (.slice none 0 0)).setCell (w.heap.size+1,0) (.int .i64 tp)).setCell (w.heap.size+1+1,0) (.int .i64 te)).drew);rw[hW3] at N0 N1 N2 HB3 ⊢;clear hW3;have z0:=N0.o.cell 0;have z1:=N1.o.cell 0;have z2:=N2.o.cell 0;simp only[bodyPostD,Leaves];refine ⟨.tuple #[.slice none 0 0,.int .i64 tp,.int .i64 te],by simp[results,results197,go_sem,z0,z1,z2],.slice none 0 0,tp,by rw[HE.o],by rw[HE.o];exact Sls.nil _ _ _ _ _,HB3.o⟩
 have hte0:(zaf s).2=0:=Classical.not_not.1 hte;rw[hte0] at d2 M2;have HF:=Hd (zwv hte);have HTL:=Hd (zqa s);have HTO:=Hd (zud s);clear hte hte0;have HTP:=Hd (show Sls cTok (W2.alloc (.cells #[.slice TA (zaf s).1.length tcap,.int .i64 s.length,.slice none 0 0] 237)) W2.heap.size (.slice TA (zaf s).1.length tcap) (zaf s).1 from
  ((Sls.chgOwn HT1.o HC2.o jy (λq hq e=>by have h1:=HTQ.o q hq;have h2:=HZ0.o;omega)).more HC2.o.size).below (by go_grown))
 have HPA:=Hd (show PA (W2.alloc (.cells #[.slice TA (zaf s).1.length tcap,.int .i64 s.length,.slice none 0 0] 237)) W2.heap.size s.length (.slice none 0 0) ((zaf s).1,[]) from
  ⟨⟨_,je _ _ _,(HTP.o)⟩,Own.nil _ _ _ _,λk hk=>by simp[Value.ownBlock] at hk⟩)
 have HN:=jM ((((zaf s).1,[]):PSt).1.length+(((zaf s).1,[]):PSt).2.length<=2000) (by have:=HTL.o;simp;omega);have HFU:=jM (zbg (.level 1) (((zaf s).1,[]):PSt).1.length<=10*(zaf s).1.length+20) (by simp only[zbg];omega);have HPO0:=jM (POk ((zaf s).1,[])) ⟨HTO.o,λn hn=>by simp at hn⟩;go_wp2_with fail;refine (zzh s.length (10*(zaf s).1.length+20) W2.heap.size (.slice none 0 0) ((zaf s).1,[]) _ HPA.o HN.o HFU.o).mono ?_;intro u w4 hw;have HBP:=jM (Below w w (W2.alloc (.cells #[.slice TA (zaf s).1.length tcap,.int .i64 s.length,.slice none 0 0] 237))) (HB2.o.alloc HB2.o.size _);have Q0:=Hd (M0.o.alloc (.cells #[.slice TA (zaf s).1.length tcap,.int .i64 s.length,.slice none 0 0] 237));have Q1:=Hd (M1.o.alloc (.cells #[.slice TA (zaf s).1.length tcap,.int .i64 s.length,.slice none 0 0] 237));have Q2:=Hd (M2.o.alloc (.cells #[.slice TA (zaf s).1.length tcap,.int .i64 s.length,.slice none 0 0] 237));have HL2:=jM (w.heap.size<W2.heap.size/\w.heap.size+1<W2.heap.size/\w.heap.size+1+1<W2.heap.size) ⟨M0.o.lt,M1.o.lt,M2.o.lt⟩;clear d0 d1 d2 e0 e1 e2;rcases zaz hw with ⟨s4,ov4,hr,rfl,ha,ht⟩ | ⟨a,er,hr,rfl,hb⟩
 rotate_left
 ·have HE:=jM (zat s=([],er)) (by rw[HF.o,hr]);have R0:=Hd (Q0.o.below hb HL2.o.1);have R1:=Hd (Q1.o.below hb HL2.o.2.1);have R2:=Hd (Q2.o.below hb HL2.o.2.2);have HB4:=Hd (HBP.o.trans (hb.mono HB2.o.size));clear hr hw hb;unfold flt;go_wp2;refine leaves_cons (f:=223) (args:=#[.pointer (some ⟨w.heap.size,0,none⟩),.pointer (some ⟨w.heap.size+1,0,none⟩),.pointer (some ⟨w.heap.size+1+1,0,none⟩)]) (by simp) (by simp[go_sem]) ?_;refine (zj1 (w.heap.size) (w.heap.size+1) (w.heap.size+1+1) a er _ _ _ _ [] R0.o R1.o R2.o (by omega) (by omega) (by omega)).mono ?_;rintro e u' w9 ⟨rfl,rfl,k0,k1,k2,hc⟩;have z0:=k0.cell 0;have z1:=k1.cell 0;have z2:=k2.cell 0;have HB9:=Hd (HB4.o.trans (hc.to_below (B:=w.heap.size) HB4.o.size (λk hk e=>by omega)));clear hc k0 k1 k2;show Leaves _ _ _ _ [] .returning _;simp only[Leaves];refine ⟨.tuple #[.slice none 0 0,.int .i64 a,.int .i64 er],by simp[results,results197,go_sem,z0,z1,z2],.slice none 0 0,a,by rw[HE.o],by rw[HE.o];exact Sls.nil _ _ _ _ _,HB9.o⟩
 have HR4:=Hd hr;have HPO4:=Hd (zdi _ _ (.level 1) _ _ (show 1<=4 by omega) (λk e=>by cases e;omega) HPO0.o hr);have HPL4:=Hd (za4 _ _ _ _ _ hr);have H4:=Hd ha;have HO4:=Hd (ht.old (jF HPA.o.lt) (λk hk=>by simp[Value.ownBlock] at hk));clear hr hw ha ht;go_wp2_with fail;refine (zc8 W2.heap.size s.length ov4 s4 _ H4.o (by have:=HPL4.o;have:=HN.o;omega)).mono ?_;rintro u w5 ⟨rfl,hb5⟩;have HHD:Hid ((zak s.length s4).kind≠0↔s4.1≠ []):=Hd ⟨ze2,λh=>by
  unfold zak
  cases hl:s4.1 with
  | nil=>exact absurd hl h
  | cons t l=>
   have:=HPO4.o.toks t (by rw[hl];simp);rw[List.head?_cons,Option.getD_some];cases this <;> simp <;> omega⟩
 generalize zak s.length s4=q at HHD ⊢;have H5:=Hd (H4.o.below (hb5.alloc hb5.size (.cells (cTok q).toArray 239)));have HO5:=Hd (HO4.o.trans ((hb5.alloc hb5.size (.cells (cTok q).toArray 239)).mono (by have:=H4.o.lt;omega)));have K5:=Hd (je w5 239 (cTok q).toArray);rw[show (cTok q).toArray=#[.int .u8 q.kind,.int .i64 q.num,str q.text,.int .i64 q.rect.c1,.int .i64 q.rect.r1,.int .i64 q.rect.c2,.int .i64 q.rect.r2,.int .i64 q.at_] from rfl] at H5 HO5 K5 ⊢;have R0:=Hd (Q0.o.below HO5.o HL2.o.1);have R1:=Hd (Q1.o.below HO5.o HL2.o.2.1);have R2:=Hd (Q2.o.below HO5.o HL2.o.2.2);have HB5:=Hd (HBP.o.trans (HO5.o.mono HB2.o.size));obtain ⟨g,hg⟩:=jN w5.heap.size;rw[hg] at K5;obtain ⟨W5,hW5⟩:=jN (w5.alloc (.cells q 239));rw[hW5] at H5 HO5 K5 R0 R1 R2 HB5;go_upto_region 9 with (fail)
 clear hW5 hg hb5;obtain ⟨x0,x7⟩:=K5.o.c2 0 7;by_cases hk0:q.kind=0;rotate_left
 ·have bk:(q.kind != 0)=true:=by simpa using hk0
  have HE:=jM (zat s=([],4)) (by rw[HF.o,HR4.o];simp only;rw[jb (HHD.o.1 hk0)]);clear hk0;go_wp2_with fail;refine (zc9 _ q.at_ 4 _).mono ?_;rintro u w6 ⟨rfl,rfl⟩;unfold flt;go_wp2;refine leaves_cons (f:=223) (args:=#[.pointer (some ⟨w.heap.size,0,none⟩),.pointer (some ⟨w.heap.size+1,0,none⟩),.pointer (some ⟨w.heap.size+1+1,0,none⟩)]) (by simp) (by simp[go_sem]) ?_;refine (zj1 (w.heap.size) (w.heap.size+1) (w.heap.size+1+1) q.at_ 4 _ _ _ _ [] R0.o R1.o R2.o (by omega) (by omega) (by omega)).mono ?_;rintro e u' w9 ⟨rfl,rfl,k0,k1,k2,hc⟩;have z0:=k0.cell 0;have z1:=k1.cell 0;have z2:=k2.cell 0;have HB9:=Hd (HB5.o.trans (hc.to_below (B:=w.heap.size) HB5.o.size (λk hk e=>by omega)));clear hc k0 k1 k2;show Leaves _ _ _ _ [] .returning _;simp only[Leaves];refine ⟨.tuple #[.slice none 0 0,.int .i64 q.at_,.int .i64 4],by simp[results,results197,go_sem,z0,z1,z2],.slice none 0 0,q.at_,by rw[HE.o],by rw[HE.o];exact Sls.nil _ _ _ _ _,HB9.o⟩
 have bk:(q.kind != 0)=false:=by simpa using hk0
 have HNIL:=jM (s4.1=[]) (Classical.not_not.1 (λh=>HHD.o.2 h hk0));have HF5:=jM (zat s=if zb8 s4.2≠0 then ([],zb8 s4.2) else (s4.2,0)) (by rw[HF.o,HR4.o];simp only;rw[ja (by rw[HNIL.o];simp)]);clear hk0;obtain ⟨lv,hbx, -⟩:=H5.o.bx;have y2:W5.cell? (W2,2)=some ov4:=hbx.cell 2;have HS5:=Hd (H5.o.ow.sls (by have:=HPL4.o;have:=HN.o;unfold maxLen;omega));obtain ⟨A4,c4,rfl, -⟩:=id HS5.o;have hfl:s4.2.length<=2000:=by have:=HPL4.o;have:=HN.o;omega
 clear hbx;go_wp2_with fail;refine (zsb _ s4.2 _ _ jy HS5.o hfl HPO4.o.nods).mono ?_;rintro u w6 ⟨rfl,hb6⟩;have S0:=Hd (R0.o.below_ hb6);have S1:=Hd (R1.o.below_ hb6);have S2:=Hd (R2.o.below_ hb6);have HB6:=Hd (jd HB5.o hb6 HB5.o.size);have HS6:=Hd (HS5.o.below hb6);have y2:w6.cell? (W2,2)=some (.slice A4 s4.2.length c4):=(hb6.cell (p:=(W2,2)) H5.o.lt).trans y2;have HZ6:=Hd hb6.size;clear hb6 x0 x7;have d0:=S0.o.cell 0;have d1:=S1.o.cell 0;have d2:=S2.o.cell 0;have e0:w6.frozen? (w,0)=false:=S0.o.frozen 0;have e1:w6.frozen? (w.heap.size+1,0)=false:=S1.o.frozen 0;have e2:w6.frozen? (w.heap.size+1+1,0)=false:=S2.o.frozen 0;by_cases ht0:zb8 s4.2=0
 ·have HE:=Hd (HF5.o.trans (ja (by simpa using ht0)));have bt:(zb8 s4.2 != 0)=false:=by simpa using ht0
  clear ht0;have N0:=Hd (((S0.o.set_ 0 (.slice A4 s4.2.length c4)).far (p:=⟨w.heap.size+1,0,none⟩) (by show w.heap.size≠w.heap.size+1;omega) (.int .i64 0)).far (p:=⟨w.heap.size+1+1,0,none⟩) (by show w.heap.size≠w.heap.size+1+1;omega) (.int .i64 0));have N1:=Hd (((S1.o.far (p:=⟨w.heap.size,0,none⟩) (by show w.heap.size+1≠w.heap.size;omega) (.slice A4 s4.2.length c4)).set_ 0 (.int .i64 0)).far (p:=⟨w.heap.size+1+1,0,none⟩) (by show w.heap.size+1≠w.heap.size+1+1;omega) (.int .i64 0));have N2:=Hd (((S2.o.far (p:=⟨w.heap.size,0,none⟩) (by show w.heap.size+1+1≠w.heap.size;omega) (.slice A4 s4.2.length c4)).far (p:=⟨w.heap.size+1,0,none⟩) (by show w.heap.size+1+1≠w.heap.size+1;omega) (.int .i64 0)).set_ 0 (.int .i64 0));have HC7:=Hd ((((Chg.refl (λk=>k=w.heap.size\/k=w.heap.size+1\/k=w.heap.size+1+1) w6).setCell (p:=⟨w.heap.size,0,none⟩) (.inl (.inl rfl)) (.slice A4 s4.2.length c4)).setCell (p:=⟨w.heap.size+1,0,none⟩) (.inl (.inr (.inl rfl))) (.int .i64 0)).setCell (p:=⟨w.heap.size+1+1,0,none⟩) (.inl (.inr (.inr rfl))) (.int .i64 0));have HB7:=Hd (HB6.o.trans (HC7.o.to_below (B:=w.heap.size) HB6.o.size (λk hk e=>by omega)));go_wp2;obtain ⟨W7,hW7⟩:=jN (((w6.setCell (w,0) (.slice A4 s4.2.length c4)).setCell (w.heap.size+1,0) (.int .i64 0)).setCell (w.heap.size+1+1,0) (.int .i64 0));rw[hW7] at N0 N1 N2 HC7 HB7 ⊢;clear hW7;have z0:=N0.o.cell 0;have z1:=N1.o.cell 0;have z2:=N2.o.cell 0;refine leaves_cons (f:=223) (args:=#[.pointer (some ⟨w.heap.size,0,none⟩),.pointer (some ⟨w.heap.size+1,0,none⟩),.pointer (some ⟨w.heap.size+1+1,0,none⟩)]) (by simp) (by simp[go_sem]) ?_;refine (zog _ _ _ _).mono ?_;rintro e u' w9 ⟨rfl,rfl,rfl⟩;show Leaves _ _ _ _ [] .returning _;simp only[Leaves];have HSL:=Hd ((Sls.chgOwn HS6.o HC7.o HZ6.o (λq hq e=>by have h1:=H5.o.ob q hq;have h2:=HL2.o;omega)).more (jx HZ6.o HC7.o.size));refine ⟨.tuple #[.slice A4 s4.2.length c4,.int .i64 0,.int .i64 0],by simp[results,results197,go_sem,z0,z1,z2],.slice A4 s4.2.length c4,0,by rw[HE.o],by rw[HE.o];exact HSL.o,HB7.o⟩
 have HE:=Hd (HF5.o.trans (jb ht0));have bt:(zb8 s4.2 != 0)=true:=by simpa using ht0
 generalize zb8 s4.2=te at *;clear ht0;have N0:=Hd (((S0.o.set_ 0 (.slice none 0 0)).far (p:=⟨w.heap.size+1,0,none⟩) (by show w.heap.size≠w.heap.size+1;omega) (.int .i64 0)).far (p:=⟨w.heap.size+1+1,0,none⟩) (by show w.heap.size≠w.heap.size+1+1;omega) (.int .i64 te));have N1:=Hd (((S1.o.far (p:=⟨w.heap.size,0,none⟩) (by show w.heap.size+1≠w.heap.size;omega) (.slice none 0 0)).set_ 0 (.int .i64 0)).far (p:=⟨w.heap.size+1+1,0,none⟩) (by show w.heap.size+1≠w.heap.size+1+1;omega) (.int .i64 te));have N2:=Hd (((S2.o.far (p:=⟨w.heap.size,0,none⟩) (by show w.heap.size+1+1≠w.heap.size;omega) (.slice none 0 0)).far (p:=⟨w.heap.size+1,0,none⟩) (by show w.heap.size+1+1≠w.heap.size+1;omega) (.int .i64 0)).set_ 0 (.int .i64 te));have HC7:=Hd ((((Chg.refl (λk=>k=w.heap.size\/k=w.heap.size+1\/k=w.heap.size+1+1) w6).setCell (p:=⟨w.heap.size,0,none⟩) (.inl (.inl rfl)) (.slice none 0 0)).setCell (p:=⟨w.heap.size+1,0,none⟩) (.inl (.inr (.inl rfl))) (.int .i64 0)).setCell (p:=⟨w.heap.size+1+1,0,none⟩) (.inl (.inr (.inr rfl))) (.int .i64 te));have HB7:=Hd (HB6.o.trans (HC7.o.to_below (B:=w.heap.size) HB6.o.size (λk hk e=>by omega)));go_wp2;obtain ⟨W7,hW7⟩:=jN (((w6.setCell (w,0) (.slice none 0 0)).setCell (w.heap.size+1,0) (.int .i64 0)).setCell (w.heap.size+1+1,0) (.int .i64 te));rw[hW7] at N0 N1 N2 HC7 HB7 ⊢;clear hW7;have z0:=N0.o.cell 0;have z1:=N1.o.cell 0;have z2:=N2.o.cell 0;refine leaves_cons (f:=223) (args:=#[.pointer (some ⟨w.heap.size,0,none⟩),.pointer (some ⟨w.heap.size+1,0,none⟩),.pointer (some ⟨w.heap.size+1+1,0,none⟩)]) (by simp) (by simp[go_sem]) ?_;refine (zog _ _ _ _).mono ?_;rintro e u' w9 ⟨rfl,rfl,rfl⟩;show Leaves _ _ _ _ [] .returning _;simp only[Leaves];refine ⟨.tuple #[.slice none 0 0,.int .i64 0,.int .i64 te],by simp[results,results197,go_sem,z0,z1,z2],.slice none 0 0,0,by rw[HE.o],by rw[HE.o];exact Sls.nil _ _ _ _ _,HB7.o⟩
def CodeR (u:Ending):Prop:=∃(c e:Int),u=.returned (.tuple #[.int .i64 c,.int .i64 e])/\0<=c/\c<=7/\(e=0->1<=c)
def NameE:Prop:=∀(k:Nat) (w:World),1<=k->k<=7->Calls prog 290 #[.int .i64 k] w λu w'=>(∃x:zaa,u=.returned (str x))/\Below w w w'
theorem zv7:NameE:=λk w h1 h7=>(zqn k h1 h7 w).mono (by
 rintro u w' ⟨rfl,rfl⟩;exact ⟨⟨_,rfl⟩,jg _ _⟩)
theorem zzb (s:zaa) (w:World) (hs:s.length<=1000000):
 Calls prog 256 #[str s] w λu w'=>CodeR u/\Below w w w':=by
 have HN:=Hd zv7;have HU:=Hd (λw=>zhh s w hs);go_enter func256,ntmps256;go_wp2_with fail;go_loopw [4] (λiv wr=>∃k:Nat,1<=k/\k<=8/\iv=.int .i64 k/\Below w w wr) (λiv _=>8-(intOf iv).toNat)
 case atStart=>exact ⟨1,by omega,by omega,rfl,jg _ _⟩
 rename World=>wr
 obtain ⟨k,h1,h8,rfl,hbw⟩:=hrel;have HBW:=Hd hbw;clear hbw;have hk0:(0:Int)<=(k:Int):=jw _;have hk1:(1:Int)<=(k:Int):=by omega
 by_cases h7:k<=7;rotate_left
 ·have hil:¬(k:Int)<=7:=by omega
  go_wp2;refine jO results256 (v:=.tuple #[.int .i64 0,.int .i64 4]) ?_;exact ⟨⟨0,4,rfl,by omega,by omega,by omega⟩,HBW.o⟩
 have hil:(k:Int)<=7:=by omega
 go_wp2_with fail;refine (HN.o k _ h1 h7).mono ?_;rintro u w2 ⟨⟨x,rfl⟩,hb2⟩;have HB2:=Hd (jd HBW.o hb2 HBW.o.size);clear hb2;go_wp2_with fail;refine (HU.o _).mono ?_;rintro u w3 ⟨rfl,hb3⟩;have HB3:=Hd (jd HB2.o hb3 HB2.o.size);clear hb3;generalize s.map upU=y at *;cases hq:x==y;rotate_left
 ·go_wp2;refine jO results256 (v:=.tuple #[.int .i64 k,.int .i64 0]) ?_;exact ⟨⟨k,0,rfl,by omega,by omega,λ_=>by omega⟩,HB3.o⟩
 go_wp2;exact ⟨⟨k+1,by omega,by omega,by go_num,HB3.o⟩,by simp[intOf];omega⟩
end Go.Proofs.YtamcgggmfghljaaGreatDoor
