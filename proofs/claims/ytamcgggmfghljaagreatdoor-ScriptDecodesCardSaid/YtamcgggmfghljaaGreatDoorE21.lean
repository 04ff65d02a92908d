/- walk -/
import Derived.Lib.LaidTab
import Derived.Stop.LaidErr
import Derived.Great.BuildSlice
import Derived.Test.YtamcgggmfghljaaGreatDoorE17
set_option maxRecDepth 100000
set_option maxHeartbeats 8000000
open Go.Proofs.Tryz
namespace Go.Proofs.YtamcgggmfghljaaGreatDoor
open Go.RowKit
variable {held:Bool} {base fuel n:Nat} {P:Program} {H:Type} {e t:TypeId} {W w:World}
theorem zms {enc:TypeId × Value->H} {sp:Nat->Bool} {cs:List Value} {zs:List zaa} {p:List MemPlace}
 (ht:P.underlying t=some (.array n e)) (he:P.underlying e=some .string) (hce:P.cellsOf e=1) (hct:P.cellsOf t=n)
 (h:DataW.trod enc P w base sp held fuel t cs=some (.agg (zs.map λz=>.lit (.string z)),p)):cs=zs.map λz=>str z:=by
 cases fuel with
 | zero=>simp[DataW.trod] at h
 | succ fuel=>
  simp only[DataW.trod,ht,hce,hct,Nat.mul_one] at h;split at h
  ·rename_i hl;obtain ⟨xs,hm,hx⟩:=Option.map_eq_some_iff.1 h;have hxs:xs.map (·.1)=zs.map λz=>(DataW.lit (.string z):DataW H):=by
    have:=congrArg Prod.fst hx;simpa using this
   have hxl:xs.length=n:=by simpa using Lib.mapM_length hm
   have hzl:zs.length=n:=by have:=congrArg List.length hxs;simp at this;omega
   apply List.ext_getElem?;intro i;by_cases hi:i<n
   ·obtain ⟨b,hb,hf⟩:=Lib.mapM_at hm i i (by simp[hi]);obtain ⟨z,hc,rfl,_⟩:=DataW.trod_string he hf;have h1:cs[i]?=some (.string z):=by
     have:=congrArg (·[0]?) hc;simpa [List.getElem?_take,List.getElem?_drop] using this
    have h2:(xs.map (·.1))[i]?=some (DataW.lit (.string z.data.toList):DataW H):=by simp[hb]
    rw[hxs] at h2;simp only[List.getElem?_map,Option.map_eq_some_iff,DataW.lit.injEq,Lit.string.injEq] at h2;obtain ⟨z',hz',rfl⟩:=h2;simp[h1,hz']
   rw[List.getElem?_eq_none (by omega),List.getElem?_eq_none (by simp;omega)]
  cases h
theorem zr7 {a b c:String × DataW Unit} (h:laidMet prog [a,b,c,("louvre/val.words",.agg (zi2.map λz=>.lit (.string z)))] W):Words W:=by
 obtain ⟨ps,⟨g',t',cs,fuel,p,q,hg',ht',hvar,hd,_,_⟩,_⟩:=h.tail.tail.tail;have hg:prog.globalNamed "louvre/val.words"=some 0:=by kernel_rfl
 have hty:(prog.globals[0]?).map (·.type)=some 257:=by kernel_rfl
 obtain rfl:=Option.some.inj (hg.symm.trans hg');obtain rfl:=Option.some.inj (hty.symm.trans ht');have hcs:=zms underlying257 underlying9 (by kernel_rfl) (by kernel_rfl) hd;have hv:W.var? prog "louvre/val.words"=some (zi2.map λz=>str z).toArray:=by rw[hvar,<- hcs]
 refine ⟨λj s hj=>World.var?_cell hg hv j |>.trans ?_,?_⟩
 ·simp[hj]
 rcases Nat.lt_or_ge 0 W.heap.size with h | h
 ·exact h
 simp only[World.var?,hg,Option.bind_some] at hv;rw[Array.getElem?_eq_none h] at hv;simp at hv
def pow10T:List Value:=[1,10,100,1000,10000,100000,1000000,10000000,100000000,1000000000,10000000000,100000000000,1000000000000,10000000000000,100000000000000,1000000000000000,10000000000000000,100000000000000000,1000000000000000000,10000000000000000000].map λz=>.int .u64 z
def zxg:List Value:=[0,1,28,2,29,14,24,3,30,22,20,15,25,17,4,8,31,27,13,23,21,19,16,7,26,12,18,6,11,5,10,9].map λz=>.int .u8 z
def zxf:List Value:=[0,1,56,2,57,49,28,3,61,58,42,50,38,29,17,4,62,47,59,36,45,43,51,22,53,39,33,30,24,18,12,5,63,55,48,27,60,41,37,16,46,35,44,21,52,32,23,11,54,26,40,15,34,20,31,10,25,14,19,9,13,8,7,6].map λz=>.int .u8 z
def zz6 (g:Nat) (l:List Value) (h:Array Obj):Array Obj:=h.modify g fun
 | .cells _ t frozen=>.cells l.toArray t frozen
 | o=>o
def lay4 (h:Array Obj):Array Obj:=zz6 0 (zi2.map λz=>str z) (zz6 1 pow10T (zz6 2 zxg (zz6 3 zxf h)))
theorem z07 (e:Int) (f k:Nat) (hk:k<=4) (hl:RunS 251 (lev1 (k+1)) e f (.level (k+1))) (p:Nat) (ov:Value) (st:PSt) (W:World) (b2 b3:Nat) (h:PA W p e ov st) (hn:st.1.length+st.2.length<=2000) (hf:zbg (.level (k+1)) st.1.length<=f)
 (h2:W.cell? (b2,0)=some (.pointer (some (p,0)))) (h3:W.cell? (b3,0)=some (.int .i64 k)):
 Calls prog 285 (aQ b2 b3) W (Went p e W ov (parS e f (.level (k+1)) st)):=by
 have HH:=Hd h;have HC:=Hd (hl p ov st W h hn hf);have k0:(0:Int)<=(k:Int):=by omega
 have k4:(k:Int)<=4:=by omega
 clear h hl;unfold lev1 at HC;rw[show ((k+1:Nat):Int)=(k:Int)+1 by omega] at HC;generalize hR:parS e f (.level (k+1)) st=R at HC ⊢;clear hR;go_enter func285,ntmps285;go_wp2_with fail;refine HC.o.mono ?_;intro u w1 hw;rcases zaz hw with ⟨s1,ov1,hr,rfl,ha,ht⟩ | ⟨a,er,hr,rfl,hb⟩
 ·have HR2:=Hd hr;have H1:=Hd ha;have T1:=Hd ht;clear hr ha ht hw;go_wp2;refine bE ?_;exact zbn HR2.o H1.o T1.o
 have HR2:=Hd hr;have HB:=Hd hb;clear hr hw hb;unfold flt;go_wp2;exact ⟨rfl,zay HR2.o HB.o⟩
theorem zwh (e:Int) (f k:Nat) (hk1:1<=k) (hk:k<4) (hl:∀f',f'<=f->RunS 251 (lev1 (k+1)) e f' (.level (k+1))):
 RunS 251 (lev1 k) e (f+1) (.level k):=by
 intro p ov st W h hn hf;have HL:=Hd hl;have HH:=Hd h;have HLT:=Hd h.lt;have HOV:=jM (∀q,W.heap.size<=q->ov.ownBlock≠some q) (λq hq e=>by have:=h.ow.lt _ e;omega);simp only[zbg] at hf;have HR:Hid (parS e (f+1) (.level k) st=thenS (parS e f (.level (k+1)) st) (parS e f (.loop k))):=Hd (by show thenS (parS e f (if k<4 then .level (k+1) else .sign) st) _=_;rw[jb hk]);have HLP:Hid (∀f s,parS e (f+1) (.loop k) s=if (zak e s).kind≠8\/zb4 (zak e s).num≠k then .ok s else thenS (parS e f (.level (k+1)) (zap s)) λst'=>parS e f (.loop k) (putS { nod0 6 with op:=(zak e s).num } st')):=Hd (λf s=>by
  show (if _ then _ else thenS (parS e f (if k<4 then .level (k+1) else .sign) (zap s)) _)=_;rw[jb hk])
 generalize parS e (f+1) (.level k) st=R at HR ⊢;clear hl h;have KB2:=Hd ((je W 235 (aP p)).alloc (.cells #[.int .i64 k] 3));have KB3:=Hd (show Blk ((W.alloc (.cells (aP p) 235)).alloc (.cells #[.int .i64 k] 3)) (W.heap.size+1) 3 #[.int .i64 k] by
  have:=je (W.alloc (.cells (aP p) 235)) 3 #[.int .i64 k];simpa using this)
 have HB0:=jM (Below W W ((W.alloc (.cells (aP p) 235)).alloc (.cells #[.int .i64 k] 3))) (by go_grown);have SZ:Hid (((W.alloc (.cells (aP p) 235)).alloc (.cells #[.int .i64 k] 3)).heap.size=W.heap.size+1+1):=Hd (by simp);have hmf:∀(fn:Fn) (first cap:Array Value) (w:World),(Instr.makeFunc fn first cap).run prog w=.ok (.func fn first cap) w:=λ_ _ _ _=>rfl;have k0:(0:Int)<=(k:Int):=by omega
 have k4:(k:Int)<4:=by omega
 unfold lev1;go_enter func251,ntmps251;go_upto_region 1 with (fail)
 obtain ⟨W2,hW2⟩:=jN ((W.alloc (.cells (aP p) 235)).alloc (.cells #[.int .i64 k] 3));rw[hW2] at KB2 KB3 HB0 SZ ⊢;clear hW2;have y2:=KB2.o.cell 0;have y3:=KB3.o.cell 0;have H1:=Hd (HH.o.below HB0.o);go_wp2_with fail;refine (z07 e (f) k (by omega) (HL.o (f) (by omega)) p ov st _ _ _ H1.o hn (by simp only[zbg];omega) y2 y3).mono ?_;intro u w3 hw;rcases zaz hw with ⟨s3,ov3,hr,rfl,ha,ht⟩ | ⟨a,er,hr,rfl,hb⟩
 ·have HLE:=Hd (za4 e f _ _ _ hr);have HR1:=jM (R=parS e f (.loop k) s3) (by rw[HR.o,hr];rfl);have H3:=Hd ha;have T3:=Hd ht;clear ha ht hr hw HR y2 y3;go_wp2_with fail;go_loopw [6] (λ_ wr=>∃f' s' ov',R=parS e f' (.loop k) s'/\10*s'.1.length+2*(5-k)+2<=f'/\f'<=f/\s'.1.length+s'.2.length<=2000/\PA wr p e ov' s'/\PTo p W2 ov wr ov') (λ_ wr=>ztl p wr)
  case atStart=>exact ⟨f,s3,ov3,HR1.o,by have:=HLE.o;simp only[za0] at this;omega,Nat.le_refl _,by have:=HLE.o;omega,H3.o,T3.o⟩
  obtain ⟨f',s',ov',hr,hf',hff,hn',ha,ht⟩:=hrel;obtain ⟨f2,rfl⟩:∃f2,f'=f2+1:=⟨f'-1,by omega⟩;have HR2:=Hd (hr.trans (HLP.o f2 s'));have H4:=Hd ha;have T4:=Hd ht;have HLA:=Hd (zet ha);have HLW:=Hd ha.lt;have q2:=ht.blk KB2.o (by have:=HLT.o;omega) (HOV.o _ jy);have q3:=ht.blk KB3.o (by have:=HLT.o;omega) (HOV.o _ (Nat.le_succ _));have z2:=q2.cell 0;have Q2:=Hd q2;have Q3:=Hd q3;have HOW:=jM (∀q,wr.heap.size<=q->ov'.ownBlock≠some q) (λq hq e=>by have:=ha.ow.lt _ e;omega);clear hr ha ht q2 q3;go_wp2_with fail;refine (zc8 p e ov' s' _ H4.o (by omega)).mono ?_;rintro u w5 ⟨rfl,hb5⟩;have HN:Hid ((zak e s').kind≠0->s'.1≠ []):=Hd ze2;generalize zak e s'=t at HR2 HN ⊢;have K5:=Hd (je w5 239 (cTok t).toArray);have HB5:=jM (Below wr wr (w5.alloc (.cells (cTok t).toArray 239))) (hb5.alloc hb5.size _);have HS5:=Hd hb5.size;clear hb5 z2;have H5:=Hd (H4.o.below HB5.o);have T5:=Hd (PTo.below T4.o HB5.o);have P2:=Hd (Q2.o.below_ HB5.o);have P3:=Hd (Q3.o.below_ HB5.o);obtain ⟨W5,hW5⟩:=jN (w5.alloc (.cells (cTok t).toArray 239));rw[hW5] at K5 HB5 H5 T5 P2 P3;rw[show (cTok t).toArray=#[.int .u8 t.kind,.int .i64 t.num,str t.text,.int .i64 t.rect.c1,.int .i64 t.rect.r1,.int .i64 t.rect.c2,.int .i64 t.rect.r2,.int .i64 t.at_] from rfl] at hW5 ⊢;obtain ⟨g,hg⟩:∃g,g=w5.heap.size:=⟨_,rfl⟩;rw[<- hg] at K5 HS5;have HGN:=jM (g≠p) (by have:=HLW.o;have:=HS5.o;omega);have HGO:=Hd (HOW.o g HS5.o);go_upto_region 6 with (fail)
  rw[<- hg];clear hW5 hg;obtain ⟨x0,x1⟩:W5.cell? (g,0)=some (.int .u8 t.kind)/\W5.cell? (g,1)=some (.int .i64 t.num):=K5.o.c2 0 1;by_cases h8:t.kind=8;rotate_left
  ·have b8:(t.kind != 8)=true:=by simpa using h8
   have HR3:=Hd (HR2.o.trans (jb (.inl h8)));clear h8 HR2;go_wp2;refine bR ?_;exact zbn HR3.o H5.o ((PTo.below (PTo.refl p W ov) HB0.o).trans T5.o)
  have b8:(t.kind != 8)=false:=by simpa using h8
  have hne:=HN.o (by omega);have hpos:1<=s'.1.length:=List.length_pos_iff.2 hne;have H8:=Hd h8;clear h8;go_wp2_with fail;refine (znv t.num _).mono ?_;rintro u w6 ⟨⟨bb,ee,rfl⟩,rfl⟩;have z2:=P2.o.cell 0;have z3:=P3.o.cell 0;generalize hbn:zb4 t.num=bn at HR2 ⊢;clear hbn;by_cases hbk:bn=k;rotate_left
  ·have bk:(bn != (k:Int))=true:=by simpa using hbk
   have HR3:=Hd (HR2.o.trans (jb (.inr hbk)));clear hbk HR2;go_wp2;refine bR ?_;exact zbn HR3.o H5.o ((PTo.below (PTo.refl p W ov) HB0.o).trans T5.o)
  have bk:(bn != (k:Int))=false:=by simpa using hbk
  have HR3:=Hd (HR2.o.trans (ja (by rw[not_or];exact ⟨λh=>h H8.o,λh=>h hbk⟩)));clear hbk HR2;go_wp2_with fail;refine (zb5 p e ov' s' _ H5.o (by omega) hne).mono ?_;rintro u w7 ⟨rfl,ha,ht⟩;have H7:=Hd ha;have T7:=Hd (T5.o.trans ht);have K7:=Hd (ht.blk K5.o HGN.o HGO.o);clear ha ht z2 z3;have u2:w7.cell? (W,0)=some (.pointer (some (p,0))):=(T7.o.blk KB2.o (by have:=HLT.o;omega) (HOV.o _ jy)).cell 0;have u3:w7.cell? (W.heap.size+1,0)=some (.int .i64 k):=(T7.o.blk KB3.o (by have:=HLT.o;omega) (HOV.o _ (Nat.le_succ _))).cell 0;go_wp2_with fail;refine (z07 e (f2) k (by omega) (HL.o (f2) (by omega)) p ov' (zap s') _ _ _ H7.o (by rw[zai,zah];omega) (by simp only[zbg,zai];omega) u2 u3).mono ?_;intro u w8 hw;rcases zaz hw with ⟨s8,ov8,hr,rfl,ha,ht⟩ | ⟨a,er,hr,rfl,hb⟩
  ·have HL8:=Hd (za4 e f2 _ _ _ hr);have HR4:=jM (R=parS e f2 (.loop k) (putS { nod0 6 with op:=t.num } s8)) (by rw[HR3.o,hr];rfl);have H8':=Hd ha;have T8:=Hd (T7.o.trans ht);have K8:=Hd (ht.blk K7.o HGN.o HGO.o);clear ha ht hr hw u2 u3;have v2:w8.cell? (W,0)=some (.pointer (some (p,0))):=(T8.o.blk KB2.o (by have:=HLT.o;omega) (HOV.o _ jy)).cell 0;have v1:w8.cell? (g,1)=some (.int .i64 t.num):=K8.o.cell 1;go_wp2_with fail;refine (zeg p e ov8 s8 { nod0 6 with op:=t.num } _ H8'.o (by have:=HL8.o;rw[zai,zah] at this;omega)).mono ?_;rintro u w9 ⟨rfl,ov9,ha,ht⟩;have H9:=Hd ha;have T9:=Hd (T8.o.trans ht);have hl9:=zet ha;rw[zcn] at hl9;have HL9:=Hd hl9;clear ha ht hl9 v2 v1;go_wp2;exact ⟨⟨f2,_,ov9,HR4.o,by have:=HL8.o;rw[zcn];simp only[zai,za0] at this;omega,by omega,by have:=HL8.o;rw[zcn,zcf];simp only[zai,zah,za0] at this;omega,H9.o,T9.o⟩,by rw[HL9.o,HLA.o];have:=HL8.o;simp only[zai,za0] at this;omega⟩
  have HR4:=jM (R=.error (a,er)) (by rw[HR3.o,hr];rfl);have HB8:=Hd ((HB0.o.mono (jF HLT.o)).trans ((T7.o.old' H1.o).trans hb));clear hr hw hb;unfold flt;go_wp2;exact ⟨rfl,zay HR4.o HB8.o⟩
 have HR3:=jM (R=.error (a,er)) (by rw[HR.o,hr];rfl);have HB3:=Hd ((HB0.o.mono (jF HLT.o)).trans hb);clear hr hw hb;unfold flt;go_wp2;exact ⟨rfl,zay HR3.o HB3.o⟩
theorem ztj (e:Int) (f k:Nat) (hk1:1<=k) (hk:k=4) (hl:∀f',f'<=f->RunS 284 one1 e f' .sign):
 RunS 251 (lev1 k) e (f+1) (.level k):=by
 intro p ov st W h hn hf;have HL:=Hd hl;have HH:=Hd h;have HLT:=Hd h.lt;have HOV:=jM (∀q,W.heap.size<=q->ov.ownBlock≠some q) (λq hq e=>by have:=h.ow.lt _ e;omega);simp only[zbg] at hf;have HR:Hid (parS e (f+1) (.level k) st=thenS (parS e f (.sign) st) (parS e f (.loop k))):=Hd (by show thenS (parS e f (if k<4 then .level (k+1) else .sign) st) _=_;rw[jS]);have HLP:Hid (∀f s,parS e (f+1) (.loop k) s=if (zak e s).kind≠8\/zb4 (zak e s).num≠k then .ok s else thenS (parS e f (.sign) (zap s)) λst'=>parS e f (.loop k) (putS { nod0 6 with op:=(zak e s).num } st')):=Hd (λf s=>by
  show (if _ then _ else thenS (parS e f (if k<4 then .level (k+1) else .sign) (zap s)) _)=_;rw[ja (show ¬k<4 by omega)])
 generalize parS e (f+1) (.level k) st=R at HR ⊢;clear hl h;have KB2:=Hd ((je W 235 (aP p)).alloc (.cells #[.int .i64 k] 3));have KB3:=Hd (show Blk ((W.alloc (.cells (aP p) 235)).alloc (.cells #[.int .i64 k] 3)) (W.heap.size+1) 3 #[.int .i64 k] by
  have:=je (W.alloc (.cells (aP p) 235)) 3 #[.int .i64 k];simpa using this)
 have HB0:=jM (Below W W ((W.alloc (.cells (aP p) 235)).alloc (.cells #[.int .i64 k] 3))) (by go_grown);have SZ:Hid (((W.alloc (.cells (aP p) 235)).alloc (.cells #[.int .i64 k] 3)).heap.size=W.heap.size+1+1):=Hd (by simp);have hmf:∀(fn:Fn) (first cap:Array Value) (w:World),(Instr.makeFunc fn first cap).run prog w=.ok (.func fn first cap) w:=λ_ _ _ _=>rfl;have k0:(0:Int)<=(k:Int):=by omega
 have k4:¬(k:Int)<4:=by omega
 have hk5:k<=4:=by omega
 clear hk;unfold lev1;go_enter func251,ntmps251;go_upto_region 1 with (fail)
 obtain ⟨W2,hW2⟩:=jN ((W.alloc (.cells (aP p) 235)).alloc (.cells #[.int .i64 k] 3));rw[hW2] at KB2 KB3 HB0 SZ ⊢;clear hW2;have y2:=KB2.o.cell 0;have y3:=KB3.o.cell 0;have H1:=Hd (HH.o.below HB0.o);go_wp2_with fail;refine (HL.o (f) (by omega) p ov st _ H1.o hn (by simp only[zbg];omega)).mono ?_;intro u w3 hw;rcases zaz hw with ⟨s3,ov3,hr,rfl,ha,ht⟩ | ⟨a,er,hr,rfl,hb⟩
 ·have HLE:=Hd (za4 e f _ _ _ hr);have HR1:=jM (R=parS e f (.loop k) s3) (by rw[HR.o,hr];rfl);have H3:=Hd ha;have T3:=Hd ht;clear ha ht hr hw HR y2 y3;go_wp2_with fail;go_loopw [6] (λ_ wr=>∃f' s' ov',R=parS e f' (.loop k) s'/\10*s'.1.length+2*(5-k)+2<=f'/\f'<=f/\s'.1.length+s'.2.length<=2000/\PA wr p e ov' s'/\PTo p W2 ov wr ov') (λ_ wr=>ztl p wr)
  case atStart=>exact ⟨f,s3,ov3,HR1.o,by have:=HLE.o;simp only[za0] at this;omega,Nat.le_refl _,by have:=HLE.o;omega,H3.o,T3.o⟩
  obtain ⟨f',s',ov',hr,hf',hff,hn',ha,ht⟩:=hrel;obtain ⟨f2,rfl⟩:∃f2,f'=f2+1:=⟨f'-1,by omega⟩;have HR2:=Hd (hr.trans (HLP.o f2 s'));have H4:=Hd ha;have T4:=Hd ht;have HLA:=Hd (zet ha);have HLW:=Hd ha.lt;have q2:=ht.blk KB2.o (by have:=HLT.o;omega) (HOV.o _ jy);have q3:=ht.blk KB3.o (by have:=HLT.o;omega) (HOV.o _ (Nat.le_succ _));have z2:=q2.cell 0;have Q2:=Hd q2;have Q3:=Hd q3;have HOW:=jM (∀q,wr.heap.size<=q->ov'.ownBlock≠some q) (λq hq e=>by have:=ha.ow.lt _ e;omega);clear hr ha ht q2 q3;go_wp2_with fail;refine (zc8 p e ov' s' _ H4.o (by omega)).mono ?_;rintro u w5 ⟨rfl,hb5⟩;have HN:Hid ((zak e s').kind≠0->s'.1≠ []):=Hd ze2;generalize zak e s'=t at HR2 HN ⊢;have K5:=Hd (je w5 239 (cTok t).toArray);have HB5:=jM (Below wr wr (w5.alloc (.cells (cTok t).toArray 239))) (hb5.alloc hb5.size _);have HS5:=Hd hb5.size;clear hb5 z2;have H5:=Hd (H4.o.below HB5.o);have T5:=Hd (PTo.below T4.o HB5.o);have P2:=Hd (Q2.o.below_ HB5.o);have P3:=Hd (Q3.o.below_ HB5.o);obtain ⟨W5,hW5⟩:=jN (w5.alloc (.cells (cTok t).toArray 239));rw[hW5] at K5 HB5 H5 T5 P2 P3;rw[show (cTok t).toArray=#[.int .u8 t.kind,.int .i64 t.num,str t.text,.int .i64 t.rect.c1,.int .i64 t.rect.r1,.int .i64 t.rect.c2,.int .i64 t.rect.r2,.int .i64 t.at_] from rfl] at hW5 ⊢;obtain ⟨g,hg⟩:∃g,g=w5.heap.size:=⟨_,rfl⟩;rw[<- hg] at K5 HS5;have HGN:=jM (g≠p) (by have:=HLW.o;have:=HS5.o;omega);have HGO:=Hd (HOW.o g HS5.o);go_upto_region 6 with (fail)
  rw[<- hg];clear hW5 hg;obtain ⟨x0,x1⟩:W5.cell? (g,0)=some (.int .u8 t.kind)/\W5.cell? (g,1)=some (.int .i64 t.num):=K5.o.c2 0 1;by_cases h8:t.kind=8;rotate_left
  ·have b8:(t.kind != 8)=true:=by simpa using h8
   have HR3:=Hd (HR2.o.trans (jb (.inl h8)));clear h8 HR2;go_wp2;refine bR ?_;exact zbn HR3.o H5.o ((PTo.below (PTo.refl p W ov) HB0.o).trans T5.o)
  have b8:(t.kind != 8)=false:=by simpa using h8
  have hne:=HN.o (by omega);have hpos:1<=s'.1.length:=List.length_pos_iff.2 hne;have H8:=Hd h8;clear h8;go_wp2_with fail;refine (znv t.num _).mono ?_;rintro u w6 ⟨⟨bb,ee,rfl⟩,rfl⟩;have z2:=P2.o.cell 0;have z3:=P3.o.cell 0;generalize hbn:zb4 t.num=bn at HR2 ⊢;clear hbn;by_cases hbk:bn=k;rotate_left
  ·have bk:(bn != (k:Int))=true:=by simpa using hbk
   have HR3:=Hd (HR2.o.trans (jb (.inr hbk)));clear hbk HR2;go_wp2;refine bR ?_;exact zbn HR3.o H5.o ((PTo.below (PTo.refl p W ov) HB0.o).trans T5.o)
  have bk:(bn != (k:Int))=false:=by simpa using hbk
  have HR3:=Hd (HR2.o.trans (ja (by rw[not_or];exact ⟨λh=>h H8.o,λh=>h hbk⟩)));clear hbk HR2;go_wp2_with fail;refine (zb5 p e ov' s' _ H5.o (by omega) hne).mono ?_;rintro u w7 ⟨rfl,ha,ht⟩;have H7:=Hd ha;have T7:=Hd (T5.o.trans ht);have K7:=Hd (ht.blk K5.o HGN.o HGO.o);clear ha ht z2 z3;have u2:w7.cell? (W,0)=some (.pointer (some (p,0))):=(T7.o.blk KB2.o (by have:=HLT.o;omega) (HOV.o _ jy)).cell 0;have u3:w7.cell? (W.heap.size+1,0)=some (.int .i64 k):=(T7.o.blk KB3.o (by have:=HLT.o;omega) (HOV.o _ (Nat.le_succ _))).cell 0;go_wp2_with fail;refine (HL.o (f2) (by omega) p ov' (zap s') _ H7.o (by rw[zai,zah];omega) (by simp only[zbg,zai];omega)).mono ?_;intro u w8 hw;rcases zaz hw with ⟨s8,ov8,hr,rfl,ha,ht⟩ | ⟨a,er,hr,rfl,hb⟩
  ·have HL8:=Hd (za4 e f2 _ _ _ hr);have HR4:=jM (R=parS e f2 (.loop k) (putS { nod0 6 with op:=t.num } s8)) (by rw[HR3.o,hr];rfl);have H8':=Hd ha;have T8:=Hd (T7.o.trans ht);have K8:=Hd (ht.blk K7.o HGN.o HGO.o);clear ha ht hr hw u2 u3;have v2:w8.cell? (W,0)=some (.pointer (some (p,0))):=(T8.o.blk KB2.o (by have:=HLT.o;omega) (HOV.o _ jy)).cell 0;have v1:w8.cell? (g,1)=some (.int .i64 t.num):=K8.o.cell 1;go_wp2_with fail;refine (zeg p e ov8 s8 { nod0 6 with op:=t.num } _ H8'.o (by have:=HL8.o;rw[zai,zah] at this;omega)).mono ?_;rintro u w9 ⟨rfl,ov9,ha,ht⟩;have H9:=Hd ha;have T9:=Hd (T8.o.trans ht);have hl9:=zet ha;rw[zcn] at hl9;have HL9:=Hd hl9;clear ha ht hl9 v2 v1;go_wp2;exact ⟨⟨f2,_,ov9,HR4.o,by have:=HL8.o;rw[zcn];simp only[zai,za0] at this;omega,by omega,by have:=HL8.o;rw[zcn,zcf];simp only[zai,zah,za0] at this;omega,H9.o,T9.o⟩,by rw[HL9.o,HLA.o];have:=HL8.o;simp only[zai,za0] at this;omega⟩
  have HR4:=jM (R=.error (a,er)) (by rw[HR3.o,hr];rfl);have HB8:=Hd ((HB0.o.mono (jF HLT.o)).trans ((T7.o.old' H1.o).trans hb));clear hr hw hb;unfold flt;go_wp2;exact ⟨rfl,zay HR4.o HB8.o⟩
 have HR3:=jM (R=.error (a,er)) (by rw[HR.o,hr];rfl);have HB3:=Hd ((HB0.o.mono (jF HLT.o)).trans hb);clear hr hw hb;unfold flt;go_wp2;exact ⟨rfl,zay HR3.o HB3.o⟩
def arg1 (fn n:Nat) (p:Nat):Array Value:=#[.pointer (some (p,0)),.int .u8 fn,.int .i64 n]
theorem arg_ok (e:Int) (f fn n:Nat) (h1:1<=fn) (h2:fn<=50) (hn2:n<=2000) (hl:RunS 224 one1 e f (.level 1)):
 RunS 356 (arg1 fn n) e (f+1) (.arg fn n):=by
 intro p ov st W h hn hf;have HFO:=Hd hl;have HH:=Hd h;simp only[zbg] at hf;have HWI:Hid (∀W:World,Calls prog 327 #[.int .u8 fn,.int .i64 n] W λu W'=>u=.returned (.tuple #[.bool (zcm fn n).1,.int .i64 (zcm fn n).2])/\W=W'):=Hd (λW=>zm4 fn n h1 h2 hn2 W);generalize ht:zak e st=t;have HR:Hid (parS e (f+1) (.arg fn n) st=if t.kind≠6 then parS e f (.level 1) st
  else if (zcm fn n).1=false\/(zcm fn n).2≠0 then .error (t.at_,4)
  else .ok (putS { nod0 3 with rect:=t.rect } (zap st))):=Hd (by subst ht;rfl)
 generalize parS e (f+1) (.arg fn n) st=R at HR ⊢;generalize zcm fn n=wd at HWI HR;obtain ⟨wb,we⟩:=wd;have HN:Hid (t.kind≠0->st.1≠ []):=Hd (by rw[<- ht];exact ze2);have HLT:=Hd h.lt;have HOV:=jM (∀k,W.heap.size<=k->ov.ownBlock≠some k) (λk hk e=>by have:=h.ow.lt _ e;omega);clear hl h;unfold arg1;go_enter func356,ntmps356;go_wp2_with fail;refine (zc8 p e ov st _ HH.o (by omega)).mono ?_;rintro u w1 ⟨rfl,hb1⟩;rw[ht];clear ht;have K1:=Hd (je w1 239 (cTok t).toArray);have HB2:=jM (Below W W (w1.alloc (.cells (cTok t).toArray 239))) (hb1.alloc hb1.size _);have HS1:=Hd hb1.size;clear hb1;have H1:=Hd (HH.o.below HB2.o);have T1:=Hd (PTo.below (PTo.refl p W ov) HB2.o);obtain ⟨W1,hW1⟩:=jN (w1.alloc (.cells (cTok t).toArray 239));rw[hW1] at K1 HB2 H1 T1;rw[show (cTok t).toArray=#[.int .u8 t.kind,.int .i64 t.num,str t.text,.int .i64 t.rect.c1,.int .i64 t.rect.r1,.int .i64 t.rect.c2,.int .i64 t.rect.r2,.int .i64 t.at_] from rfl] at hW1 ⊢;obtain ⟨g,hg⟩:∃g,g=w1.heap.size:=⟨_,rfl⟩;rw[<- hg] at K1 HS1;have HGN:=jM (g≠p) (by have:=HLT.o;have:=HS1.o;omega);have HGO:=Hd (HOV.o g HS1.o);go_upto_region 1 with (fail)
 rw[<- hg];clear hW1 hg;obtain ⟨x0,x7⟩:W1.cell? (g,0)=some (.int .u8 t.kind)/\W1.cell? (g,7)=some (.int .i64 t.at_):=K1.o.c2 0 7;by_cases h6:t.kind=6;rotate_left
 ·have b6:(t.kind != 6)=true:=by simpa using h6
  have HR2:=Hd (HR.o.trans (jb h6));clear h6 HR;go_wp2_with fail;refine (HFO.o p ov st _ H1.o hn (by simp only[zbg];omega)).mono ?_;intro u w2 hw;rcases zaz hw with ⟨s2,ov2,hr,rfl,ha,ht⟩ | ⟨a,er,hr,rfl,hb⟩
  ·have HR3:=Hd (HR2.o.trans hr);have H2:=Hd ha;have T2:=Hd (T1.o.trans ht);clear ha ht hr hw;go_wp2;refine bR ?_;exact zbn HR3.o H2.o T2.o
  have HR3:=Hd (HR2.o.trans hr);have HB3:=Hd ((T1.o.old' HH.o).trans hb);clear hr hw hb;unfold flt;go_wp2;exact ⟨rfl,zay HR3.o HB3.o⟩
 have b6:(t.kind != 6)=false:=by simpa using h6
 have hne:=HN.o (by omega);have HR2:=Hd (HR.o.trans (ja (by simpa using h6)));clear h6 HR;go_wp2_with fail;refine (HWI.o _).mono ?_;rintro u w2 ⟨rfl,rfl⟩;by_cases hw:wb=false\/we≠0
 ·have HR3:=Hd (HR2.o.trans (jb hw));have HX:Hid (wb=false\/we≠0):=Hd hw;clear hw HR2;rcases Bool.eq_false_or_eq_true wb with hwb | hwb
  ·have he:(we != 0)=true:=by
    rcases HX.o with h | h
    ·rw[hwb] at h;cases h
    simpa using h
   subst hwb;clear HX;go_wp2_with fail;refine (zc9 _ t.at_ 4 _).mono ?_;rintro u w3 ⟨rfl,rfl⟩;unfold flt;go_wp2;exact ⟨rfl,zay HR3.o (T1.o.old' HH.o)⟩
  subst hwb;clear HX;go_wp2_with fail;refine (zc9 _ t.at_ 4 _).mono ?_;rintro u w3 ⟨rfl,rfl⟩;unfold flt;go_wp2;exact ⟨rfl,zay HR3.o (T1.o.old' HH.o)⟩
 have HR3:=Hd (HR2.o.trans (ja hw));obtain ⟨ha,hb⟩:=not_or.1 hw;have hwb:wb=true:=eq_true_of_ne_false ha;have hwe:we=0:=Decidable.not_not.1 hb;subst hwb hwe;clear hw ha hb HR2;go_wp2_with fail;refine (zb5 p e ov st _ H1.o (by omega) hne).mono ?_;rintro u w3 ⟨rfl,ha,ht⟩;have H2:=Hd ha;have T2:=Hd (T1.o.trans ht);have K2:=Hd (ht.blk K1.o HGN.o HGO.o);clear ha ht;obtain ⟨y3,y4,y5,y6⟩:w3.cell? (g,3)=some (.int .i64 t.rect.c1)/\w3.cell? (g,4)=some (.int .i64 t.rect.r1)/\w3.cell? (g,5)=some (.int .i64 t.rect.c2)/\w3.cell? (g,6)=some (.int .i64 t.rect.r2):=K2.o.c4 3 4 5 6;go_wp2_with fail;refine (zeg p e ov (zap st) { nod0 3 with rect:=t.rect } _ H2.o (by rw[zah];omega)).mono ?_;rintro u w4 ⟨rfl,ov3,ha,ht⟩;have H3:=Hd ha;have T3:=Hd (T2.o.trans ht);clear ha ht;go_wp2;refine bE ?_;exact zbn HR3.o H3.o T3.o
def zbt:Array Value:=(zbo.map str).toArray
theorem zsa (W:World):Calls prog 364 #[] W λu W'=>u=.returned (.agg zbt)/\Below W W W':=by
 go_enter func364,ntmps364;go_upto_region 1 with (fail)
 apply wp_region_lit;refine wpList_buildTo rfl 355 _ rfl (some 1) rfl zbt (by kernel_rfl) ?_;refine wpList_store_row rfl 355 (.tmp 0) (.tmp 1) rfl W.heap.size zbt rfl rfl 355 _ (heap_alloc_new W _) (by kernel_rfl) (by kernel_rfl) (by kernel_rfl) ?_;rw[zkr];refine wpList_nil ?_;have HB:=jM (Below W W (W.alloc (.cells zbt 355))) (by go_grown);refine (by assumption:∀(a:Act) (w:World),Code.wp prog Code.ret _ a w->_) _ _ ?_;refine wp_ret ?_;refine jD (results_cell_row rfl _ _ W.heap.size 355 zbt (0,0) _ (by rfl) (heap_alloc_new W _) underlying355 rfl (by kernel_rfl)) rfl ?_;exact ⟨rfl,HB.o⟩
def cStr (b:zaa):List Value:=[str b]
def idxS (l:List zaa) (s:zaa):Int:=if l.contains s then (l.idxOf s:Int) else -1
theorem z09 (s:zaa):∀(l:List zaa) (k:Nat),k<l.idxOf s->l[k]?≠some s
 | [],k,h=>by simp
 | x::l,0,h=>by
  intro e;simp at e;subst e;simp at h
 | x::l,k+1,h=>by
  rw[List.idxOf_cons] at h;by_cases hx:x=s
  ·simp[hx] at h
  have hx':(x==s)=false:=by simpa using hx
  rw[hx'] at h;simp at h;simpa using z09 s l k h
theorem z3i (l:List zaa) (s:zaa) (k:Nat) (hk:l[k]?=some s) (h:∀j,j<k->l[j]?≠some s):idxS l s=k:=by
 have hlt:=(jE.1 hk).1;have hm:s∈l:=List.mem_of_getElem? hk;unfold idxS;rw[jb (by simpa using hm)];have h1:l.idxOf s<l.length:=List.idxOf_lt_length_of_mem hm;have h2:l[l.idxOf s]?=some s:=by rw[jz h1,List.getElem_idxOf]
 rcases Nat.lt_trichotomy (l.idxOf s) k with c | c | c
 ·exact absurd h2 (h _ c)
 ·rw[c]
 exact absurd hk (z09 s l k c)
theorem z0d (l:List zaa) (s:zaa) (h:∀j,j<l.length->l[j]?≠some s):idxS l s= -1:=by
 unfold idxS;rw[ja];intro hc;have hm:s∈l:=by simpa using hc
 obtain ⟨j,hj,e⟩:=List.getElem_of_mem hm;exact h j hj (by rw[jz hj,e])
theorem zwq (B:Nat) (v:Value) (l:List zaa) (s:zaa) (W:World) (h:Sls cStr W B v l) (hl:l.length<=1000):
 Calls prog 365 #[v,str s] W λu W'=>u=.returned (.int .i64 (idxS l s))/\W=W':=by
 obtain ⟨A,cap,rfl,hc,hm,hr⟩:=id h;have HS:=Hd h;clear h hr hm;generalize hn:l.length=n at hc hl;have HNn:=Hd hn;clear hn;go_enter func365,ntmps365;go_wp2_with fail;go_loopw [8] (λv wr=>∃k:Nat,k<=n/\v=.int .i64 k/\(∀j,j<k->l[j]?≠some s)/\W=wr) (λv _=>n-(intOf v).toNat)
 case atStart=>exact ⟨0,by omega,rfl,λj hj=>by omega,rfl⟩
 obtain ⟨k,hk,rfl,hz,rfl⟩:=hrel;have HZ:=Hd hz;clear hz;by_cases hkn:k<n;rotate_left
 ·have hk1:¬(k:Int)<(n:Int):=by omega
  have HE:=Hd (z0d l s (λj hj=>HZ.o j (by rw[HNn.o] at hj;omega)));go_wp2;go_ret;exact ⟨by rw[HE.o];rfl,rfl⟩
 have hk1:(k:Int)<(n:Int):=by omega
 have k0:(0:Int)<=(k:Int):=by omega
 have hlk:k<l.length:=by rw[HNn.o];exact hkn
 have hx:l[k]?=some l[k]:=jz hlk;have HS2:=HS.o;rw[HNn.o] at HS2;obtain ⟨b,o,rfl,hb,hrg⟩:=HS2.get 1 (λ_=>rfl) hx;generalize hx0:l[k]=x at hx hrg;have hc0:W.cell? (b,o+k)=some (str x):=by have:=hrg 0 (str x) rfl;simpa using this
 have HX:=Hd hx;clear hx hx0 hrg HS2 hlk;by_cases hsx:s=x
 ·have HE:=Hd (z3i l s k (by rw[HX.o,hsx]) HZ.o);have be:(s==x)=true:=by simpa using hsx
  clear hsx;go_wp2;go_ret;exact ⟨by rw[HE.o];rfl,rfl⟩
 have HZ2:=jM (∀j,j<k+1->l[j]?≠some s) (λj hj=>by
  rcases Nat.lt_or_ge j k with c | c
  ·exact HZ.o j c
  obtain rfl:j=k:=by omega
  rw[HX.o];exact λe=>hsx (Option.some.inj e).symm)
 have be:(s==x)=false:=by simpa using hsx
 clear hsx;go_wp2;exact ⟨⟨k+1,by omega,by go_num,HZ2.o,trivial⟩,by simp[intOf];omega⟩
theorem zl3 (w:World):Calls prog 255 #[.bool true] w λu w'=>u=.returned (.agg #[.int .u8 2,.int .i64 1,str []])/\Below w w w':=by
 go_enter func255,ntmps255;go_wp2;refine jO results255 (v:=.agg #[.int .u8 2,.int .i64 1,str []]) ?_;exact ⟨rfl,by go_grown⟩
theorem znq (w:World):Calls prog 255 #[.bool false] w λu w'=>u=.returned (.agg #[.int .u8 2,.int .i64 0,str []])/\Below w w w':=by
 go_enter func255,ntmps255;go_wp2;refine jO results255 (v:=.agg #[.int .u8 2,.int .i64 0,str []]) ?_;exact ⟨rfl,by go_grown⟩
theorem zl4 (n:Int) (h1:1<=n) (h7:n<=7) (w:World):Calls prog 257 #[.int .i64 n] w λu w'=>u=.returned (.agg #[.int .u8 4,.int .i64 n,str []])/\Below w w w':=by
 have e1:¬n<1:=by omega
 have e2:¬7<n:=by omega
 go_enter func257,ntmps257;go_wp2;refine jO results257 (v:=.agg #[.int .u8 4,.int .i64 n,str []]) ?_;exact ⟨rfl,by go_grown⟩
end Go.Proofs.YtamcgggmfghljaaGreatDoor
