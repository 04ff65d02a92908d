/- Layer 9 (program): the parser's state, and its small functions. -/
import Derived.Test.YtamcgggmfghljaaGreatDoorD21
set_option maxRecDepth 100000
set_option maxHeartbeats 8000000
open Go.Proofs.Tryz
namespace Go.Proofs.YtamcgggmfghljaaGreatDoor
open Go.RowKit
def cNod (n:Nod):List Value:=[.int .u8 n.kind,.int .u8 n.vk,.int .i64 n.vn,str n.vt,.int .i64 n.rect.c1,.int .i64 n.rect.r1,.int .i64 n.rect.c2,.int .i64 n.rect.r2,.int .i64 n.op,.int .u8 n.fn,.int .i64 n.n]
theorem zbq (x:Nod):(cNod x).length=11:=rfl
theorem zd0 (x:Nod):∀u∈cNod x,u.oneCell'=true:=by
 intro u hu
 simp only [cNod,List.mem_cons,List.not_mem_nil,or_false] at hu
 rcases hu with rfl | rfl | rfl | rfl | rfl | rfl | rfl | rfl | rfl | rfl | rfl <;> rfl
theorem zdz:∃i,prog.info? 297=some i∧i.zero=some (.agg #[.int .u8 0,.int .u8 0,.int .i64 0,.string ⟨#[]⟩,.int .i64 0,.int .i64 0,.int .i64 0,.int .i64 0,.int .i64 0,.int .u8 0,.int .i64 0])∧i.size=11∧i.bytes=96:=
 info_parts (show (prog.info? 297).map (fun i=>(i.zero,i.size,i.bytes))=some (some (.agg #[.int .u8 0,.int .u8 0,.int .i64 0,.string ⟨#[]⟩,.int .i64 0,.int .i64 0,.int .i64 0,.int .i64 0,.int .i64 0,.int .u8 0,.int .i64 0]),11,96) by kernel_rfl)
structure PA (W:World) (p:Nat) (e:Int) (ov:Value) (st:PSt):Prop where
 bx:∃lv,Blk W p 237 #[lv,.int .i64 e,ov]∧Sls cTok W p lv st.1
 ow:Own cNod 297 11 W ov st.2
 ob:∀k,ov.ownBlock=some k→p<k
structure PTo (p:Nat) (W:World) (ov:Value) (W':World) (ov':Value):Prop where
 chg:Chg (fun k=>k=p∨ov.ownBlock=some k) W W'
 own:∀k,ov'.ownBlock=some k→ov.ownBlock=some k∨W.heap.size≤k
section
variable {W W1 W2:World} {p:Nat} {e:Int} {ov ov1 ov2:Value} {st:PSt}
theorem PA.lt (h:PA W p e ov st):p<W.heap.size:=by obtain ⟨lv,h1,_⟩:=h.bx;exact h1.lt
theorem PTo.refl (p:Nat) (W:World) (ov:Value):PTo p W ov W ov:=⟨Chg.refl _ _,fun _ h=>.inl h⟩
theorem PTo.trans (h:PTo p W ov W1 ov1) (k:PTo p W1 ov1 W2 ov2):PTo p W ov W2 ov2:=by
 refine ⟨⟨k.chg.os.trans h.chg.os,k.chg.tape.trans h.chg.tape,k.chg.output.trans h.chg.output,Nat.le_trans h.chg.size k.chg.size,fun i hi hs=>?_⟩,fun i hi=>?_⟩
 ·refine (k.chg.block i (Nat.lt_of_lt_of_le hi h.chg.size) fun e=>?_).trans (h.chg.block i hi hs)
  rcases e with e | e
  ·exact hs (.inl e)
  rcases h.own i e with e | e
  ·exact hs (.inr e)
  omega
 rcases k.own i hi with e | e
 ·rcases h.own i e with e | e
  ·exact .inl e
  exact .inr e
 exact .inr (Nat.le_trans h.chg.size e)
theorem PTo.below (h:PTo p W ov W1 ov1) (k:Below W1.heap.size W1 W2):PTo p W ov W2 ov1:=⟨h.chg.below k,h.own⟩
theorem PA.below (h:PA W p e ov st) (k:Below W.heap.size W W1):PA W1 p e ov st:=by
 obtain ⟨lv,h1,h2⟩:=h.bx
 exact ⟨⟨lv,h1.below_ k,h2.below (k.mono (Nat.le_of_lt h.lt))⟩,h.ow.below k,h.ob⟩
theorem PTo.old (h:PTo p W ov W1 ov1) (hp:p≤W.heap.size) (ho:∀k,ov.ownBlock=some k→p<k):Below p W W1:=
 h.chg.to_below hp fun k hk e=>by
  rcases e with e | e
  ·omega
  have:=ho k e;omega
theorem PTo.blk {t:TypeId} {cs:Array Value} {g:Nat} (h:PTo p W ov W1 ov1) (hb:Blk W g t cs) (h1:g≠p) (h2:ov.ownBlock≠some g):Blk W1 g t cs:=
 hb.chg h.chg (by intro e;rcases e with e | e;exact h1 e;exact h2 e)
end
theorem zv4 (e:Int) (l:List Nod):zak e ([],l)={ tok0 with at_:=e }:=rfl
theorem zsi (e:Int) (t:Tok) (ts:List Tok) (l:List Nod):zak e (t::ts,l)=t:=rfl
theorem zco (p:Nat) (e:Int) (ov:Value) (st:PSt) (W:World) (h:PA W p e ov st) (hn:st.1.length≤1000000):
 Calls prog 225 #[.pointer (some ⟨p,0,none⟩)] W fun u W'=>u=.returned (.agg (cTok (zak e st)).toArray)∧Below W.heap.size W W':=by
 obtain ⟨lv,hb,hs⟩:=h.bx
 have hlt:=h.lt
 obtain ⟨ts,ns⟩:=st
 obtain ⟨A,cap,rfl,hc1,hm,hr⟩:=id hs
 have KZ0:=Hd (show TokZ _ W.heap.size from Blk.new W 239 #[.int .u8 0,.int .i64 0,.string ⟨#[]⟩,.int .i64 0,.int .i64 0,.int .i64 0,.int .i64 0,.int .i64 0])
 have HB0:=Hd (show Below W.heap.size W (W.alloc (.cells #[.int .u8 0,.int .i64 0,.string ⟨#[]⟩,.int .i64 0,.int .i64 0,.int .i64 0,.int .i64 0,.int .i64 0] 239)) from by go_grown)
 have hb1:=hb.alloc (.cells #[.int .u8 0,.int .i64 0,.string ⟨#[]⟩,.int .i64 0,.int .i64 0,.int .i64 0,.int .i64 0,.int .i64 0] 239)
 obtain ⟨W1,hW1⟩:∃W1,W.alloc (.cells #[.int .u8 0,.int .i64 0,.string ⟨#[]⟩,.int .i64 0,.int .i64 0,.int .i64 0,.int .i64 0,.int .i64 0] 239)=W1:=⟨_,rfl⟩
 have hbW:=HB0.out
 rw [hW1] at hbW
 cases ts with
 | nil=>
  rw [hW1] at KZ0 HB0 hb1
  have c0:W1.cell? ⟨p,0,none⟩=some (.slice A 0 cap):=hb1.cell 0
  have c1:W1.cell? ⟨p,1,none⟩=some (.int .i64 e):=hb1.cell 1
  clear h hb hs hb1 hr
  obtain ⟨q0,q1,q2,q3,q4,q5,q6,q7,qf⟩:=zac KZ0.out
  go_enter func225,ntmps225
  go_upto_region 1 with (fail)
  clear hW1
  go_wp2
  refine bodyPost_ret (v:=.agg (cTok (zak e ([],ns))).toArray) (by simp (maxDischargeDepth:=9) [results,results225,go_sem,q0,q1,q2,q3,q4,q5,q6,q7,cTok,z4,tok0,zv4]) rfl ?_
  exact ⟨rfl,zal HB0.out (Nat.le_refl _) _ _ _ _ _ _ _ _⟩
 | cons t ts=>
  obtain ⟨b,o,rfl,hbp,hrg⟩:=hr (by simp)
  have r0:=zf7 (l:=cTok t) 0 (zhh hrg (hbW.mono (Nat.le_of_lt hlt)) hbp) (by intro j v hj;rw [Nat.zero_add,List.flatMap_cons,List.getElem?_append_left (List.getElem?_eq_some_iff.1 hj).1];exact hj)
  rw [hW1] at KZ0 HB0 hb1
  have c0:W1.cell? ⟨p,0,none⟩=some (.slice (some ⟨b,o,none⟩) (ts.length+1) cap):=hb1.cell 0
  clear h hb hs hb1 hr hrg
  have t0:W1.cell? ⟨b,o,none⟩=some (.int .u8 t.kind):=r0 0 _ rfl
  have t1:W1.cell? ⟨b,o+1,none⟩=some (.int .i64 t.num):=r0 1 _ rfl
  have t2:W1.cell? ⟨b,o+2,none⟩=some (str t.text):=r0 2 _ rfl
  have t3:W1.cell? ⟨b,o+3,none⟩=some (.int .i64 t.rect.c1):=r0 3 _ rfl
  have t4:W1.cell? ⟨b,o+4,none⟩=some (.int .i64 t.rect.r1):=r0 4 _ rfl
  have t5:W1.cell? ⟨b,o+5,none⟩=some (.int .i64 t.rect.c2):=r0 5 _ rfl
  have t6:W1.cell? ⟨b,o+6,none⟩=some (.int .i64 t.rect.r2):=r0 6 _ rfl
  have t7:W1.cell? ⟨b,o+7,none⟩=some (.int .i64 t.at_):=r0 7 _ rfl
  clear r0
  obtain ⟨q0,q1,q2,q3,q4,q5,q6,q7,qf⟩:=zac KZ0.out
  have hl0:(0:Int)<(ts.length:Int)+1:=by omega
  go_enter func225,ntmps225
  go_upto_region 1 with (fail)
  clear hW1
  go_wp2
  refine bodyPost_ret (v:=.agg (cTok (zak e (t::ts,ns))).toArray) (by simp (maxDischargeDepth:=9) [results,results225,go_sem,q0,q1,q2,q3,q4,q5,q6,q7,cTok,zsi]) rfl ?_
  exact ⟨rfl,zal HB0.out (Nat.le_refl _) _ _ _ _ _ _ _ _⟩
theorem PA.next {W:World} {p:Nat} {e:Int} {ov:Value} {st:PSt} (h:PA W p e ov st) {ts:List Tok} {lv:Value} (hl:Sls cTok W p lv ts):
 PA (W.setCell ⟨p,0,none⟩ lv) p e ov (ts,st.2)∧PTo p W ov (W.setCell ⟨p,0,none⟩ lv) ov:=by
 obtain ⟨lv0,hb,hs⟩:=h.bx
 have hne:ov.ownBlock≠some p:=fun e=>by have:=h.ob p e;omega
 have hc:Chg (fun k=>k=p) W (W.setCell ⟨p,0,none⟩ lv):=(Chg.refl (fun k=>k=p) W).setCell (p:=⟨p,0,none⟩) (.inl rfl) lv
 refine ⟨⟨⟨lv,?_,?_⟩,h.ow.chg hc (fun q hq e=>hne (by rw [hq,e])),h.ob⟩,⟨hc.mono (fun k _ e=>.inl e),fun _ h=>.inl h⟩⟩
 ·exact hb.set_ 0 lv
 exact Sl.chg hl hc (Nat.le_of_lt h.lt) (fun k hk e=>by omega)
theorem zbu (p:Nat) (e:Int) (ov:Value) (st:PSt) (W:World) (h:PA W p e ov st) (hn:st.1.length≤1000000) (h0:st.1≠ []):
 Calls prog 287 #[.pointer (some ⟨p,0,none⟩)] W fun u W'=>u=.returned (.tuple #[])∧PA W' p e ov (zan st)∧PTo p W ov W' ov:=by
 obtain ⟨lv,hb,hs⟩:=h.bx
 have hlt:=h.lt
 obtain ⟨ts,ns⟩:=st
 obtain ⟨A,cap,rfl,hc1,hm,hr⟩:=id hs
 cases ts with
 | nil=>exact absurd rfl h0
 | cons t ts=>
  obtain ⟨b,o,rfl,hbp,hrg⟩:=hr (by simp)
  have c0:W.cell? ⟨p,0,none⟩=some (.slice (some ⟨b,o,none⟩) (ts.length+1) cap):=hb.cell 0
  have cf:=hb.frozen
  have HH:=Hd h
  have HB:=Hd hb
  have HR:=Hd hrg
  clear h hb hs hr hrg
  simp only [List.length_cons] at hc1 hm hn
  have hl0:(1:Int)≤(ts.length:Int)+1:=by omega
  have hl1:(1:Int)≤(cap:Int):=by omega
  have hl2:(ts.length:Int)+1≤(cap:Int):=by omega
  by_cases hcap:cap=1
  ·have hts:ts=[]:=List.eq_nil_of_length_eq_zero (by omega)
   subst hts hcap
   have HN:=Hd (HH.out.next (ts:=[]) (lv:=.slice (some ⟨b,o,none⟩) 0 0) (Sls.nil _ _ _ _ _))
   go_enter func287,ntmps287
   go_wp2
   refine bE ?_
   exact ⟨rfl,HN.out⟩
  have HN:=Hd (HH.out.next (ts:=ts) (lv:=.slice (some ⟨b,o+8,none⟩) ts.length (cap-1)) ⟨_,_,rfl,by omega,by omega,fun hp=>⟨b,o+8,rfl,hbp,zf7 8 HR.out (by
   intro j v hj
   rw [List.flatMap_cons,List.getElem?_append_right (by rw [zdk];omega),zdk,show 8+j-8=j by omega]
   exact hj)⟩⟩)
  go_enter func287,ntmps287
  go_wp2
  refine bE ?_
  exact ⟨rfl,HN.out⟩
theorem PA.putAt {W W9:World} {p:Nat} {e:Int} {ov ov9:Value} {st:PSt} {n:Nod} (h:PA W p e ov st) {o1 o2:Obj}
 (o9:Own cNod 297 11 W9 ov9 (st.2++ [n])) (t9:OutTo ((W.alloc o1).alloc o2).drew ov W9 ov9):
 PA (W9.setCell ⟨p,2,none⟩ ov9) p e ov9 (putS n st)∧PTo p W ov (W9.setCell ⟨p,2,none⟩ ov9) ov9:=by
 obtain ⟨lv,hb,hs⟩:=h.bx
 have hlt:=h.lt
 have hne:ov.ownBlock≠some p:=fun e=>by have:=h.ob p e;omega
 have hne9:ov9.ownBlock≠some p:=fun e=>by
  rcases t9.own p e with e | e
  ·exact hne e
  simp at e;omega
 have hbW:Below W.heap.size W ((W.alloc o1).alloc o2).drew:=by go_grown
 have hb9:=(hb.below_ hbW).outTo t9 hne
 have hs9:Sls cTok W9 p lv st.1:=(hs.below (hbW.mono (Nat.le_of_lt hlt))).below (t9.old (by simp;omega) (fun k hk=>by have:=h.ob k hk;omega))
 have hc:Chg (fun k=>k=p) W9 (W9.setCell ⟨p,2,none⟩ ov9):=(Chg.refl (fun k=>k=p) W9).setCell (p:=⟨p,2,none⟩) (.inl rfl) ov9
 have hlt9:p<W9.heap.size:=hb9.lt
 refine ⟨⟨⟨lv,?_,?_⟩,o9.chg hc (fun q hq e=>hne9 (by rw [hq,e])),fun k hk=>?_⟩,⟨?_,fun k hk=>?_⟩⟩
 ·exact hb9.set_ 2 ov9
 ·exact Sl.chg hs9 hc (Nat.le_of_lt hlt9) (fun k hk e=>by omega)
 ·rcases t9.own k hk with e | e
  ·exact h.ob k e
  simp at e;omega
 ·have h1:Chg (fun k=>k=p∨ov.ownBlock=some k) W W9:=Chg.trans (Chg.of_below hbW _ (fun k hk _=>hk)) (t9.chg.mono (fun k _ e=>.inr e))
  exact h1.trans (hc.mono (fun k _ e=>.inl e))
 rcases t9.own k hk with e | e
 ·exact .inl e
 simp at e;exact .inr (by omega)
theorem zdq (p:Nat) (e:Int) (ov:Value) (st:PSt) (n:Nod) (W:World) (h:PA W p e ov st) (hn:st.2.length≤100000):
 Calls prog 288 #[.pointer (some ⟨p,0,none⟩),.agg (cNod n).toArray] W fun u W'=>u=.returned (.tuple #[])∧∃ov',PA W' p e ov' (putS n st)∧PTo p W ov W' ov':=by
 obtain ⟨lv,hb,hs⟩:=h.bx
 have hlt:=h.lt
 obtain ⟨it,ti0,ti1,ti2,ti3⟩:=zdz
 have HN1:=Hd (show ov.ownBlock≠some p from fun e=>by have:=h.ob p e;omega)
 have HN2:=Hd (show ov.ownBlock≠some W.heap.size from fun e=>by have:=h.ow.lt _ e;omega)
 have P0:=Hd (show Blk (W.alloc (.cells (cNod n).toArray 297)).drew p 237 #[lv,.int .i64 e,ov]∧True from ⟨(hb.alloc _).drew,trivial⟩)
 have KN:=Hd (Blk.new W 297 (cNod n).toArray).drew
 have HO:=Hd (h.ow.alloc (.cells (cNod n).toArray 297)).drew
 have P1:=Hd ((hb.alloc (.cells (cNod n).toArray 297)).alloc (.cells (cNod n).toArray 297)).drew
 have KN1:=Hd ((Blk.new W 297 (cNod n).toArray).alloc (.cells (cNod n).toArray 297)).drew
 have HO1:=Hd ((h.ow.alloc (.cells (cNod n).toArray 297)).alloc (.cells (cNod n).toArray 297)).drew
 have KN2:=Hd (show Blk ((W.alloc (.cells (cNod n).toArray 297)).alloc (.cells (cNod n).toArray 297)).drew (W.heap.size+1) 297 (cNod n).toArray by
  have:=(Blk.new (W.alloc (.cells (cNod n).toArray 297)) 297 (cNod n).toArray).drew
  simpa using this)
 have HP:=Hd h
 clear h hb hs
 rw [show (cNod n).toArray=#[.int .u8 n.kind,.int .u8 n.vk,.int .i64 n.vn,str n.vt,.int .i64 n.rect.c1,.int .i64 n.rect.r1,.int .i64 n.rect.c2,.int .i64 n.rect.r2,.int .i64 n.op,.int .u8 n.fn,.int .i64 n.n] from rfl]
 go_enter func288,ntmps288
 go_wp2_with fail
 refine wp_region_noPanic ?_
 refine za8 (fun W'=>Blk W' p 237 #[lv,.int .i64 e,ov]∧Blk W' W.heap.size 297 (cNod n).toArray) 10 (by kernel_rfl) ?_
 have hHeld:(fun W'=>Blk W' p 237 #[lv,.int .i64 e,ov]∧Blk W' W.heap.size 297 (cNod n).toArray) _:=⟨P0.out.1,KN.out⟩
 refine tU 0 ⟨some 4,.move (.tmp 0),_,_,_,none⟩ (.pointer (some ⟨p,0,none⟩)) rfl (fun _=>hHeld) ?_
 try go_frame
 refine tU 1 ⟨some 5,.move (.tmp 0),_,_,_,none⟩ (.pointer (some ⟨p,0,none⟩)) rfl (fun _=>hHeld) ?_
 try go_frame
 refine tU 2 ⟨some 6,.nilCheck (.tmp 5),_,_,_,none⟩ (.pointer (some ⟨p,0,none⟩)) rfl (fun _=>hHeld) ?_
 try go_frame
 refine tU 3 ⟨some 7,.fieldAddr 237 (.tmp 6) 2,_,_,_,none⟩ (.pointer (some ⟨p,2,none⟩)) rfl (fun _=>hHeld) ?_
 try go_frame
 refine tV 4 ⟨some 8,.load 190 (.tmp 7),190,_,_,none⟩ ov rfl hHeld (Or.inl ⟨by rfl,by intro W hW;have hc:W.cell? ⟨p,2,none⟩=some (ov):=hW.1.cell 2;go_simp⟩) ?_
 try go_frame
 refine tV 5 ⟨some 9,.load 297 (.tmp 3),297,_,_,none⟩ (.agg _) rfl hHeld (yieldsIf_load_mid rfl _ _ rfl (W.heap.size) (0) rfl _ _ (fun W' h=>h.2.range (l:=cNod n) (o:=0) (by intro j v hj;rw [Nat.zero_add];exact List.getElem?_toArray.trans hj)) rfl rfl (by kernel_rfl)) ?_
 try go_frame
 rw [show (cNod n).toArray=#[.int .u8 n.kind,.int .u8 n.vk,.int .i64 n.vn,str n.vt,.int .i64 n.rect.c1,.int .i64 n.rect.r1,.int .i64 n.rect.c2,.int .i64 n.rect.r2,.int .i64 n.op,.int .u8 n.fn,.int .i64 n.n] from rfl]
 refine zai 6 (o:=⟨some 10,.buildSlice 190 1 #[(0,.tmp 9)],190,_,_,none⟩) (by kernel_rfl) rfl rfl (fun K hK=>?_)
 go_simp
 refine hK.out _ _ (fun _=>⟨P1.out,KN1.out⟩) ?_
 have hHeld:(fun W'=>Blk W' p 237 #[lv,.int .i64 e,ov]∧Blk W' W.heap.size 297 (cNod n).toArray) _:=⟨P1.out,KN1.out⟩
 clear hK K
 try go_frame
 obtain ⟨r9,w9,hr9,o9,t9⟩:=zdh (P:=prog) _ cNod 190 190 297 it _ 11 96 underlying190 ti0 ti1 ti2 ti3 rfl (by omega) ov st.2 HO1.out _ _ [n] (Sls.one (x:=n) KN2.out rfl) zbq zd0 (by simp;omega) (by omega)
 obtain ⟨A9,c9,hv9, -⟩:=id (o9.sls (by simp [maxLen];omega))
 generalize hL9:(st.2++ [n]).length=L9 at hv9
 have HL9:=Hd hL9
 clear hL9
 subst hv9
 have hB9:=P1.out.outTo t9 HN1.out
 refine zai 7 (o:=⟨some 11,.call { callee:=.builtin .append,args:=#[.tmp 8,.tmp 10],argTypes:=#[190,190] },190,_,_,none⟩) (by kernel_rfl) rfl rfl (fun K hK=>?_)
 refine zbk (.tmp 8) (.tmp 10) _ _ rfl _ _ _ _ rfl rfl hr9 ?_
 refine hK.out _ _ (fun _=>⟨hB9,KN1.out.outTo t9 HN2.out⟩) ?_
 have hHeld:(fun W'=>Blk W' p 237 #[lv,.int .i64 e,ov]∧Blk W' W.heap.size 297 (cNod n).toArray) _:=⟨hB9,KN1.out.outTo t9 HN2.out⟩
 clear hK K
 try go_frame
 refine tU 8 ⟨some 12,.nilCheck (.tmp 4),_,_,_,none⟩ (.pointer (some ⟨p,0,none⟩)) rfl (fun _=>hHeld) ?_
 try go_frame
 refine tU 9 ⟨some 13,.fieldAddr 237 (.tmp 12) 2,_,_,_,none⟩ (.pointer (some ⟨p,2,none⟩)) rfl (fun _=>hHeld) ?_
 try go_frame
 refine zai 10 (o:=⟨none,.store 190 (.tmp 13) (.tmp 11),0,_,_,none⟩) (by kernel_rfl) rfl rfl (fun K hK=>?_)
 have kc:w9.cell? ⟨p,2,none⟩=some ov:=hB9.cell 2
 have kf:=hB9.frozen
 go_simp
 refine hK.out _ _ (fun h=>absurd h (by decide)) ?_
 clear hK K
 try go_frame
 refine za9 (by kernel_rfl) ?_
 refine NoPanic.normal ?_
 have HF:=Hd (HP.out.putAt o9 t9)
 clear hHeld hB9 o9 t9 hr9
 refine bE ?_
 exact ⟨rfl,_,HF.out⟩
def flt (a er:Int):Ending:=.panicked [{ v:=.iface 234 (.agg #[.int .i64 a,.int .i64 er]),recovered:=false }]
theorem zcp (p:Value) (a er:Int) (W:World):Calls prog 226 #[p,.int .i64 a,.int .i64 er] W fun u W'=>u=flt a er∧W=W':=by
 go_enter func226,ntmps226
 go_wp2
 exact ⟨rfl,rfl,rfl⟩
theorem zrj (p:Nat) (e:Int) (ov:Value) (st:PSt) (op:Int) (W:World) (h:PA W p e ov st) (hn:st.1.length≤1000000):
 Calls prog 306 #[.pointer (some ⟨p,0,none⟩),.int .i64 op] W fun u W'=>u=.returned (.bool (zcj e st op))∧Below W.heap.size W W':=by
 have HH:=Hd h
 clear h
 go_enter func306,ntmps306
 go_wp2_with fail
 refine (zco p e ov st _ HH.out hn).mono ?_
 rintro u w1 ⟨rfl,hb1⟩
 have HI:=Hd (show zcj e st op=(decide ((zak e st).kind=8)&&decide ((zak e st).num=op)) from rfl)
 have HB2:=Hd (show Below W.heap.size W (w1.alloc (.cells (cTok (zak e st)).toArray 239)) from hb1.alloc hb1.size _)
 clear hb1
 generalize zak e st=t at HI HB2 ⊢
 rw [show (cTok t).toArray=#[.int .u8 t.kind,.int .i64 t.num,str t.text,.int .i64 t.rect.c1,.int .i64 t.rect.r1,.int .i64 t.rect.c2,.int .i64 t.rect.r2,.int .i64 t.at_] from rfl]
 by_cases hk:t.kind=8
 ·have hk':(t.kind==8)=true:=by simpa using hk
  have hd:decide (t.kind=8)=true:=by simpa using hk
  rw [hd] at HI
  clear hk hd
  go_wp2
  go_ret
  exact ⟨by rw [HI.out];rfl,HB2.out⟩
 have hk':(t.kind==8)=false:=by simpa using hk
 have hd:decide (t.kind=8)=false:=by simpa using hk
 rw [hd] at HI
 clear hk hd
 go_wp2
 go_ret
 exact ⟨by rw [HI.out];rfl,HB2.out⟩
def Went (p:Nat) (e:Int) (W:World) (ov:Value) (r:PRes) (u:Ending) (W':World):Prop:=
 match r with
 | .ok st'=>u=.returned (.tuple #[])∧∃ov',PA W' p e ov' st'∧PTo p W ov W' ov'
 | .error x=>u=flt x.1 x.2∧Below p W W'
theorem zbg {p:Nat} {e:Int} {W W':World} {ov:Value} {r:PRes} {st':PSt} (hr:r=.ok st') {ov':Value} (h1:PA W' p e ov' st') (h2:PTo p W ov W' ov'):Went p e W ov r (.returned (.tuple #[])) W':=by
 subst hr
 exact ⟨rfl,ov',h1,h2⟩
theorem zaw {p:Nat} {e:Int} {W W':World} {ov:Value} {r:PRes} {a er:Int} (hr:r=.error (a,er)) (h:Below p W W'):Went p e W ov r (flt a er) W':=by
 subst hr
 exact ⟨rfl,h⟩
theorem zd3 {e:Int} {st:PSt} (h:(zak e st).kind≠0):st.1≠ []:=by
 intro h0
 obtain ⟨ts,ns⟩:=st
 simp only at h0
 subst h0
 exact h rfl
theorem PTo.old' {p:Nat} {W W1:World} {ov ov1:Value} {e:Int} {st:PSt} (h:PTo p W ov W1 ov1) (hp:PA W p e ov st):Below p W W1:=h.old (Nat.le_of_lt hp.lt) hp.ob
theorem znn (p:Nat) (e:Int) (ov:Value) (st:PSt) (k:Int) (W:World) (h:PA W p e ov st) (hn:st.1.length≤1000000) (hk:k≠0):
 Calls prog 342 #[.pointer (some ⟨p,0,none⟩),.int .u8 k] W (Went p e W ov (zd6 e k st)):=by
 have HH:=Hd h
 clear h
 go_enter func342,ntmps342
 go_wp2_with fail
 refine (zco p e ov st _ HH.out hn).mono ?_
 rintro u w1 ⟨rfl,hb1⟩
 have HB2:=Hd (show Below W.heap.size W (w1.alloc (.cells (cTok (zak e st)).toArray 239)) from hb1.alloc hb1.size _)
 clear hb1
 have HW:Hid (zd6 e k st=if (zak e st).kind≠k then .error ((zak e st).at_,4) else .ok (zan st)):=Hd rfl
 have HN:Hid ((zak e st).kind≠0→st.1≠ []):=Hd zd3
 generalize zak e st=t at HW HN HB2 ⊢
 rw [show (cTok t).toArray=#[.int .u8 t.kind,.int .i64 t.num,str t.text,.int .i64 t.rect.c1,.int .i64 t.rect.r1,.int .i64 t.rect.c2,.int .i64 t.rect.r2,.int .i64 t.at_] from rfl]
 by_cases hkk:t.kind=k
 ·have hk':(t.kind != k)=false:=by simpa using hkk
  have HE:=Hd (show zd6 e k st=.ok (zan st) by rw [HW.out,if_neg (by simpa using hkk)])
  have HP:=Hd (HH.out.below HB2.out)
  have H0:=HN.out (by rw [hkk];exact hk)
  clear hkk
  go_wp2_with fail
  refine (zbu p e ov st _ HP.out hn H0).mono ?_
  rintro u w3 ⟨rfl,ha,ht⟩
  have HA:=Hd ha
  have HT:=Hd ((PTo.below (PTo.refl p W ov) HB2.out).trans ht)
  clear ha ht
  go_wp2
  refine bE ?_
  exact zbg HE.out HA.out HT.out
 have hk':(t.kind != k)=true:=by simpa using hkk
 have HE:=Hd (show zd6 e k st=.error (t.at_,4) by rw [HW.out,if_pos (by simpa using hkk)])
 clear hkk
 go_wp2_with fail
 refine (zcp _ t.at_ 4 _).mono ?_
 rintro u w3 ⟨rfl,rfl⟩
 unfold flt
 go_wp2
 exact ⟨rfl,zaw HE.out (HB2.out.mono (Nat.le_of_lt HH.out.lt))⟩
theorem zfq (p:Nat) (e:Int) (ov:Value) (st:PSt) (k n:Int) (s:zaa) (W:World) (h:PA W p e ov st) (hn:st.1.length≤1000000) (hn2:st.2.length≤100000) (h0:st.1≠ []):
 Calls prog 341 #[.pointer (some ⟨p,0,none⟩),.agg #[.int .u8 k,.int .i64 n,str s]] W fun u W'=>u=.returned (.tuple #[])∧∃ov',PA W' p e ov' (putS { nod0 1 with vk:=k,vn:=n,vt:=s } (zan st))∧PTo p W ov W' ov':=by
 have HH:=Hd h
 have hlt:=h.lt
 have HB1:=Hd (show Below W.heap.size W (W.alloc (.cells #[.int .u8 k,.int .i64 n,str s] 189)) from by go_grown)
 have K1:=Hd (Blk.new W 189 #[.int .u8 k,.int .i64 n,str s])
 have HO:=Hd (show ov.ownBlock≠some W.heap.size from fun e=>by have:=h.ow.lt _ e;omega)
 clear h
 go_enter func341,ntmps341
 go_wp2_with fail
 refine (zbu p e ov st _ (HH.out.below HB1.out) hn h0).mono ?_
 rintro u w1 ⟨rfl,ha,ht⟩
 have HA:=Hd ha
 have HT:=Hd ((PTo.below (PTo.refl p W ov) HB1.out).trans ht)
 have K2:=Hd (ht.blk K1.out (by omega) HO.out)
 clear ha ht
 have c0:w1.cell? ⟨W.heap.size,0,none⟩=some (.int .u8 k):=K2.out.cell 0
 have c1:w1.cell? ⟨W.heap.size,1,none⟩=some (.int .i64 n):=K2.out.cell 1
 have c2:w1.cell? ⟨W.heap.size,2,none⟩=some (str s):=K2.out.cell 2
 go_wp2_with fail
 refine (zdq p e ov (zan st) { nod0 1 with vk:=k,vn:=n,vt:=s } _ HA.out hn2).mono ?_
 rintro u w3 ⟨rfl,ov3,ha,ht⟩
 have HA3:=Hd ha
 have HT3:=Hd (HT.out.trans ht)
 clear ha ht
 go_wp2
 refine bE ?_
 exact ⟨rfl,ov3,HA3.out,HT3.out⟩
theorem zk9 (op:Int) (W:World):Calls prog 286 #[.int .i64 op] W fun u W'=>(∃b,∃e:Int,u=.returned (.tuple #[.int .i64 (zbt op),.bool b,.int .i64 e]))∧W=W':=by
 by_cases h1:op=1
 ·subst h1
  go_enter func286,ntmps286
  go_wp2
  go_ret3
  exact ⟨⟨_,_,rfl⟩,rfl⟩
 by_cases h2:op=2
 ·subst h2
  go_enter func286,ntmps286
  go_wp2
  go_ret3
  exact ⟨⟨_,_,rfl⟩,rfl⟩
 by_cases h3:op=3
 ·subst h3
  go_enter func286,ntmps286
  go_wp2
  go_ret3
  exact ⟨⟨_,_,rfl⟩,rfl⟩
 by_cases h4:op=4
 ·subst h4
  go_enter func286,ntmps286
  go_wp2
  go_ret3
  exact ⟨⟨_,_,rfl⟩,rfl⟩
 by_cases h5:op=5
 ·subst h5
  go_enter func286,ntmps286
  go_wp2
  go_ret3
  exact ⟨⟨_,_,rfl⟩,rfl⟩
 by_cases h6:op=6
 ·subst h6
  go_enter func286,ntmps286
  go_wp2
  go_ret3
  exact ⟨⟨_,_,rfl⟩,rfl⟩
 by_cases h7:op=7
 ·subst h7
  go_enter func286,ntmps286
  go_wp2
  go_ret3
  exact ⟨⟨_,_,rfl⟩,rfl⟩
 by_cases h8:op=8
 ·subst h8
  go_enter func286,ntmps286
  go_wp2
  go_ret3
  exact ⟨⟨_,_,rfl⟩,rfl⟩
 by_cases h9:op=9
 ·subst h9
  go_enter func286,ntmps286
  go_wp2
  go_ret3
  exact ⟨⟨_,_,rfl⟩,rfl⟩
 by_cases h10:op=10
 ·subst h10
  go_enter func286,ntmps286
  go_wp2
  go_ret3
  exact ⟨⟨_,_,rfl⟩,rfl⟩
 by_cases h11:op=11
 ·subst h11
  go_enter func286,ntmps286
  go_wp2
  go_ret3
  exact ⟨⟨_,_,rfl⟩,rfl⟩
 by_cases h12:op=12
 ·subst h12
  go_enter func286,ntmps286
  go_wp2
  go_ret3
  exact ⟨⟨_,_,rfl⟩,rfl⟩
 by_cases h13:op=13
 ·subst h13
  go_enter func286,ntmps286
  go_wp2
  go_ret3
  exact ⟨⟨_,_,rfl⟩,rfl⟩
 have HE:=Hd (show zbt op=0 by
  unfold zbt
  rw [if_neg (by omega),if_neg (by omega),if_neg (by omega),if_neg (by omega),if_neg (by omega),if_neg (by omega)])
 have b1:(op==1)=false:=by simpa using h1
 have b2:(op==2)=false:=by simpa using h2
 have b3:(op==3)=false:=by simpa using h3
 have b4:(op==4)=false:=by simpa using h4
 have b5:(op==5)=false:=by simpa using h5
 have b6:(op==6)=false:=by simpa using h6
 have b7:(op==7)=false:=by simpa using h7
 have b8:(op==8)=false:=by simpa using h8
 have b9:(op==9)=false:=by simpa using h9
 have b10:(op==10)=false:=by simpa using h10
 have b11:(op==11)=false:=by simpa using h11
 have b12:(op==12)=false:=by simpa using h12
 have b13:(op==13)=false:=by simpa using h13
 clear h1 h2 h3 h4 h5 h6 h7 h8 h9 h10 h11 h12 h13
 go_enter func286,ntmps286
 go_wp2
 go_ret3
 exact ⟨⟨_,_,by rw [HE.out];rfl⟩,rfl⟩
theorem zey (fn:Nat) (h1:1≤fn) (h2:fn≤50) (W:World):Calls prog 326 #[.int .u8 fn] W fun u W'=>u=.returned (.tuple #[.int .i64 (zam fn).1,.int .i64 (zam fn).2.1,.int .i64 (zam fn).2.2])∧W=W':=by
 rcases (by omega:fn=1∨fn=2∨fn=3∨fn=4∨fn=5∨fn=6∨fn=7∨fn=8∨fn=9∨fn=10∨fn=11∨fn=12∨fn=13∨fn=14∨fn=15∨fn=16∨fn=17∨fn=18∨fn=19∨fn=20∨fn=21∨fn=22∨fn=23∨fn=24∨fn=25∨fn=26∨fn=27∨fn=28∨fn=29∨fn=30∨fn=31∨fn=32∨fn=33∨fn=34∨fn=35∨fn=36∨fn=37∨fn=38∨fn=39∨fn=40∨fn=41∨fn=42∨fn=43∨fn=44∨fn=45∨fn=46∨fn=47∨fn=48∨fn=49∨fn=50) with rfl | rfl | rfl | rfl | rfl | rfl | rfl | rfl | rfl | rfl | rfl | rfl | rfl | rfl | rfl | rfl | rfl | rfl | rfl | rfl | rfl | rfl | rfl | rfl | rfl | rfl | rfl | rfl | rfl | rfl | rfl | rfl | rfl | rfl | rfl | rfl | rfl | rfl | rfl | rfl | rfl | rfl | rfl | rfl | rfl | rfl | rfl | rfl | rfl | rfl
 all_goals
  go_enter func326,ntmps326
  go_wp2
  go_ret3
  exact ⟨rfl,rfl⟩
end Go.Proofs.YtamcgggmfghljaaGreatDoor
