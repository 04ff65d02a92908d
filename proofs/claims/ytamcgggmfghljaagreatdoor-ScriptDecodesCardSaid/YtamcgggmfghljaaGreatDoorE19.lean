/- walk -/
import Derived.Deep.RegionWith
import Derived.Test.YtamcgggmfghljaaGreatDoorE16
set_option maxRecDepth 100000
set_option maxHeartbeats 8000000
open Go.Proofs.Tryz
namespace Go.Proofs.YtamcgggmfghljaaGreatDoor
open Go.RowKit
variable {a er f x:Int} {base i i' k p:Nat} {n:Nod} {g:Stg} {α:Type} {e:TypeId} {ov ov' ov9 v:Value} {W W' W9 w w':World}
structure PR (W:World) (p:Nat) (s:zaa) (L:List Tok) (ov:Value) (i:Nat) (T:List Nod) (a f:Int):Prop where
 bx:∃lv,Blk W p 272 #[str s,lv,.int .i64 i,ov,.int .i64 a,.int .i64 f]/\Sls cTok W p lv L
 ow:Own cNod 297 11 W ov T
 ob:∀k,ov.ownBlock=some k->p<k
section
variable {W W1:World} {p:Nat} {s:zaa} {L:List Tok} {ov:Value} {i:Nat} {T:List Nod} {a f:Int}
theorem PR.lt (h:PR W p s L ov i T a f):p<W.heap.size:=by obtain ⟨lv,h1,_⟩:=h.bx;exact h1.lt
theorem PR.below (h:PR W p s L ov i T a f) (k:Below W W W1):PR W1 p s L ov i T a f:=by
 obtain ⟨lv,h1,h2⟩:=h.bx;exact ⟨⟨lv,h1.below_ k,h2.below (k.mono (jF h.lt))⟩,h.ow.below k,h.ob⟩
theorem PR.ne (h:PR W p s L ov i T a f):ov.ownBlock≠some p:=λe=>by have:=h.ob p e;omega
theorem PR.setAt (h:PR W p s L ov i T a f) (j:Nat) (v:Value) (i':Nat) (a' f':Int)
 (hv:∀lv,#[str s,lv,.int .i64 i,ov,.int .i64 a,.int .i64 f].setIfInBounds j v=#[str s,lv,.int .i64 i',ov,.int .i64 a',.int .i64 f']):
 PR (W.setCell ⟨p,j,none⟩ v) p s L ov i' T a' f'/\PTo p W ov (W.setCell ⟨p,j,none⟩ v) ov:=by
 obtain ⟨lv,hb,hs⟩:=h.bx;have hc:Chg (λk=>k=p) W (W.setCell (p,j) v):=(Chg.refl (λk=>k=p) W).setCell (p:=(p,j)) (.inl rfl) v;refine ⟨⟨⟨lv,?_,?_⟩,h.ow.chg hc (λq hq e=>h.ne (by rw[hq,e])),h.ob⟩,⟨hc.mono (λk _ e=>.inl e),λ_ h=>.inl h⟩⟩
 ·have:=hb.set_ j v;rw[hv lv] at this;exact this
 exact Sl.chg hs hc (jF h.lt) (λk hk e=>by omega)
theorem PR.next (h:PR W p s L ov i T a f) (j:Nat):PR (W.setCell (p,2) (.int .i64 j)) p s L ov j T a f/\PTo p W ov (W.setCell (p,2) (.int .i64 j)) ov:=h.setAt 2 _ j a f (λ_=>rfl)
theorem PR.fault (h:PR W p s L ov i T a f) (a' f':Int):PR ((W.setCell (p,4) (.int .i64 a')).setCell (p,5) (.int .i64 f')) p s L ov i T a' f'/\PTo p W ov ((W.setCell (p,4) (.int .i64 a')).setCell (p,5) (.int .i64 f')) ov:=by
 obtain ⟨h1,t1⟩:=h.setAt 4 (.int .i64 a') i a' f (λ_=>rfl);obtain ⟨h2,t2⟩:=h1.setAt 5 (.int .i64 f') i a' f' (λ_=>rfl);exact ⟨h2,t1.trans t2⟩
theorem PR.cells (h:PR W p s L ov i T a f):∃A cap,W.cell? (p,0)=some (str s)/\W.cell? (p,1)=some (.slice A L.length cap)/\W.cell? (p,2)=some (.int .i64 i)/\W.cell? (p,3)=some ov/\W.cell? (p,4)=some (.int .i64 a)/\W.cell? (p,5)=some (.int .i64 f)/\(∀o,W.frozen? ⟨p,o,none⟩=false)/\Sls cTok W p (.slice A L.length cap) L/\p<W.heap.size:=by
 obtain ⟨lv,hb,hs⟩:=h.bx;obtain ⟨A,cap,rfl, -⟩:=id hs;exact ⟨A,cap,hb.cell 0,hb.cell 1,hb.cell 2,hb.cell 3,hb.cell 4,hb.cell 5,λo=>hb.frozen o,hs,hb.lt⟩
end
theorem zc5 (p:Nat) (s:zaa) (L:List Tok) (ov:Value) (i:Nat) (T:List Nod) (a f:Int) (W:World) (h:PR W p s L ov i T a f) (_hn:L.length<=1000000):
 Calls prog 263 (aP p) W λu W'=>u=.returned (.agg (cTok (zak s.length (L.drop i,T))).toArray)/\Below W W W':=by
 obtain ⟨A,cap,c0,c1,c2,c3,c4,c5,cf,hs,hlt⟩:=h.cells;obtain ⟨lv,hbx,hs2⟩:=h.bx;obtain rfl:lv=.slice A L.length cap:=by have:=hbx.cell 1;rw[c1] at this;simpa using this.symm
 have HBX:=Hd hbx;have hi0:(0:Int)<=(i:Int):=jw _;clear hbx hs2 c3 c4 c5 cf h;have HZ:=Hd (je W 239 aT);have hzl:=HZ.o.lt;have hpz:p≠W.heap.size:=by omega
 by_cases hil:i<L.length;rotate_left
 ·have hi1:¬(i:Int)<(L.length:Int):=by omega
  have hd1:decide ((i:Int)<(L.length:Int))=false:=jA hi1;rw[zof _ L i T (by omega)];clear hs hil;go_enter func263,ntmps263;go_wp2_with fail;go_quiet (fail);obtain ⟨V,hV⟩:=jN ((W.alloc (.cells aT 239)).drewN nq);have HZV:=jM (Blk V W 239 aT) (hV▸HZ.o);have HBV:=jM (Below W W V) (hV▸jf (show Below W W (W.alloc (.cells aT 239)) by go_grown) nq);have HPV:=jM (Blk V p 272 #[str s,.slice A L.length cap,.int .i64 i,ov,.int .i64 a,.int .i64 f]) (by rw[<- hV];exact HBX.o.alloc _);rw[hV];clear hV c0 c1 c2;have c0:=HPV.o.cell 0;have hlV:=HZV.o.lt;have zf:=λo=>HZV.o.frozen o;obtain ⟨z0,z1,z2,z3,z4,z5⟩:=HZV.o.c6 0 1 2 3 4 5;obtain ⟨z6,z7⟩:=HZV.o.c2 6 7;go_wp2;have ZF:=Hd (Blk.set_ (Blk.set_ (Blk.set_ (Blk.set_ (Blk.set_ (Blk.set_ (Blk.set_ (Blk.set_ HZV.o 0 (.int .u8 0)) 1 (.int .i64 0)) 2 (str [])) 3 (.int .i64 0)) 4 (.int .i64 0)) 5 (.int .i64 0)) 6 (.int .i64 0)) 7 (.int .i64 s.length));have HF:=Hd (jc (jc (jc (jc (jc (jc (jc (jc HBV.o (p:=⟨W.heap.size,0,none⟩) jy (.int .u8 0)) (p:=⟨W.heap.size,1,none⟩) jy (.int .i64 0)) (p:=⟨W.heap.size,2,none⟩) jy (str [])) (p:=⟨W.heap.size,3,none⟩) jy (.int .i64 0)) (p:=⟨W.heap.size,4,none⟩) jy (.int .i64 0)) (p:=⟨W.heap.size,5,none⟩) jy (.int .i64 0)) (p:=⟨W.heap.size,6,none⟩) jy (.int .i64 0)) (p:=⟨W.heap.size,7,none⟩) jy (.int .i64 s.length));obtain ⟨d0,d1,d2,d3,d4,d5⟩:=ZF.o.c6 0 1 2 3 4 5;obtain ⟨d6,d7⟩:=ZF.o.c2 6 7;clear zf z0 z1 z2 z3 z4 z5 z6 z7;refine jO results263 (v:=.agg #[.int .u8 0,.int .i64 0,str [],.int .i64 0,.int .i64 0,.int .i64 0,.int .i64 0,.int .i64 s.length]) ?_ (by simp (maxDischargeDepth:=9) [jQ,go_sem,d0,d1,d2,d3,d4,d5,d6,d7]);exact ⟨rfl,HF.o⟩
 have hi1:(i:Int)<(L.length:Int):=by omega
 have hd1:decide ((i:Int)<(L.length:Int))=true:=jB hi1;rw[zjy _ L i T hil];have hx:L[i]?=some L[i]:=jz hil;obtain ⟨b,o,rfl,hb,rr⟩:=hs.get 8 zd7 hx;generalize L[i]=t at *;have hbz:b≠W.heap.size:=by omega
 have HSW:=jM (∀n,(λW'=>Blk W' p 272 #[str s,.slice (some (b,o)) L.length cap,.int .i64 i,ov,.int .i64 a,.int .i64 f]/\∀j v,(cTok t)[j]?=some v->W'.cell? ⟨b,o+i*8+j,none⟩=some v) ((W.alloc (.cells aT 239)).drewN n).drew) (λn=>⟨HBX.o.alloc _,λj v hj=>(World.cell?_alloc_old _ _ _ hbz).trans (rr j v hj)⟩);clear rr hx hs hil;go_enter func263,ntmps263;go_wp2_with fail;go_quiet (fail);obtain ⟨V,hV⟩:=jN ((W.alloc (.cells aT 239)).drewN nq);have HZV:=jM (Blk V W 239 aT) (hV▸HZ.o);have HBV:=jM (Below W W V) (hV▸jf (show Below W W (W.alloc (.cells aT 239)) by go_grown) nq);have HSV:=jM ((λW'=>Blk W' p 272 #[str s,.slice (some (b,o)) L.length cap,.int .i64 i,ov,.int .i64 a,.int .i64 f]/\∀j v,(cTok t)[j]?=some v->W'.cell? ⟨b,o+i*8+j,none⟩=some v) V.drew) (hV▸HSW.o nq);rw[hV];clear hV c0 c1 c2;go_wp2_with fail;refine wp_region_noPanic ?_;refine zaw (λW'=>Blk W' p 272 #[str s,.slice (some ⟨b,o,none⟩) L.length cap,.int .i64 i,ov,.int .i64 a,.int .i64 f]/\∀j v,(cTok t)[j]?=some v->W'.cell? ⟨b,o+i*8+j,none⟩=some v) 10 (by kernel_rfl) ?_;have hHeld:(λW'=>Blk W' p 272 #[str s,.slice (some (b,o)) L.length cap,.int .i64 i,ov,.int .i64 a,.int .i64 f]/\∀j v,(cTok t)[j]?=some v->W'.cell? ⟨b,o+i*8+j,none⟩=some v) _:=HSV.o;refine tU 0 (.pointer (some ⟨p,0,none⟩)) (λ_=>hHeld) ?_
 try go_frame
 refine tU 1 (.pointer (some ⟨p,0,none⟩)) (λ_=>hHeld) ?_
 try go_frame
 refine tU 2 (.pointer (some ⟨p,1,none⟩)) (λ_=>hHeld) ?_
 try go_frame
 refine tV 3 (.slice (some ⟨b,o,none⟩) L.length cap) rfl hHeld (Or.inl ⟨by rfl,by intro W hW;have hc:W.cell? ⟨p,1,none⟩=some (.slice (some ⟨b,o,none⟩) L.length cap):=hW.1.cell 1;go_simp⟩) ?_
 try go_frame
 refine tU 4 (.pointer (some ⟨p,0,none⟩)) (λ_=>hHeld) ?_
 try go_frame
 refine tU 5 (.pointer (some ⟨p,0,none⟩)) (λ_=>hHeld) ?_
 try go_frame
 refine tU 6 (.pointer (some ⟨p,2,none⟩)) (λ_=>hHeld) ?_
 try go_frame
 refine tV 7 (.int .i64 i) rfl hHeld (Or.inl ⟨by rfl,by intro W hW;have hc:W.cell? ⟨p,2,none⟩=some (.int .i64 i):=hW.1.cell 2;go_simp⟩) ?_
 try go_frame
 refine tU 8 (.pointer (some ⟨b,o+i*8,none⟩)) (λ_=>hHeld) ?_
 try go_frame
 refine tV 9 (.agg _) rfl hHeld (yieldsIf_load_mid rfl _ _ rfl (b) (o+i*8) rfl _ _ (λW' h=>h.2) rfl rfl (by kernel_rfl)) ?_
 try go_frame
 refine tS 10 rfl λK hK=>?_;refine wp_store_row 239 (.tmp 2) (.tmp 22) rfl W.heap.size (cTok t).toArray rfl rfl 239 _ HZV.o.drew (by kernel_rfl) rfl (by kernel_rfl) ?_;refine hK.out _ _ (λh=>absurd h (by decide)) ?_;clear hK K
 try go_frame
 refine zax (by kernel_rfl) ?_;refine NoPanic.normal ?_;clear hHeld;go_wp2_with fail;refine jD (znk rfl (by rfl) (HZV.o.drew.row (cTok t).toArray) underlying239 rfl (by kernel_rfl)) rfl ?_;exact ⟨rfl,Below.setRow HBV.o.drew jy _⟩
theorem zbv (p:Nat) (s:zaa) (L:List Tok) (ov:Value) (i:Nat) (T:List Nod) (a:Int) (x e:Int) (W:World) (h:PR W p s L ov i T a 0):
 Calls prog 262 #[(aA p),.int .i64 x,.int .i64 e] W λu W'=>u=.returned (.tuple #[])/\PR W' p s L ov i T x e/\PTo p W ov W' ov:=by
 obtain ⟨A,cap,c0,c1,c2,c3,c4,c5,cf,hs,hlt⟩:=h.cells;have HF:=Hd (h.fault x e);clear h hs;go_enter func262,ntmps262;go_wp2;refine bE ?_;exact ⟨rfl,HF.o⟩
theorem zd6 (p:Nat) (s:zaa) (L:List Tok) (ov:Value) (i:Nat) (T:List Nod) (a f:Int) (x e:Int) (W:World) (h:PR W p s L ov i T a f) (hf:f≠0):
 Calls prog 262 #[(aA p),.int .i64 x,.int .i64 e] W λu W'=>u=.returned (.tuple #[])/\W=W':=by
 obtain ⟨A,cap,c0,c1,c2,c3,c4,c5,cf,hs,hlt⟩:=h.cells;have f0:(f==0)=false:=by simpa using hf
 clear h hs hf;go_enter func262,ntmps262;go_wp2;refine bE ?_;exact ⟨rfl,rfl⟩
theorem zys (op:Int) (W:World):Calls prog 318 #[.int .i64 op] W λu W'=>(∃b,∃e:Int,u=.returned (.tuple #[.int .i64 (zb4 op),.bool b,.int .i64 e]))/\W=W':=by
 by_cases h1:op=1
 ·subst h1;go_enter func318,ntmps318;go_wp2;go_ret3;exact ⟨⟨_,_,rfl⟩,rfl⟩
 by_cases h2:op=2
 ·subst h2;go_enter func318,ntmps318;go_wp2;go_ret3;exact ⟨⟨_,_,rfl⟩,rfl⟩
 by_cases h3:op=3
 ·subst h3;go_enter func318,ntmps318;go_wp2;go_ret3;exact ⟨⟨_,_,rfl⟩,rfl⟩
 by_cases h4:op=4
 ·subst h4;go_enter func318,ntmps318;go_wp2;go_ret3;exact ⟨⟨_,_,rfl⟩,rfl⟩
 by_cases h5:op=5
 ·subst h5;go_enter func318,ntmps318;go_wp2;go_ret3;exact ⟨⟨_,_,rfl⟩,rfl⟩
 by_cases h6:op=6
 ·subst h6;go_enter func318,ntmps318;go_wp2;go_ret3;exact ⟨⟨_,_,rfl⟩,rfl⟩
 by_cases h7:op=7
 ·subst h7;go_enter func318,ntmps318;go_wp2;go_ret3;exact ⟨⟨_,_,rfl⟩,rfl⟩
 by_cases h8:op=8
 ·subst h8;go_enter func318,ntmps318;go_wp2;go_ret3;exact ⟨⟨_,_,rfl⟩,rfl⟩
 by_cases h9:op=9
 ·subst h9;go_enter func318,ntmps318;go_wp2;go_ret3;exact ⟨⟨_,_,rfl⟩,rfl⟩
 by_cases h10:op=10
 ·subst h10;go_enter func318,ntmps318;go_wp2;go_ret3;exact ⟨⟨_,_,rfl⟩,rfl⟩
 by_cases h11:op=11
 ·subst h11;go_enter func318,ntmps318;go_wp2;go_ret3;exact ⟨⟨_,_,rfl⟩,rfl⟩
 by_cases h12:op=12
 ·subst h12;go_enter func318,ntmps318;go_wp2;go_ret3;exact ⟨⟨_,_,rfl⟩,rfl⟩
 by_cases h13:op=13
 ·subst h13;go_enter func318,ntmps318;go_wp2;go_ret3;exact ⟨⟨_,_,rfl⟩,rfl⟩
 have HE:=Hd (show zb4 op=0 by
  unfold zb4;rw[jS,jS,jS,jS,jS,jS])
 have b1:(op==1)=false:=by simpa using h1
 have b2:(op==2)=false:=by simpa using h2
 have b3:(op==3)=false:=by simpa using h3
 have b4:(op==4)=false:=by simpa using h4
 have b5:(op==5)=false:=by simpa using h5
 have b6:(op==6)=false:=by simpa using h6
 have b7:(op==7)=false:=by simpa using h7
 have b8:(op==8)=false:=by simpa using h8
 have b9:(op==9)=false:=by simpa using h9
 have b10:(op==10)=false:=by simpa using h10
 have b11:(op==11)=false:=by simpa using h11
 have b12:(op==12)=false:=by simpa using h12
 have b13:(op==13)=false:=by simpa using h13
 clear h1 h2 h3 h4 h5 h6 h7 h8 h9 h10 h11 h12 h13;go_enter func318,ntmps318;go_wp2;go_ret3;exact ⟨⟨_,_,by rw[HE.o];rfl⟩,rfl⟩
theorem zly (fn:Nat) (h1:1<=fn) (h2:fn<=50) (W:World):Calls prog 337 #[.int .u8 fn] W λu W'=>u=.returned (.tuple #[.int .i64 (zao fn).1,.int .i64 (zao fn).2.1])/\W=W':=by
 rcases (by omega:fn=1\/fn=2\/fn=3\/fn=4\/fn=5\/fn=6\/fn=7\/fn=8\/fn=9\/fn=10\/fn=11\/fn=12\/fn=13\/fn=14\/fn=15\/fn=16\/fn=17\/fn=18\/fn=19\/fn=20\/fn=21\/fn=22\/fn=23\/fn=24\/fn=25\/fn=26\/fn=27\/fn=28\/fn=29\/fn=30\/fn=31\/fn=32\/fn=33\/fn=34\/fn=35\/fn=36\/fn=37\/fn=38\/fn=39\/fn=40\/fn=41\/fn=42\/fn=43\/fn=44\/fn=45\/fn=46\/fn=47\/fn=48\/fn=49\/fn=50) with rfl|rfl|rfl|rfl|rfl|rfl|rfl|rfl|rfl|rfl|rfl|rfl|rfl|rfl|rfl|rfl|rfl|rfl|rfl|rfl|rfl|rfl|rfl|rfl|rfl|rfl|rfl|rfl|rfl|rfl|rfl|rfl|rfl|rfl|rfl|rfl|rfl|rfl|rfl|rfl|rfl|rfl|rfl|rfl|rfl|rfl|rfl|rfl|rfl|rfl
 all_goals
  go_enter func337,ntmps337;go_wp2;go_ret2;exact ⟨rfl,rfl⟩
theorem zux (fn i:Nat) (h1:1<=fn) (h2:fn<=50) (hi:i<=2000) (W:World):
 Calls prog 352 #[.int .u8 fn,.int .i64 i] W λu W'=>u=.returned (.bool (zcm fn i).1)/\W=W':=by
 have ha:=zi1 fn h1 h2;have HA:=Hd (zly fn h1 h2 W);have i0:(0:Int)<=(i:Int):=by omega
 have HL:=Hd (zt6 fn i ha i0);have HG:=Hd (zt7 fn i ha);clear ha;generalize zcm fn i=w at HL HG ⊢;generalize (zao fn).1=m0 at *;generalize (zao fn).2.1=m1 at *;by_cases hm:(i:Int)<m1;rotate_left
 ·have HE:=Hd (HG.o (by omega));clear HL HG;have hm':m1<=(i:Int):=by omega
  go_enter func352,ntmps352;go_wp2_with fail;refine HA.o.mono ?_;rintro u w1 ⟨rfl,rfl⟩;go_wp2;go_ret;exact ⟨by rw[HE.o];rfl,rfl⟩
 have HE:=Hd (HL.o hm);clear HL HG;have hm':¬m1<=(i:Int):=by omega
 by_cases c9:fn=9
 ·subst c9;have HE2:=Hd (HE.o.trans (by simp;rfl));clear HE;go_enter func352,ntmps352;go_wp2_with fail;refine HA.o.mono ?_;rintro u w1 ⟨rfl,rfl⟩;go_wp2;go_ret;exact ⟨by rw[HE2.o];rfl,rfl⟩
 by_cases c10:fn=10
 ·subst c10;have HE2:=Hd (HE.o.trans (by simp;rfl));clear HE;go_enter func352,ntmps352;go_wp2_with fail;refine HA.o.mono ?_;rintro u w1 ⟨rfl,rfl⟩;go_wp2;go_ret;exact ⟨by rw[HE2.o];rfl,rfl⟩
 by_cases c11:fn=11
 ·subst c11;have HE2:=Hd (HE.o.trans (by simp;rfl));clear HE;go_enter func352,ntmps352;go_wp2_with fail;refine HA.o.mono ?_;rintro u w1 ⟨rfl,rfl⟩;go_wp2;go_ret;exact ⟨by rw[HE2.o];rfl,rfl⟩
 by_cases c12:fn=12
 ·subst c12;have HE2:=Hd (HE.o.trans (by simp;rfl));clear HE;go_enter func352,ntmps352;go_wp2_with fail;refine HA.o.mono ?_;rintro u w1 ⟨rfl,rfl⟩;go_wp2;go_ret;exact ⟨by rw[HE2.o];rfl,rfl⟩
 by_cases c14:fn=14
 ·subst c14;have HE2:=Hd (HE.o.trans (by simp;rfl));clear HE;go_enter func352,ntmps352;go_wp2_with fail;refine HA.o.mono ?_;rintro u w1 ⟨rfl,rfl⟩;go_wp2;go_ret;exact ⟨by rw[HE2.o];rfl,rfl⟩
 by_cases c15:fn=15
 ·subst c15;have HE2:=Hd (HE.o.trans (by simp;rfl));clear HE;go_enter func352,ntmps352;go_wp2_with fail;refine HA.o.mono ?_;rintro u w1 ⟨rfl,rfl⟩;go_wp2;go_ret;exact ⟨by rw[HE2.o];rfl,rfl⟩
 by_cases c16:fn=16
 ·subst c16;have HE2:=Hd (HE.o.trans (by simp;rfl));clear HE;go_enter func352,ntmps352;go_wp2_with fail;refine HA.o.mono ?_;rintro u w1 ⟨rfl,rfl⟩;go_wp2;go_ret;exact ⟨by rw[HE2.o];rfl,rfl⟩
 by_cases c17:fn=17
 ·subst c17;have HE2:=Hd (HE.o.trans (by simp;rfl));clear HE;go_enter func352,ntmps352;go_wp2_with fail;refine HA.o.mono ?_;rintro u w1 ⟨rfl,rfl⟩;go_wp2;go_ret;exact ⟨by rw[HE2.o];rfl,rfl⟩
 by_cases c44:fn=44
 ·subst c44;have HE2:=Hd (HE.o.trans (by simp;rfl));clear HE;go_enter func352,ntmps352;go_wp2_with fail;refine HA.o.mono ?_;rintro u w1 ⟨rfl,rfl⟩;go_wp2;go_ret;exact ⟨by rw[HE2.o];rfl,rfl⟩
 by_cases c18:fn=18
 ·subst c18;have HE2:=Hd (HE.o.trans (show _=(decide ((i:Int)=0),(0:Int)) by simp));clear HE;go_enter func352,ntmps352;go_wp2_with fail;refine HA.o.mono ?_;rintro u w1 ⟨rfl,rfl⟩;go_wp2;go_ret;exact ⟨by rw[HE2.o];rfl,rfl⟩
 by_cases c19:fn=19
 ·subst c19;have HE2:=Hd (HE.o.trans (show _=(decide ((i:Int)=0),(0:Int)) by simp));clear HE;go_enter func352,ntmps352;go_wp2_with fail;refine HA.o.mono ?_;rintro u w1 ⟨rfl,rfl⟩;go_wp2;go_ret;exact ⟨by rw[HE2.o];rfl,rfl⟩
 by_cases c45:fn=45
 ·subst c45;have HE2:=Hd (HE.o.trans (show _=(decide ((i:Int)=0),(0:Int)) by simp));clear HE;go_enter func352,ntmps352;go_wp2_with fail;refine HA.o.mono ?_;rintro u w1 ⟨rfl,rfl⟩;go_wp2;go_ret;exact ⟨by rw[HE2.o];rfl,rfl⟩
 by_cases c43:fn=43
 ·subst c43;have HE2:=Hd (HE.o.trans (show _=(decide ((i:Int)=0),(0:Int)) by simp));clear HE;go_enter func352,ntmps352;go_wp2_with fail;refine HA.o.mono ?_;rintro u w1 ⟨rfl,rfl⟩;go_wp2;go_ret;exact ⟨by rw[HE2.o];rfl,rfl⟩
 by_cases c13:fn=13
 ·subst c13;have HE2:=Hd (HE.o.trans (show _=(decide ((i:Int)=0),(0:Int)) by simp));clear HE;go_enter func352,ntmps352;go_wp2_with fail;refine HA.o.mono ?_;rintro u w1 ⟨rfl,rfl⟩;go_wp2;go_ret;exact ⟨by rw[HE2.o];rfl,rfl⟩
 have HE2:=Hd (HE.o.trans (show _=(relB fn,(0:Int)) by rw[jS,jS,jS]));have HR:=jM (relB fn=(decide ((46:Int)<=fn)&&decide ((fn:Int)<=50))) rfl;clear HE;have b9:((fn:Int)==9)=false:=by simp;omega
 have b10:((fn:Int)==10)=false:=by simp;omega
 have b11:((fn:Int)==11)=false:=by simp;omega
 have b12:((fn:Int)==12)=false:=by simp;omega
 have b14:((fn:Int)==14)=false:=by simp;omega
 have b15:((fn:Int)==15)=false:=by simp;omega
 have b16:((fn:Int)==16)=false:=by simp;omega
 have b17:((fn:Int)==17)=false:=by simp;omega
 have b44:((fn:Int)==44)=false:=by simp;omega
 have b18:((fn:Int)==18)=false:=by simp;omega
 have b19:((fn:Int)==19)=false:=by simp;omega
 have b45:((fn:Int)==45)=false:=by simp;omega
 have b43:((fn:Int)==43)=false:=by simp;omega
 have b13:((fn:Int)==13)=false:=by simp;omega
 clear c9 c10 c11 c12 c14 c15 c16 c17 c44 c18 c19 c45 c43 c13;by_cases g1:(46:Int)<=(fn:Int)
 ·have g2:(fn:Int)<=50:=by omega
  have HR2:=jM (relB fn=true) (by rw[HR.o];simp;omega);clear HR;go_enter func352,ntmps352;go_wp2_with fail;refine HA.o.mono ?_;rintro u w1 ⟨rfl,rfl⟩;go_wp2;go_ret;exact ⟨by rw[HE2.o,HR2.o];rfl,rfl⟩
 have HR2:=jM (relB fn=false) (by rw[HR.o];simp;omega);clear HR;go_enter func352,ntmps352;go_wp2_with fail;refine HA.o.mono ?_;rintro u w1 ⟨rfl,rfl⟩;go_wp2;go_ret;exact ⟨by rw[HE2.o,HR2.o];rfl,rfl⟩
theorem z2d (p:Nat) (s:zaa) (L:List Tok) (ov:Value) (i:Nat) (T:List Nod) (a f k:Int) (W:World) (h:PR W p s L ov i T a f) (hn:L.length<=1000000):
 Calls prog 297 #[(aA p),.int .i64 k] W λu W'=>u=.returned (.bool (decide ((zak s.length (L.drop i,T)).kind=8)&&decide (zb4 (zak s.length (L.drop i,T)).num=k)))/\Below W W W':=by
 have HH:=Hd h;clear h;obtain ⟨t,ht⟩:=jN (zak s.length (L.drop i,T));rw[ht];have HT:=Hd ht;clear ht;obtain ⟨z,hz⟩:=jN (decide (t.kind=8)&&decide (zb4 t.num=k));rw[hz];have HZ:=Hd hz;clear hz;go_enter func297,ntmps297;go_wp2_with fail;refine (zc5 p s L ov i T a f _ HH.o hn).mono ?_;rintro u w1 ⟨rfl,hb1⟩;rw[HT.o];have HB2:=jM (Below W W (w1.alloc (.cells (cTok t).toArray 239))) (hb1.alloc hb1.size _);have K2:=Hd (je w1 239 (cTok t).toArray);clear hb1;rw[show (cTok t).toArray=#[.int .u8 t.kind,.int .i64 t.num,str t.text,.int .i64 t.rect.c1,.int .i64 t.rect.r1,.int .i64 t.rect.c2,.int .i64 t.rect.r2,.int .i64 t.at_] from rfl] at HB2 K2 ⊢;go_wp2_with fail;refine (zys t.num _).mono ?_;rintro u w2 ⟨⟨b,e,rfl⟩,rfl⟩;generalize zb4 t.num=q at HZ ⊢;by_cases hk:t.kind=8
 ·have hk':(t.kind==8)=true:=by simpa using hk
  have HD:=jM ((q==k)=z) (by rw[<- HZ.o,jB hk,Bool.true_and,Bool.eq_iff_iff];simp);clear hk;go_wp2;go_ret;exact ⟨congrArg (λx=>Ending.returned (.bool x)) HD.o,HB2.o⟩
 have hk':(t.kind==8)=false:=by simpa using hk
 have HD:=jM (false=z) (by rw[<- HZ.o,jA hk,Bool.false_and]);clear hk;go_wp2;go_ret;exact ⟨congrArg (λx=>Ending.returned (.bool x)) HD.o,HB2.o⟩
theorem zfk {c:α->List Value} {l:List α} (h:Own c e k w v l):∃A cap,v=.slice A l.length cap/\l.length<=maxLen:=by
 rcases h.2 with ⟨rfl,he⟩ | ⟨g,cap,cur,rfl,_,_,h1,h2,_⟩
 ·exact ⟨none,0,by rw[he],by omega⟩
 exact ⟨_,cap,rfl,jx h1 h2⟩
theorem PR.putAt {s:zaa} {L:List Tok} {T:List Nod} (h:PR W p s L ov i T a f) (hbW:Below W W W')
 (o9:Own cNod 297 11 W9 ov9 (T++ [n])) (t9:OutTo W' ov W9 ov9):
 PR (W9.setCell ⟨p,3,none⟩ ov9) p s L ov9 i (T++ [n]) a f/\PTo p W ov (W9.setCell ⟨p,3,none⟩ ov9) ov9:=by
 obtain ⟨lv,hb,hs⟩:=h.bx;have hlt:=h.lt;have hne:=h.ne;have hsz:=hbW.size;have hne9:ov9.ownBlock≠some p:=λe=>by
  rcases t9.own p e with e | e
  ·exact hne e
  omega
 have hb9:=(hb.below_ hbW).outTo t9 hne;have hs9:Sls cTok W9 p lv L:=(hs.below (hbW.mono (jF hlt))).below (t9.old (by omega) (λk hk=>by have:=h.ob k hk;omega));have hc:Chg (λk=>k=p) W9 (W9.setCell (p,3) ov9):=(Chg.refl (λk=>k=p) W9).setCell (p:=(p,3)) (.inl rfl) ov9;have hlt9:p<W9.heap.size:=hb9.lt;refine ⟨⟨⟨lv,?_,?_⟩,o9.chg hc (λq hq e=>hne9 (by rw[hq,e])),λk hk=>?_⟩,⟨?_,λk hk=>?_⟩⟩
 ·exact hb9.set_ 3 ov9
 ·exact Sl.chg hs9 hc (jF hlt9) (λk hk e=>by omega)
 ·rcases t9.own k hk with e | e
  ·exact h.ob k e
  omega
 ·have h1:Chg (λk=>k=p\/ov.ownBlock=some k) W W9:=Chg.trans (Chg.of_below hbW _ (λk hk _=>hk)) (t9.chg.mono (λk _ e=>.inr e));exact h1.trans (hc.mono (λk _ e=>.inl e))
 rcases t9.own k hk with e | e
 ·exact .inl e
 exact .inr (by omega)
theorem PR.step {s:zaa} {L:List Tok} {T:List Nod} (h:PR W p s L ov i T a f):PR (W.setCell (p,2) (.int .i64 ((i:Int)+1))) p s L ov (i+1) T a f/\PTo p W ov (W.setCell (p,2) (.int .i64 ((i:Int)+1))) ov:=h.next (i+1)
theorem PR.slot {s:zaa} {L:List Tok} {T:List Nod} (h:PR W p s L ov i T a f) (hbW:Below W W W') (t9:OutTo W' ov W9 ov9):
 W9.cell? ⟨p,3,none⟩=some ov/\W9.frozen? ⟨p,3,none⟩=false:=by
 obtain ⟨lv,hb,hs⟩:=h.bx;have hb9:=(hb.below_ hbW).outTo t9 h.ne;exact ⟨hb9.cell 3,hb9.frozen 3⟩
section
variable {w:World} {ops:Array Oper} {rest:List Oper} {o:Oper} {a:Act} {Q:Exit->Act->World->Prop}
theorem zbm (hgd:o.guard=none) (sx x:Operand) (ho:o.op=.call { callee:=.builtin .append,args:=#[sx,x],argTypes:=#[190,190] })
 (n:Nod) {ov:Value} {T:List Nod} {g:Nat} (hown:Own cNod 297 11 w ov T) (hb:Blk w g 297 (cNod n).toArray) (hs:a.eval sx=ov) (hx:a.eval x=.slice (some ⟨g,0,none⟩) 1 1)
 (hn:T.length<=100000)
 (h:∀A m cap w9,Own cNod 297 11 w9 (.slice A m cap) (T++ [n])->OutTo w ov w9 (.slice A m cap)->wpList prog ops Q rest (a.put o.dst (.slice A m cap)) w9):wpList prog ops Q (o::rest) a w:=by
 obtain ⟨it,i0,i1,i2,i3⟩:=zeu;refine zal cNod hgd sx x 190 ho 297 it _ 11 96 underlying190 i0 i1 i2 i3 rfl (by omega) ov T hs hown _ _ [n] hx (Sls.one (x:=n) hb rfl) zbx zew (by simp;omega) (by omega) ?_;intro v9 w9 o9 t9;obtain ⟨A,cap,e, -⟩:=zfk o9;subst e;exact h _ _ _ _ o9 t9
end
section
variable {p:Nat} {s:zaa} {L:List Tok} {ov:Value} {i:Nat} {T:List Nod} {a f K:Int}
theorem zgc (W:World) (h:PR W p s L ov i T a f) (hn:L.length<=100000) (hK:K≠0) (hk:(zak s.length (L.drop i,T)).kind=K):
 Calls prog 348 #[(aA p),.int .u8 K] W λu W'=>u=.returned (.tuple #[])/\i<L.length/\PR W' p s L ov (i+1) T a f/\PTo p W ov W' ov:=by
 have hlt:i<L.length:=zg7 (e:=s.length) (T:=T) (by rw[hk];exact hK);have HH:=Hd h;have hi0:(0:Int)<=(i:Int):=jw _;have hi1:(i:Int)<=100000:=by omega
 have HL:=Hd hlt;clear h hlt;go_enter func348,ntmps348;go_wp2_with fail;refine (zc5 p s L ov i T a f _ HH.o (by omega)).mono ?_;rintro u w1 ⟨rfl,hb1⟩;have H1:=HH.o.below hb1;obtain ⟨A,cap,c0,c1,c2,c3,c4,c5,cf,hs,hlt⟩:=H1.cells;have HS:=Hd H1.step;have HT:=Hd (PTo.below (PTo.refl p W ov) hb1);generalize zak s.length (L.drop i,T)=t at *;have hf0:∀W,(Instr.field 239 (.agg t) 0).run prog W=.ok (.int .u8 t.kind) W:=λ_=>by rfl
 have hk':(t.kind != K)=false:=by simpa using hk
 clear hk hs hb1 c0 c1 c3 c4 c5 H1;rw[show (cTok t).toArray=#[.int .u8 t.kind,.int .i64 t.num,str t.text,.int .i64 t.rect.c1,.int .i64 t.rect.r1,.int .i64 t.rect.c2,.int .i64 t.rect.r2,.int .i64 t.at_] from rfl];go_wp2;refine bE ?_;exact ⟨rfl,HL.o,HS.o.1,HT.o.trans HS.o.2⟩
theorem zks (W:World) (h:PR W p s L ov i T a 0) (hn:L.length<=100000) (hk:(zak s.length (L.drop i,T)).kind≠K):
 Calls prog 348 #[(aA p),.int .u8 K] W λu W'=>u=.returned (.tuple #[])/\PR W' p s L ov i T (zak s.length (L.drop i,T)).at_ 4/\PTo p W ov W' ov:=by
 have HH:=Hd h;clear h;go_enter func348,ntmps348;go_wp2_with fail;refine (zc5 p s L ov i T a 0 _ HH.o (by omega)).mono ?_;rintro u w1 ⟨rfl,hb1⟩;have H1:=Hd (HH.o.below hb1);have T1:=Hd (PTo.below (PTo.refl p W ov) hb1);have HC:=Hd (zc5 p s L ov i T a 0 _ H1.o (by omega));obtain ⟨t,hgt⟩:=jN (zak s.length (L.drop i,T));rw[hgt] at hk HC ⊢;have HG:=Hd hgt;clear hgt;have hf0:∀W,(Instr.field 239 (.agg t) 0).run prog W=.ok (.int .u8 t.kind) W:=λ_=>by rfl
 have hf4:∀W,(Instr.field 239 (.agg t) 4).run prog W=.ok (.int .i64 t.at_) W:=λ_=>by rfl
 have hk':(t.kind != K)=true:=by simpa using hk
 clear hk hb1;rw[show (cTok t).toArray=#[.int .u8 t.kind,.int .i64 t.num,str t.text,.int .i64 t.rect.c1,.int .i64 t.rect.r1,.int .i64 t.rect.c2,.int .i64 t.rect.r2,.int .i64 t.at_] from rfl] at HC ⊢;go_wp2_with fail;refine HC.o.mono ?_;rintro u w2 ⟨rfl,hb2⟩;have H2:=Hd (H1.o.below hb2);have T2:=Hd (PTo.below T1.o hb2);clear hb2;go_wp2_with fail;refine (zbv p s L ov i T a t.at_ 4 _ H2.o).mono ?_;rintro u w3 ⟨rfl,h3,t3⟩;have H3:=Hd h3;have T3:=Hd (T2.o.trans t3);clear h3 t3;go_wp2;refine bR ?_;exact ⟨rfl,by rw[HG.o];exact H3.o,T3.o⟩
theorem zng (W:World) (h:PR W p s L ov i T a f) (hf:f≠0) (hK:K≠0) (hn:L.length<=100000) (hi:i<=L.length+1):
 Calls prog 348 #[(aA p),.int .u8 K] W λu W'=>u=.returned (.tuple #[])/\(∃i',i'<=L.length+1/\PR W' p s L ov i' T a f)/\PTo p W ov W' ov:=by
 by_cases hk:(zak s.length (L.drop i,T)).kind=K
 ·refine (zgc W h hn hK hk).mono ?_;rintro u W' ⟨h1,h2,h3,h4⟩;exact ⟨h1,⟨i+1,by omega,h3⟩,h4⟩
 have HH:=Hd h;clear h;go_enter func348,ntmps348;go_wp2_with fail;refine (zc5 p s L ov i T a f _ HH.o (by omega)).mono ?_;rintro u w1 ⟨rfl,hb1⟩;have H1:=Hd (HH.o.below hb1);have T1:=Hd (PTo.below (PTo.refl p W ov) hb1);have HC:=Hd (zc5 p s L ov i T a f _ H1.o (by omega));generalize zak s.length (L.drop i,T)=t at *;have hf0:∀W,(Instr.field 239 (.agg t) 0).run prog W=.ok (.int .u8 t.kind) W:=λ_=>by rfl
 have hf4:∀W,(Instr.field 239 (.agg t) 4).run prog W=.ok (.int .i64 t.at_) W:=λ_=>by rfl
 have hk':(t.kind != K)=true:=by simpa using hk
 clear hk hb1;rw[show (cTok t).toArray=#[.int .u8 t.kind,.int .i64 t.num,str t.text,.int .i64 t.rect.c1,.int .i64 t.rect.r1,.int .i64 t.rect.c2,.int .i64 t.rect.r2,.int .i64 t.at_] from rfl] at HC ⊢;go_wp2_with fail;refine HC.o.mono ?_;rintro u w2 ⟨rfl,hb2⟩;have H2:=Hd (H1.o.below hb2);have T2:=Hd (PTo.below T1.o hb2);clear hb2;go_wp2_with fail;refine (zd6 p s L ov i T a f t.at_ 4 _ H2.o hf).mono ?_;rintro u w3 ⟨rfl,rfl⟩;go_wp2;refine bR ?_;exact ⟨rfl,⟨i,hi,H2.o⟩,T2.o⟩
end
def zmy (p:Nat) (s:zaa) (L:List Tok) (W:World) (ov:Value) (a:Int) (m:Nat) (r:PRes) (u:Ending) (W':World):Prop:=
 u=.returned (.tuple #[])/\∃ov' i' T',PTo p W ov W' ov'/\match r with
  | .ok st'=>i'<=L.length/\st'=(L.drop i',T')/\PR W' p s L ov' i' T' a 0
  | .error x=>x.2≠0/\i'<=L.length+1/\T'.length<=m/\PR W' p s L ov' i' T' x.1 x.2
def RunR (fn:Nat) (args:Nat->Array Value) (s:zaa) (L:List Tok) (f:Nat) (g:Stg):Prop:=
 ∀(p:Nat) (ov:Value) (i:Nat) (T:List Nod) (a:Int) (W:World),PR W p s L ov i T a 0->i<=L.length->L.length-i+T.length<=2000->zbg g (L.length-i)<=f->f<=5000->
  Calls prog fn (args p) W (zmy p s L W ov a (T.length+(L.length-i)+f) (parS s.length f g (L.drop i,T)))
section
variable {p:Nat} {s:zaa} {L:List Tok} {W W':World} {ov:Value} {a:Int} {m:Nat} {r:PRes} {u:Ending}
theorem zbd (h:zmy p s L W ov a m r u W'):
 (∃i' T' ov',r=.ok (L.drop i',T')/\i'<=L.length/\u=.returned (.tuple #[])/\PR W' p s L ov' i' T' a 0/\PTo p W ov W' ov')\/
 (∃x er i' T' ov',r=.error (x,er)/\er≠0/\i'<=L.length+1/\T'.length<=m/\u=.returned (.tuple #[])/\PR W' p s L ov' i' T' x er/\PTo p W ov W' ov'):=by
 obtain ⟨hu,ov',i',T',ht,h⟩:=h
 cases r with
 | error x=>exact .inr ⟨x.1,x.2,i',T',ov',rfl,h.1,h.2.1,h.2.2.1,hu,h.2.2.2,ht⟩
 | ok st'=>exact .inl ⟨i',T',ov',by rw[h.2.1],h.1,hu,h.2.2,ht⟩
theorem zbs {T':List Nod} (hr:r=.ok (L.drop i',T')) (hi:i'<=L.length) (h1:PR W' p s L ov' i' T' a 0) (h2:PTo p W ov W' ov'):zmy p s L W ov a m r (.returned (.tuple #[])) W':=by
 subst hr;exact ⟨rfl,ov',i',T',h2,hi,rfl,h1⟩
theorem za8 {T':List Nod} (hr:r=.error (x,er)) (he:er≠0) (hi:i'<=L.length+1) (hm:T'.length<=m) (h1:PR W' p s L ov' i' T' x er) (h2:PTo p W ov W' ov'):zmy p s L W ov a m r (.returned (.tuple #[])) W':=by
 subst hr;exact ⟨rfl,ov',i',T',h2,he,hi,hm,h1⟩
end
theorem zmb {e:Int} {f:Nat} {L:List Tok} {T T':List Nod} (h:parS e f g (L.drop i,T)=.ok (L.drop i',T')) (hi:i<=L.length) (hi':i'<=L.length):
 i+za0 g<=i'/\L.length-i'+T'.length<=L.length-i+T.length:=by
 have:=za4 e f g _ _ h;simp only[jp] at this;omega
theorem z32 (n:Int):zb4 n=7↔n=13:=by
 unfold zb4
 repeat' split
 all_goals omega
theorem z33 (n:Int):zb4 n=6↔n=5:=by
 unfold zb4
 repeat' split
 all_goals omega
theorem z2b (s:zaa) (L:List Tok) (hL:L.length<=1000) (f:Nat) (hs:RunR 296 one1 s L f .sign) (hp:RunR 317 one1 s L f .pct):RunR 296 one1 s L (f+1) .sign:=by
 intro p ov i T a W h hi hn hf hf5;have HS:=Hd hs;have HPC:=Hd hp;have HH:=Hd h;simp only[zbg] at hf;have HR:Hid (parS s.length (f+1) .sign (L.drop i,T)=if zc3 s.length (L.drop i,T) 2 then thenS (parS s.length f .sign (zap (L.drop i,T))) λst=>.ok (putS (nod0 4) st) else thenS (parS s.length f .pct (L.drop i,T)) λst=>if zc3 s.length st 5 then thenS (parS s.length f .sign (zap st)) λst=>.ok (putS { nod0 6 with op:=5 } st) else .ok st):=Hd rfl;generalize parS s.length (f+1) .sign (L.drop i,T)=R at HR ⊢;have HHL:Hid ((zak s.length (L.drop i,T)).kind≠0->i<L.length):=Hd zg7;have HI:Hid (zc3 s.length (L.drop i,T) 2=(decide ((zak s.length (L.drop i,T)).kind=8)&&decide ((zak s.length (L.drop i,T)).num=2))):=Hd rfl;have hi0:(0:Int)<=(i:Int):=jw _;have hi9:(i:Int)<=1000:=by omega
 clear hs hp h;unfold one1;go_enter func296,ntmps296;go_wp2_with fail;refine (zc5 p s L ov i T a 0 _ HH.o (by omega)).mono ?_;rintro u w1 ⟨rfl,hb1⟩;generalize zak s.length (L.drop i,T)=t at *;have KT1:=Hd (je w1 239 (cTok t).toArray);have HB1:=jM (Below W W (w1.alloc (.cells (cTok t).toArray 239))) (hb1.alloc hb1.size _);have HH1:=Hd (HH.o.below HB1.o);have P1:=Hd (PTo.below (PTo.refl p W ov) HB1.o);have HS1:=Hd hb1.size;clear hb1;obtain ⟨V1,hV1⟩:=jN (w1.alloc (.cells (cTok t).toArray 239));rw[hV1] at KT1 HB1 HH1 P1;rw[show (cTok t).toArray=#[.int .u8 t.kind,.int .i64 t.num,str t.text,.int .i64 t.rect.c1,.int .i64 t.rect.r1,.int .i64 t.rect.c2,.int .i64 t.rect.r2,.int .i64 t.at_] from rfl] at hV1 ⊢;obtain ⟨g1,hg1⟩:∃g,g=w1.heap.size:=⟨_,rfl⟩;rw[<- hg1] at KT1 HS1;go_upto_region 1 with (fail)
 rw[<- hg1];clear hV1 hg1;obtain ⟨x0,x1⟩:V1.cell? (g1,0)=some (.int .u8 t.kind)/\V1.cell? (g1,1)=some (.int .i64 t.num):=KT1.o.c2 0 1;by_cases h82:t.kind=8/\t.num=2
 ·obtain ⟨h8,h2⟩:=h82;have b8:(t.kind==8)=true:=by simpa using h8
  have b2:(t.num==2)=true:=by simpa using h2
  have HR2:=Hd (HR.o.trans (jb (by rw[HI.o,h8,h2];rfl)));have hil:i<L.length:=HHL.o (by omega);obtain ⟨_,_, -, -,c2, -, -, -,cf, -,dl⟩:=HH1.o.cells;have H2:=Hd HH1.o.step;clear h8 h2 HR HI HHL;go_wp2_with fail;refine (HS.o p ov (i+1) T a _ H2.o.1 (by omega) (by omega) (by simp only[zbg];omega) (by omega)).mono ?_;intro u w3 hw;clear c2 cf dl x0 x1;have P2:=Hd (P1.o.trans H2.o.2);rcases zbd hw with ⟨i3,T3,ov3,hr,hi3,rfl,ha,ht⟩ | ⟨x,er,i3,T3,ov3,hr,he,hi3,hm,rfl,ha,ht⟩
  ·have HL3:=Hd (zmb hr (by omega) hi3);have HR3:=jM (R=.ok (L.drop i3,T3++ [(nod0 4)])) (by rw[HR2.o,za1,hr];rfl);have H3:=Hd ha;have P3:=Hd (P2.o.trans ht);have hT3:T3.length<=2000:=by have:=HL3.o;omega
   clear ha ht hr hw;have KN4:=Hd (je w3 297 (cNod (nod0 4)).toArray);have HN4:=Hd (H3.o.ow.alloc (.cells (cNod (nod0 4)).toArray 297));have HW4:=jM (Below w3 w3 (w3.alloc (.cells (cNod (nod0 4)).toArray 297))) (by go_grown);obtain ⟨_,_, -, -, -,d3, -, -,df, -,dl⟩:=H3.o.cells;go_wp2_with (at_builtin;refine ju ?_);refine Hd ?_;refine zbm rfl _ _ rfl (nod0 4) HN4.o KN4.o rfl rfl (by omega) ?_;intro A4 m4 cp4 y4 o4 q4;have HF4:=Hd (H3.o.putAt HW4.o o4 q4);obtain ⟨e3,e3f⟩:=H3.o.slot HW4.o q4;clear o4 q4 d3 df dl;go_wp2;refine bR ?_;exact zbs HR3.o (by omega) HF4.o.1 (P3.o.trans HF4.o.2)
  have HR3:=jM (R=.error (x,er)) (by rw[HR2.o,za1,hr];rfl);have H3:=Hd ha;have P3:=Hd (P2.o.trans ht);have hT3:T3.length<=9000:=by omega
  clear ha ht hr hw;have KN4:=Hd (je w3 297 (cNod (nod0 4)).toArray);have HN4:=Hd (H3.o.ow.alloc (.cells (cNod (nod0 4)).toArray 297));have HW4:=jM (Below w3 w3 (w3.alloc (.cells (cNod (nod0 4)).toArray 297))) (by go_grown);obtain ⟨_,_, -, -, -,d3, -, -,df, -,dl⟩:=H3.o.cells;go_wp2_with (at_builtin;refine ju ?_);refine Hd ?_;refine zbm rfl _ _ rfl (nod0 4) HN4.o KN4.o rfl rfl (by omega) ?_;intro A4 m4 cp4 y4 o4 q4;have HF4:=Hd (H3.o.putAt HW4.o o4 q4);obtain ⟨e3,e3f⟩:=H3.o.slot HW4.o q4;clear o4 q4 d3 df dl;go_wp2;refine bR ?_;exact za8 HR3.o he hi3 (by simp;omega) HF4.o.1 (P3.o.trans HF4.o.2)
 have HR2:=Hd (HR.o.trans (ja (by rw[HI.o,ji,decide_eq_true_eq,decide_eq_true_eq];exact h82)));have HC:=Hd (HPC.o p ov i T a V1 HH1.o hi hn (by simp only[zbg];omega) (by omega));clear HR HI HHL;by_cases h8:t.kind=8
 case' pos=>
  have b8:(t.kind==8)=true:=by simpa using h8
  have b2:(t.num==2)=false:=by simp only[jI,ne_eq];exact λe=>h82 ⟨h8,e⟩
 case' neg=>have b8:(t.kind==8)=false:=by simpa using h8
 all_goals
  clear h82 h8;go_wp2_with fail;refine HC.o.mono ?_;intro u w2 hw;clear x0 x1;rcases zbd hw with ⟨i2,T2,ov2,hr,hi2,rfl,ha,ht⟩ | ⟨x,er,i2,T2,ov2,hr,he,hi2,hm,rfl,ha,ht⟩
  ·have HL2:=Hd (zmb hr (by omega) hi2);have HR3:=jM (R=if zc3 s.length (L.drop i2,T2) 5 then thenS (parS s.length f .sign (zap (L.drop i2,T2))) λst=>.ok (putS { nod0 6 with op:=5 } st) else .ok (L.drop i2,T2)) (by rw[HR2.o,hr];rfl);have H2:=Hd ha;have P2:=Hd (P1.o.trans ht);have hT2:L.length-i2+T2.length<=2000:=by have:=HL2.o;omega
   have hT2':i+1<=i2:=by have:=HL2.o;simp only[za0] at this;omega
   have HO:=Hd (z2d p s L ov2 i2 T2 a 0 6);have HE:Hid (zc3 s.length (L.drop i2,T2) 5=(decide ((zak s.length (L.drop i2,T2)).kind=8)&&decide (zb4 (zak s.length (L.drop i2,T2)).num=6))):=Hd (by unfold zc3;simp only[z33]);have HHL:Hid (zc3 s.length (L.drop i2,T2) 5=true->i2<L.length):=Hd (λh=>by have:=zdb h;simp only[jp] at this;omega);have hi02:(0:Int)<=(i2:Int):=jw _;have hi92:(i2:Int)<=1000:=by omega
   clear ha ht hr hw HR2;obtain ⟨_,_, -, -, -, -, -,c5, -, -,dl⟩:=H2.o.cells;go_wp2_with fail;refine (HO.o _ H2.o (by omega)).mono ?_;rintro u w3 ⟨rfl,hb3⟩;rw[<- HE.o];have H3:=Hd (H2.o.below hb3);have P3:=Hd (PTo.below P2.o hb3);clear hb3 c5 dl;cases hq:zc3 s.length (L.drop i2,T2) 5
   ·have HR4:=jM (R=.ok (L.drop i2,T2)) (by rw[HR3.o,hq];rfl);clear hq;go_wp2;refine bE ?_;exact zbs HR4.o hi2 H3.o P3.o
   have HR4:=jM (R=thenS (parS s.length f .sign (zap (L.drop i2,T2))) λst=>.ok (putS { nod0 6 with op:=5 } st)) (by rw[HR3.o,hq];rfl);have hil:i2<L.length:=HHL.o hq;clear hq HHL HR3;obtain ⟨_,_, -, -,c2, -, -, -,cf, -,dl⟩:=H3.o.cells;have H4:=Hd H3.o.step;go_wp2_with fail;refine (HS.o p ov2 (i2+1) T2 a _ H4.o.1 (by omega) (by omega) (by simp only[zbg];omega) (by omega)).mono ?_;intro u w3 hw;clear c2 cf dl;have P4:=Hd (P3.o.trans H4.o.2);rcases zbd hw with ⟨i3,T3,ov3,hr,hi3,rfl,ha,ht⟩ | ⟨x,er,i3,T3,ov3,hr,he,hi3,hm,rfl,ha,ht⟩
   ·have HL3:=Hd (zmb hr (by omega) hi3);have HR3:=jM (R=.ok (L.drop i3,T3++ [{ nod0 6 with op:=5 }])) (by rw[HR4.o,za1,hr];rfl);have H3:=Hd ha;have P3:=Hd (P4.o.trans ht);have hT3:T3.length<=2000:=by have:=HL3.o;omega
    clear ha ht hr hw;have KN4:=Hd (je w3 297 (cNod { nod0 6 with op:=5 }).toArray);have HN4:=Hd (H3.o.ow.alloc (.cells (cNod { nod0 6 with op:=5 }).toArray 297));have HW4:=jM (Below w3 w3 (w3.alloc (.cells (cNod { nod0 6 with op:=5 }).toArray 297))) (by go_grown);obtain ⟨_,_, -, -, -,d3, -, -,df, -,dl⟩:=H3.o.cells;go_wp2_with (at_builtin;refine ju ?_);refine Hd ?_;refine zbm rfl _ _ rfl { nod0 6 with op:=5 } HN4.o KN4.o rfl rfl (by omega) ?_;intro A4 m4 cp4 y4 o4 q4;have HF4:=Hd (H3.o.putAt HW4.o o4 q4);obtain ⟨e3,e3f⟩:=H3.o.slot HW4.o q4;clear o4 q4 d3 df dl;go_wp2;refine bE ?_;exact zbs HR3.o (by omega) HF4.o.1 (P3.o.trans HF4.o.2)
   have HR3:=jM (R=.error (x,er)) (by rw[HR4.o,za1,hr];rfl);have H3:=Hd ha;have P3:=Hd (P4.o.trans ht);have hT3:T3.length<=9000:=by omega
   clear ha ht hr hw;have KN4:=Hd (je w3 297 (cNod { nod0 6 with op:=5 }).toArray);have HN4:=Hd (H3.o.ow.alloc (.cells (cNod { nod0 6 with op:=5 }).toArray 297));have HW4:=jM (Below w3 w3 (w3.alloc (.cells (cNod { nod0 6 with op:=5 }).toArray 297))) (by go_grown);obtain ⟨_,_, -, -, -,d3, -, -,df, -,dl⟩:=H3.o.cells;go_wp2_with (at_builtin;refine ju ?_);refine Hd ?_;refine zbm rfl _ _ rfl { nod0 6 with op:=5 } HN4.o KN4.o rfl rfl (by omega) ?_;intro A4 m4 cp4 y4 o4 q4;have HF4:=Hd (H3.o.putAt HW4.o o4 q4);obtain ⟨e3,e3f⟩:=H3.o.slot HW4.o q4;clear o4 q4 d3 df dl;go_wp2;refine bE ?_;exact za8 HR3.o he hi3 (by have:=HL2.o;simp;omega) HF4.o.1 (P3.o.trans HF4.o.2)
  have HR3:=jM (R=.error (x,er)) (by rw[HR2.o,hr];rfl);have H2:=Hd ha;have P2:=Hd (P1.o.trans ht);clear ha ht hr hw HR2;obtain ⟨_,_, -, -, -, -, -,c5, -, -,dl⟩:=H2.o.cells;have e5:(er==0)=false:=by simpa using he
  go_wp2;refine bE ?_;exact za8 HR3.o he hi2 (by omega) H2.o P2.o
def PcR (p:Nat) (s:zaa) (L:List Tok) (W:World) (ov:Value) (a:Int) (n m f:Nat) (R:PRes) (wr:World):Prop:=
 (∃f' i' T' ov',R=parS s.length f' .pctl (L.drop i',T')/\i'<=L.length/\10*(L.length-i')+2<=f'/\f'<=f/\L.length-i'+T'.length<=n/\PR wr p s L ov' i' T' a 0/\PTo p W ov wr ov')\/
 (∃x er i' T' ov',R=.error (x,er)/\er≠0/\i'<=L.length+1/\T'.length<=m/\PR wr p s L ov' i' T' x er/\PTo p W ov wr ov')
def zl9 (p n:Nat) (w:World):Nat:=match w.cell? (p,5),w.cell? (p,2) with
 | some (.int _ f),some (.int _ i)=>if f=0 then n+1-i.toNat else 0
 | _,_=>0
section
variable {W:World} {p:Nat} {s:zaa} {L:List Tok} {ov:Value} {i:Nat} {T:List Nod} {a f:Int}
theorem zge (h:PR W p s L ov i T a 0) (n:Nat):zl9 p n W=n+1-i:=by
 obtain ⟨_,_, -, -,c2, -, -,c5, -⟩:=h.cells;unfold zl9;rw[c2,c5];simp
theorem zoa (h:PR W p s L ov i T a f) (hf:f≠0) (n:Nat):zl9 p n W=0:=by
 obtain ⟨_,_, -, -,c2, -, -,c5, -⟩:=h.cells;unfold zl9;rw[c2,c5];simp[hf]
end
theorem zsk (s:zaa) (L:List Tok) (hL:L.length<=1000) (f:Nat) (hl:RunR 334 one1 s L f .prim):RunR 317 one1 s L (f+1) .pct:=by
 intro p ov i T a W h hi hn hf hf5;have HL:=Hd hl;have HH:=Hd h;simp only[zbg] at hf;have HR:Hid (parS s.length (f+1) .pct (L.drop i,T)=thenS (parS s.length f .prim (L.drop i,T)) (parS s.length f .pctl)):=Hd rfl;have HLP:Hid (∀f st,parS s.length (f+1) .pctl st=if zc3 s.length st 13 then parS s.length f .pctl (putS (nod0 5) (zap st)) else .ok st):=Hd (λf st=>rfl);generalize parS s.length (f+1) .pct (L.drop i,T)=R at HR ⊢;clear hl h;unfold one1;go_enter func317,ntmps317;go_wp2_with fail;refine (HL.o p ov i T a W HH.o hi hn (by simp only[zbg];omega) (by omega)).mono ?_;intro u w3 hw;have HLP0:Hid (u=.returned (.tuple #[])/\PcR p s L W ov a (L.length-i+T.length) (T.length+(L.length-i)+(f+1)) f R w3):=Hd (by
  rcases zbd hw with ⟨i3,T3,ov3,hr,hi3,rfl,ha,ht⟩ | ⟨x,er,i3,T3,ov3,hr,he,hi3,hm,rfl,ha,ht⟩
  ·have hl3:=zmb hr hi hi3;simp only[za0] at hl3;exact ⟨rfl,.inl ⟨f,i3,T3,ov3,by rw[HR.o,hr];rfl,hi3,by omega,Nat.le_refl _,by omega,ha,ht⟩⟩
  exact ⟨rfl,.inr ⟨x,er,i3,T3,ov3,by rw[HR.o,hr];rfl,he,hi3,by omega,ha,ht⟩⟩)
 clear hw;obtain rfl:=HLP0.o.1;go_wp2_with fail;go_loopw [4] (λ_ wr=>PcR p s L W ov a (L.length-i+T.length) (T.length+(L.length-i)+(f+1)) f R wr) (λ_ wr=>zl9 p L.length wr)
 case atStart=>exact HLP0.o.2
 rcases hrel with ⟨f',i',T',ov',hr,hi',hf',hff,hn',ha,ht⟩ | ⟨x,er,i',T',ov',hr,he,hi',hm,ha,ht⟩
 ·obtain ⟨f2,rfl⟩:∃f2,f'=f2+1:=⟨f'-1,by omega⟩;have HR2:=Hd (hr.trans (HLP.o f2 (L.drop i',T')));have HM:=Hd (zge ha L.length);have H4:=Hd ha;have P4:=Hd ht;have HO:=Hd (z2d p s L ov' i' T' a 0 7);have HE:Hid (zc3 s.length (L.drop i',T') 13=(decide ((zak s.length (L.drop i',T')).kind=8)&&decide (zb4 (zak s.length (L.drop i',T')).num=7))):=Hd (by unfold zc3;simp only[z32]);have HHL:Hid (zc3 s.length (L.drop i',T') 13=true->i'<L.length):=Hd (λh=>by have:=zdb h;simp only[jp] at this;omega);obtain ⟨_,_, -, -, -, -, -,c5, -, -,dl⟩:=ha.cells;have hi0:(0:Int)<=(i':Int):=jw _;have hi9:(i':Int)<=1000:=by omega
  have hT':T'.length<=3000:=by omega
  clear hr ha ht HLP0;go_wp2_with fail;refine (HO.o _ H4.o (by omega)).mono ?_;rintro u w5 ⟨rfl,hb5⟩;rw[<- HE.o];have H5:=Hd (H4.o.below hb5);have P5:=Hd (PTo.below P4.o hb5);clear hb5 c5 dl HO HE;cases hq:zc3 s.length (L.drop i',T') 13
  ·have HR3:=jM (R=.ok (L.drop i',T')) (by rw[HR2.o,hq];rfl);clear hq HR2 HHL;go_wp2;refine bE ?_;exact zbs HR3.o hi' H5.o P5.o
  have hil:i'<L.length:=HHL.o hq;have HR3:=jM (R=parS s.length f2 .pctl (L.drop (i'+1),T'++ [nod0 5])) (by rw[HR2.o,hq,za1];rfl);clear hq HR2 HHL;obtain ⟨_,_, -, -,c2, -, -, -,cf, -,dl⟩:=H5.o.cells;have H7':=Hd H5.o.step;go_upto_region 3 with (fail)
  obtain ⟨W7,hW7⟩:=jN (w5.setCell (p,2) (.int .i64 ((i':Int)+1)));rw[hW7] at H7' ⊢;clear hW7 c2 cf dl;have H7:=Hd H7'.o.1;have P7:=Hd (P5.o.trans H7'.o.2);clear H7';have KN9:=Hd (je W7 297 (cNod (nod0 5)).toArray);have HN9:=Hd (H7.o.ow.alloc (.cells (cNod (nod0 5)).toArray 297));have HW9:=jM (Below W7 W7 (W7.alloc (.cells (cNod (nod0 5)).toArray 297))) (by go_grown);obtain ⟨_,_, -, -, -,d3, -, -,df, -,dl⟩:=H7.o.cells;go_wp2_with (at_builtin;refine ju ?_);refine Hd ?_;refine zbm rfl _ _ rfl (nod0 5) HN9.o KN9.o rfl rfl (by omega) ?_;intro A9 m9 cp9 y9 o9 q9;have HF9:=Hd (H7.o.putAt HW9.o o9 q9);obtain ⟨e3,e3f⟩:=H7.o.slot HW9.o q9;clear o9 q9 d3 df dl;go_wp2;refine ⟨.inl ⟨f2,i'+1,_,_,HR3.o,by omega,by omega,by omega,by simp;omega,HF9.o.1,P7.o.trans HF9.o.2⟩,?_⟩;rw[zge HF9.o.1,HM.o];omega
 have H4:=Hd ha;have P4:=Hd ht;have HR3:=Hd hr;obtain ⟨_,_, -, -, -, -, -,c5, -, -,dl⟩:=ha.cells;have e5:(er==0)=false:=by simpa using he
 clear hr ha ht HLP0;go_wp2;refine bE ?_;exact za8 HR3.o he hi' hm H4.o P4.o
def z08:zaa:=[2,7,7,7,0,1,2,3,1,9,0]
def zba:Scp:=⟨⟨3,[⟨⟨3,4⟩,[57]⟩],[⟨⟨1,1,1024,1024⟩,⟨7,7,7⟩⟩],[],[],[],0⟩,[]⟩
theorem SlsN.chg {c:α->List Value} {l:List α} {S:Nat->Prop} (h:SlsN c base w v l) (hb:Chg S w w') (hS:∀k,base<=k->¬S k):SlsN c base w' v l:=by
 refine ⟨?_,h.2⟩;obtain ⟨A,cap,rfl,h1,hm,h2⟩:=h.1;refine ⟨A,cap,rfl,h1,hm,λhn=>?_⟩;obtain ⟨b,o,rfl,hlt,hr⟩:=h2 hn;have hz:=hb.size;have hq:=h.2 b rfl;refine ⟨b,o,rfl,by omega,λj t ht=>?_⟩;rw[hb.cell (p:=⟨b,o+j,none⟩) hlt (hS b hq)];exact hr j t ht
theorem ztn (w:World):
 Calls prog 17 #[str z08] w λu w'=>∃e r g l x o,u=.returned (vScp zba e r g l x o)/\RdScp w' w'.heap.size zba e r g l x o/\Below w w w':=by
 unfold z08;go_enter func17,ntmps17;go_wp2_with fail;have kr:Blk (((w.alloc (.cells aS 31)).alloc (.cells #[str [2,7,7,7,0,1,2,3,1,9,0]] 74)).alloc (.cells aS 31)) w.heap.size 31 #[.int .i64 0,.slice none 0 0,.slice none 0 0,.slice none 0 0,.slice none 0 0,.slice none 0 0,.int .i64 0,.slice none 0 0]:=((je w _ _).alloc _).alloc _;have kt:Blk (((w.alloc (.cells aS 31)).alloc (.cells #[str [2,7,7,7,0,1,2,3,1,9,0]] 74)).alloc (.cells aS 31)) (w.heap.size+1) 74 #[str [2,7,7,7,0,1,2,3,1,9,0]]:=by have:=(je (w.alloc (.cells aS 31)) 74 #[str [2,7,7,7,0,1,2,3,1,9,0]]).alloc (.cells aS 31);simpa using this
 have kx:Blk (((w.alloc (.cells aS 31)).alloc (.cells #[str [2,7,7,7,0,1,2,3,1,9,0]] 74)).alloc (.cells aS 31)) (w.heap.size+1+1) 31 #[.int .i64 0,.slice none 0 0,.slice none 0 0,.slice none 0 0,.slice none 0 0,.slice none 0 0,.int .i64 0,.slice none 0 0]:=by have:=je ((w.alloc (.cells aS 31)).alloc (.cells #[str [2,7,7,7,0,1,2,3,1,9,0]] 74)) 31 #[.int .i64 0,.slice none 0 0,.slice none 0 0,.slice none 0 0,.slice none 0 0,.slice none 0 0,.int .i64 0,.slice none 0 0];simpa using this
 have bw:Below w w (((w.alloc (.cells aS 31)).alloc (.cells #[str [2,7,7,7,0,1,2,3,1,9,0]] 74)).alloc (.cells aS 31)):=by go_grown
 refine (zd3 _ [2,7,7,7,0,1,2,3,1,9,0] 4 _ (by decide) kt).mono ?_;rintro e w1 ⟨rfl,kt1,hd1⟩;rw[show (take 4 [2,7,7,7,0,1,2,3,1,9,0]).1=2 from rfl];have KT:=jM (Blk w1 (w.heap.size+1) 74 #[str [7,7,7,0,1,2,3,1,9,0]]) kt1;have KR:=Hd (kr.chg hd1 (by omega));have KX:=Hd (kx.chg hd1 (by omega));have BW:=Hd (Below.trans bw (hd1.to_below (B:=w.heap.size) (by simp;omega) (by omega)));have hx:=KX.o.cell 0;have fx:=KX.o.frozen;clear kr kt kx bw kt1 hd1;go_wp2_with fail;have KT1:=Hd (KT.o.far (p:=⟨w.heap.size+1+1,0,none⟩) (by simp) (.int .i64 3));have KR1:=Hd (KR.o.far (p:=⟨w.heap.size+1+1,0,none⟩) (by simp;try omega) (.int .i64 3));have KX1:=Hd (KX.o.set_ 0 (.int .i64 3));have BW1:=Hd (jc BW.o (p:=⟨w.heap.size+1+1,0,none⟩) (by simp;try omega) (.int .i64 3));refine (zt2 (w.heap.size+1) [7,7,7,0,1,2,3,1,9,0] 3 _ (by decide) KT1.o).mono ?_;rintro e w2 ⟨rfl,kt,hd⟩;rw[show (zj5 3 [7,7,7,0,1,2,3,1,9,0]).1=⟨7,7,7⟩ from rfl];have KT2:=jM (Blk w2 (w.heap.size+1) 74 #[str [0,1,2,3,1,9,0]]) kt;have KR2:=Hd (KR1.o.chg hd (by omega));have KX2:=Hd (KX1.o.chg hd (by omega));have BW2:=Hd (Below.trans BW1.o (hd.to_below (B:=w.heap.size) BW1.o.size (by omega)));clear KT KR KX BW KT1 KR1 KX1 BW1 hx fx kt hd;have hx:=KX2.o.cell 2;have fx:=KX2.o.frozen;have lx:=KX2.o.lt;go_wp2_with fail;have KT3:=Hd ((KT2.o.far (p:=⟨w.heap.size+1+1,2,none⟩) (by simp;try omega) (.slice (some (w2,0)) 1 1)).alloc (.cells #[.int .i64 1,.int .i64 1,.int .i64 1024,.int .i64 1024,.int .u64 7,.int .u64 7,.int .u64 7] 79));have KR3:=Hd ((KR2.o.far (p:=⟨w.heap.size+1+1,2,none⟩) (by simp;try omega) (.slice (some (w2,0)) 1 1)).alloc (.cells #[.int .i64 1,.int .i64 1,.int .i64 1024,.int .i64 1024,.int .u64 7,.int .u64 7,.int .u64 7] 79));have KX3:=Hd ((KX2.o.set_ 2 (.slice (some (w2,0)) 1 1)).alloc (.cells #[.int .i64 1,.int .i64 1,.int .i64 1024,.int .i64 1024,.int .u64 7,.int .u64 7,.int .u64 7] 79));have KL3:=jM (Blk ((w2.setCell (w.heap.size+1+1,2) (.slice (some (w2,0)) 1 1)).alloc (.cells #[.int .i64 1,.int .i64 1,.int .i64 1024,.int .i64 1024,.int .u64 7,.int .u64 7,.int .u64 7] 79)) w2.heap.size 79 #[.int .i64 1,.int .i64 1,.int .i64 1024,.int .i64 1024,.int .u64 7,.int .u64 7,.int .u64 7]) (by have:=je (w2.setCell (w.heap.size+1+1,2) (.slice (some (w2,0)) 1 1)) 79 #[.int .i64 1,.int .i64 1,.int .i64 1024,.int .i64 1024,.int .u64 7,.int .u64 7,.int .u64 7];simpa using this);have BW3:=Hd (Below.alloc (jc BW2.o (p:=⟨w.heap.size+1+1,2,none⟩) (by simp;try omega) (.slice (some (w2,0)) 1 1)) (by have:=BW2.o.size;simp;omega) (.cells #[.int .i64 1,.int .i64 1,.int .i64 1024,.int .i64 1024,.int .u64 7,.int .u64 7,.int .u64 7] 79));refine (zd3 _ [0,1,2,3,1,9,0] 3 _ (by decide) KT3.o).mono ?_;rintro e w3 ⟨rfl,kt,hd⟩;rw[show (take 3 [0,1,2,3,1,9,0]).1=0 from rfl];have KT:=jM (Blk w3 (w.heap.size+1) 74 #[str [1,2,3,1,9,0]]) kt;have KR:=Hd (KR3.o.chg hd (by omega));have KX:=Hd (KX3.o.chg hd (by omega));have KL:=Hd (KL3.o.chg hd (by omega));have BW:=Hd (Below.trans BW3.o (hd.to_below (B:=w.heap.size) BW3.o.size (by omega)));have hL:w.heap.size+1+1<w2.heap.size:=lx;clear KT2 KR2 KX2 BW2 KT3 KR3 KX3 KL3 BW3 hx fx lx kt hd;go_wp2;refine wp_loop_rounds 1 ?_;rw[rounds_succ];go_wp2_with fail;refine (zd3 _ [1,2,3,1,9,0] 8 _ (by decide) KT.o).mono ?_;rintro e w4 ⟨rfl,kt,hd⟩;rw[show (take 8 [1,2,3,1,9,0]).1=1 from rfl];have KT4:=jM (Blk w4 (w.heap.size+1) 74 #[str [2,3,1,9,0]]) kt;have KR4:=Hd (KR.o.chg hd (by omega));have KX4:=Hd (KX.o.chg hd (by omega));have KL4:=Hd (KL.o.chg hd (by omega));have BW4:=Hd (Below.trans BW.o (hd.to_below (B:=w.heap.size) BW.o.size (by omega)));clear KT KR KX KL BW kt hd;go_wp2;refine wp_loop_rounds 2 ?_;rw[rounds_succ];go_wp2_with fail;refine (zyg _ [2,3,1,9,0] _ KT4.o).mono ?_;rintro e w5 ⟨rfl,kt,hd⟩;rw[show (spot [2,3,1,9,0]).1=⟨3,4⟩ from rfl];have KT5:=jM (Blk w5 (w.heap.size+1) 74 #[str [1,9,0]]) kt;have KR5:=Hd (KR4.o.chg hd (by omega));have KX5:=Hd (KX4.o.chg hd (by omega));have KL5:=Hd (KL4.o.chg hd (by omega));have BW5:=Hd (Below.trans BW4.o (hd.to_below (B:=w.heap.size) BW4.o.size (by omega)));clear KT4 KR4 KX4 KL4 BW4 kt hd;have hx:=KX5.o.cell 1;have fx:=KX5.o.frozen;have lx:=KX5.o.lt;go_wp2_with fail;have kA:=Hd (KT5.o.alloc (.cells #[.int .i64 3,.int .i64 4] 56));have lw:=KT5.o.lt;go_region_with (first
  | (go_at_call 40;refine (zxb _ [1,9,0] _ rfl (by first | exact kA.o | exact kA.o.drew | exact (kA.o.drewN _))).mono ?_;rintro e w6 ⟨rfl,kt,hd⟩;have hz6:=hd.size;simp at hz6;have f6:w6.frozen? ⟨w.heap.size+1+1,1,none⟩=false:=(hd.frozen (p:=⟨w.heap.size+1+1,1,none⟩) (by simp;omega) (by simp)).trans (by go_simp;try exact fx 1);have x6:w6.cell? ⟨w.heap.size+1+1,1,none⟩=some (.slice none 0 0):=(hd.cell (p:=⟨w.heap.size+1+1,1,none⟩) (by simp;omega) (by simp)).trans (by go_simp;try exact hx);have a6:w6.cell? ⟨w5.heap.size,0,none⟩=some (.int .i64 3):=(hd.cell (p:=⟨w5.heap.size,0,none⟩) (by simp) (by simp;omega)).trans (by go_simp);have a7:w6.cell? ⟨w5.heap.size,1,none⟩=some (.int .i64 4):=(hd.cell (p:=⟨w5.heap.size,1,none⟩) (by simp) (by simp;omega)).trans (by go_simp))
  | (go_at_call 39;refine (z2p ⟨⟨3,4⟩,[57]⟩ _ (by simp)).mono ?_;rintro e w7 ⟨v7,rfl,hs7,hb7⟩;obtain ⟨A7,cap7,rfl,_⟩:=id hs7.1;have x7:=(hb7.cell (p:=⟨w.heap.size+1+1,1,none⟩) (by (try simp);omega)).trans x6;have f7:=(hb7.frozen (p:=⟨w.heap.size+1+1,1,none⟩) (by (try simp);omega)).trans f6))
 all_goals
  have kt7:Blk w7 (w.heap.size+1) 74 #[str [0]]:=Blk.below_ (show Blk w6 (w.heap.size+1) 74 #[str [0]] from kt) hb7;have kr7:=Blk.below_ (Blk.chg (S:=λk=>k=w.heap.size+1) ((KR5.o.alloc (.cells #[.int .i64 3,.int .i64 4] 56)).drew) hd (by simp)) hb7;have kx7:=Blk.below_ (Blk.chg (S:=λk=>k=w.heap.size+1) ((KX5.o.alloc (.cells #[.int .i64 3,.int .i64 4] 56)).drew) hd (by simp)) hb7;have kl7:=Blk.below_ (Blk.chg (S:=λk=>k=w.heap.size+1) ((KL5.o.alloc (.cells #[.int .i64 3,.int .i64 4] 56)).drew) hd (by show ¬(_=_);omega)) hb7;have bw7:=Below.trans (Below.trans (jf (Below.alloc BW5.o BW5.o.size (.cells #[.int .i64 3,.int .i64 4] 56)) 1) (hd.to_below (B:=w.heap.size) (by have:=BW5.o.size;simp;omega) (by omega))) (hb7.mono (by have:=BW5.o.size;omega));have hn7:∀q,(Value.slice A7 1 cap7).ownBlock=some q->w6.heap.size<=q:=hs7.2;have KT8:=Hd (kt7.far (p:=⟨w.heap.size+1+1,1,none⟩) (by simp) (.slice A7 1 cap7));have KR8:=Hd (kr7.far (p:=⟨w.heap.size+1+1,1,none⟩) (by simp;try omega) (.slice A7 1 cap7));have KX8:=Hd (kx7.set_ 1 (.slice A7 1 cap7));have KL8:=Hd (kl7.far (p:=⟨w.heap.size+1+1,1,none⟩) (by simp;try omega) (.slice A7 1 cap7));have BW8:=Hd (jc bw7 (p:=⟨w.heap.size+1+1,1,none⟩) (by simp;try omega) (.slice A7 1 cap7));have HS8:=Hd (SlsN.set hs7 (p:=⟨w.heap.size+1+1,1,none⟩) (by simp;omega) (.slice A7 1 cap7));clear kt7 kr7 kx7 kl7 bw7 hn7 kt hd x6 f6 a6 a7 x7 f7 hb7 hs7 KT5 KR5 KX5 KL5 BW5 kA hx fx;go_wp2;rw[rounds_succ];go_wp2_with fail;refine (zd3 _ [0] 3 _ (by decide) KT8.o).mono ?_;rintro e w9 ⟨rfl,kt,hd⟩;rw[show (take 3 [0]).1=0 from rfl];have KR:=Hd (KR8.o.chg hd (by simp));have kt9:=kt.cell 0;have KX:=Hd (KX8.o.chg hd (by simp));have KL:=Hd (KL8.o.chg hd (by show ¬(_=_);omega));have BW:=Hd (Below.trans BW8.o (hd.to_below (B:=w.heap.size) BW8.o.size (by omega)));obtain ⟨x0,x1,x2,x3,x4,x5⟩:=KX.o.c6 0 1 2 3 4 5;obtain ⟨x6,x7⟩:=KX.o.c2 6 7;obtain ⟨r0,r1,r2,r3,r4,r5⟩:=KR.o.c6 0 1 2 3 4 5;obtain ⟨r6,r7⟩:=KR.o.c2 6 7;have fr:=KR.o.frozen;have kt0:w9.cell? (w.heap.size+1,0)=some (str []):=kt9;clear KT8 KR8 KX8 KL8 BW8 kt;have HS:=Hd (SlsN.chg HS8.o hd (by intro k hk e;subst e;omega));clear HS8 hd;go_wp2;refine wp_loop_rounds 1 ?_;rw[rounds_succ];go_wp2;refine wp_loop_rounds 1 ?_;rw[rounds_succ];go_wp2;refine jO results17 (v:=vScp zba (.slice A7 1 cap7) (.slice (some ⟨w2.heap.size,0,none⟩) 1 1) (.slice none 0 0) (.slice none 0 0) (.slice none 0 0) (.slice none 0 0)) ?_ (by simp (maxDischargeDepth:=9) [jQ,go_sem,zba,r0,r1,r2,r3,r4,r5,r6,r7]);refine ⟨_,_,_,_,_,_,rfl,⟨⟨?_,Sls.one (t:=79) (cs:=#[.int .i64 1,.int .i64 1,.int .i64 1024,.int .i64 1024,.int .u64 7,.int .u64 7,.int .u64 7]) ?_ rfl,Sls.nil _ _ _ _ _,Sls.nil _ _ _ _ _,Sls.nil _ _ _ _ _⟩,Sls.nil _ _ _ _ _⟩,?_⟩
  ·have hS:SlsN cEnt w6.heap.size _ _ _:=HS.o;refine (?_:SlsN cEnt w6.heap.size _ _ _).1
   iterate 8 refine SlsN.set ?_ (by simp;omega) _
   exact hS
  ·iterate 8 refine Blk.far ?_ (by simp;omega) _
   exact KL.o
  iterate 8 refine jc ?_ (by simp) _
  exact BW.o
end Go.Proofs.YtamcgggmfghljaaGreatDoor
