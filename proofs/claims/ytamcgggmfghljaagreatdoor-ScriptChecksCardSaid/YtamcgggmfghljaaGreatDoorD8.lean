/- Copies of books. -/
import Derived.Test.YtamcgggmfghljaaGreatDoorD5
set_option maxRecDepth 100000
set_option maxHeartbeats 8000000
open Go.Proofs.Tryz
namespace Go.Proofs.YtamcgggmfghljaaGreatDoor
open Go.RowKit
noncomputable def zb6:Array Oper:=((Tryz.f25.body.bind (zu4 1)).getD #[])
structure Short (b:Bok):Prop where
 n1:b.entries.length≤8192
 n2:b.rules.length≤8192
 n3:b.grants.length≤8192
 n4:b.log.length≤8192
 n5:b.releases.length≤8192
section
variable {Q:Exit→Act→World→Prop} {b:Bok} {e r g l x t0 t2:Value} {B gb:Nat} {W:World}
abbrev cbS (gb:Nat) (e r g l x:Value):World→Prop:=(fun u=>u.cell? ⟨gb,1,none⟩=some e∧u.cell? ⟨gb,2,none⟩=some r∧u.cell? ⟨gb,3,none⟩=some g∧u.cell? ⟨gb,4,none⟩=some l∧u.cell? ⟨gb,5,none⟩=some x)
def CB (Q:Exit→Act→World→Prop) (b:Bok) (e r g l x t0 t2:Value) (B gb:Nat) (W:World):Prop:=
 (∀c a d v w,Q (.panic c) (Act.put a d v) w→Q (.panic c) a w)∧B≤gb∧gb<W.heap.size∧RdBok W B b e r g l x∧Short b∧∀w' v1 v2 v3 v4 v5,Chg (fun k=>k=gb) W w'→Blk w' gb 28 #[.int .i64 b.users,v1,v2,v3,v4,v5,.int .i64 b.step]→SlsN cEnt W.heap.size w' v1 b.entries→SlsN cRul W.heap.size w' v2 b.rules→SlsN cGrt W.heap.size w' v3 b.grants→SlsN cEvt W.heap.size w' v4 b.log→SlsN cRls W.heap.size w' v5 b.releases→Q .normal ⟨#[t0,.pointer (some ⟨gb,0,none⟩),t2,.pointer (some ⟨gb,1,none⟩),e,v1,.pointer (some ⟨gb,2,none⟩),r,v2,.pointer (some ⟨gb,3,none⟩),g,v3,.pointer (some ⟨gb,4,none⟩),l,v4,.pointer (some ⟨gb,5,none⟩),x,v5,.pointer (some ⟨gb,1,none⟩),.pointer (some ⟨gb,2,none⟩),.pointer (some ⟨gb,3,none⟩),.pointer (some ⟨gb,4,none⟩),.pointer (some ⟨gb,5,none⟩),undef],[]⟩ w'
theorem cb_5_5 (H0:CB Q b e r g l x t0 t2 B gb W)
 (w':World) (v1 v2 v3 v4 v5:Value) (hD:Chg (fun k=>k=gb) W w') (hK:Blk w' gb 28 #[.int .i64 b.users,v1,v2,v3,v4,v5,.int .i64 b.step]) (h1:SlsN cEnt W.heap.size w' v1 b.entries) (h2:SlsN cRul W.heap.size w' v2 b.rules) (h3:SlsN cGrt W.heap.size w' v3 b.grants) (h4:SlsN cEvt W.heap.size w' v4 b.log) (h5:SlsN cRls W.heap.size w' v5 b.releases):
 zav prog .any zb6 Q (cbS gb e r g l x) 16 0 #[true,true,true,true,true,true,true,true,true,true,true,true,true,true,true,true,true,true,true,true,true,true,true,true,true] ⟨#[t0,.pointer (some ⟨gb,0,none⟩),t2,.pointer (some ⟨gb,1,none⟩),e,v1,.pointer (some ⟨gb,2,none⟩),r,v2,.pointer (some ⟨gb,3,none⟩),g,v3,.pointer (some ⟨gb,4,none⟩),l,v4,.pointer (some ⟨gb,5,none⟩),x,v5,.pointer (some ⟨gb,1,none⟩),.pointer (some ⟨gb,2,none⟩),.pointer (some ⟨gb,3,none⟩),.pointer (some ⟨gb,4,none⟩),.pointer (some ⟨gb,5,none⟩),undef],[]⟩ w':=by
 obtain ⟨hQ,hB,hg,hb,hn,hF⟩:=id H0
 exact za9 (by kernel_rfl) (hF w' v1 v2 v3 v4 v5 hD hK h1 h2 h3 h4 h5)
theorem cb_5_4 (H0:CB Q b e r g l x t0 t2 B gb W)
 (w':World) (v1 v2 v3 v4 v5:Value) (hD:Chg (fun k=>k=gb) W w') (hK:Blk w' gb 28 #[.int .i64 b.users,v1,v2,v3,v4,x,.int .i64 b.step]) (h1:SlsN cEnt W.heap.size w' v1 b.entries) (h2:SlsN cRul W.heap.size w' v2 b.rules) (h3:SlsN cGrt W.heap.size w' v3 b.grants) (h4:SlsN cEvt W.heap.size w' v4 b.log) (h5:SlsN cRls W.heap.size w' v5 b.releases):
 zav prog .any zb6 Q (cbS gb e r g l x) 16 1 #[true,true,true,true,true,true,true,true,true,true,true,true,true,true,true,true,true,true,true,true,true,true,true,true,false] ⟨#[t0,.pointer (some ⟨gb,0,none⟩),t2,.pointer (some ⟨gb,1,none⟩),e,v1,.pointer (some ⟨gb,2,none⟩),r,v2,.pointer (some ⟨gb,3,none⟩),g,v3,.pointer (some ⟨gb,4,none⟩),l,v4,.pointer (some ⟨gb,5,none⟩),x,v5,.pointer (some ⟨gb,1,none⟩),.pointer (some ⟨gb,2,none⟩),.pointer (some ⟨gb,3,none⟩),.pointer (some ⟨gb,4,none⟩),.pointer (some ⟨gb,5,none⟩),undef],[]⟩ w':=by
 obtain ⟨hQ,hB,hg,hb,hn,hF⟩:=id H0
 refine za4 24 (o:=⟨none,.store 26 (.tmp 22) (.tmp 17),0,_,_,none⟩) (by kernel_rfl) rfl rfl ?_
 have hc:w'.cell? ⟨gb,5,none⟩=some x:=hK.cell 5
 have hf:=hK.frozen 5
 have hK1:=hK.set_ 5 v5
 have hD1:=hD.setCell (p:=⟨gb,5,none⟩) (.inl rfl) v5
 have f1:=h1.set (p:=⟨gb,5,none⟩) hg v5
 have f2:=h2.set (p:=⟨gb,5,none⟩) hg v5
 have f3:=h3.set (p:=⟨gb,5,none⟩) hg v5
 have f4:=h4.set (p:=⟨gb,5,none⟩) hg v5
 have f5:=h5.set (p:=⟨gb,5,none⟩) hg v5
 have H:=cb_5_5 H0 _ v1 v2 v3 v4 v5 hD1 hK1 f1 f2 f3 f4 f5
 have H':=Hd H
 clear H
 obtain ⟨A,cap,rfl,_⟩:=id h5.1
 go_simp
 first | exact H'.out | exact ⟨fun h=>absurd h (by decide),H'.out⟩
theorem cb_5_3 (H0:CB Q b e r g l x t0 t2 B gb W)
 (w':World) (v1 v2 v3 v4 v5:Value) (hD:Chg (fun k=>k=gb) W w') (hK:Blk w' gb 28 #[.int .i64 b.users,v1,v2,v3,l,x,.int .i64 b.step]) (h1:SlsN cEnt W.heap.size w' v1 b.entries) (h2:SlsN cRul W.heap.size w' v2 b.rules) (h3:SlsN cGrt W.heap.size w' v3 b.grants) (h4:SlsN cEvt W.heap.size w' v4 b.log) (h5:SlsN cRls W.heap.size w' v5 b.releases):
 zav prog .any zb6 Q (cbS gb e r g l x) 16 3 #[true,true,true,true,true,true,true,true,true,true,true,true,true,true,true,true,true,true,true,true,true,true,false,false,false] ⟨#[t0,.pointer (some ⟨gb,0,none⟩),t2,.pointer (some ⟨gb,1,none⟩),e,v1,.pointer (some ⟨gb,2,none⟩),r,v2,.pointer (some ⟨gb,3,none⟩),g,v3,.pointer (some ⟨gb,4,none⟩),l,v4,.pointer (some ⟨gb,5,none⟩),x,v5,.pointer (some ⟨gb,1,none⟩),.pointer (some ⟨gb,2,none⟩),.pointer (some ⟨gb,3,none⟩),.pointer (some ⟨gb,4,none⟩),undef,undef],[]⟩ w':=by
 obtain ⟨hQ,hB,hg,hb,hn,hF⟩:=id H0
 refine za4 22 (o:=⟨none,.store 25 (.tmp 21) (.tmp 14),0,_,_,none⟩) (by kernel_rfl) rfl rfl ?_
 have hc:w'.cell? ⟨gb,4,none⟩=some l:=hK.cell 4
 have hf:=hK.frozen 4
 have hK1:=hK.set_ 4 v4
 have hD1:=hD.setCell (p:=⟨gb,4,none⟩) (.inl rfl) v4
 have f1:=h1.set (p:=⟨gb,4,none⟩) hg v4
 have f2:=h2.set (p:=⟨gb,4,none⟩) hg v4
 have f3:=h3.set (p:=⟨gb,4,none⟩) hg v4
 have f4:=h4.set (p:=⟨gb,4,none⟩) hg v4
 have f5:=h5.set (p:=⟨gb,4,none⟩) hg v4
 have H:=cb_5_4 H0 _ v1 v2 v3 v4 v5 hD1 hK1 f1 f2 f3 f4 f5
 have H':=Hd H
 clear H
 obtain ⟨A,cap,rfl,_⟩:=id h4.1
 go_simp
 refine zar 23 (oi:=⟨some 22,.fieldAddr 28 (.tmp 1) 5,0,_,_,none⟩) rfl (by kernel_rfl) (by kernel_rfl) (by kernel_rfl) (by decide) (fun _ _ _ h=>hQ _ _ _ _ _ h) (Or.inl ⟨rfl,fun _ _=>rfl⟩) (fun h=>absurd h (by decide)) ?_
 first | exact H'.out | exact ⟨fun h=>absurd h (by decide),H'.out⟩
theorem cb_5_2 (H0:CB Q b e r g l x t0 t2 B gb W)
 (w':World) (v1 v2 v3 v4 v5:Value) (hD:Chg (fun k=>k=gb) W w') (hK:Blk w' gb 28 #[.int .i64 b.users,v1,v2,g,l,x,.int .i64 b.step]) (h1:SlsN cEnt W.heap.size w' v1 b.entries) (h2:SlsN cRul W.heap.size w' v2 b.rules) (h3:SlsN cGrt W.heap.size w' v3 b.grants) (h4:SlsN cEvt W.heap.size w' v4 b.log) (h5:SlsN cRls W.heap.size w' v5 b.releases):
 zav prog .any zb6 Q (cbS gb e r g l x) 16 5 #[true,true,true,true,true,true,true,true,true,true,true,true,true,true,true,true,true,true,true,true,false,false,false,false,false] ⟨#[t0,.pointer (some ⟨gb,0,none⟩),t2,.pointer (some ⟨gb,1,none⟩),e,v1,.pointer (some ⟨gb,2,none⟩),r,v2,.pointer (some ⟨gb,3,none⟩),g,v3,.pointer (some ⟨gb,4,none⟩),l,v4,.pointer (some ⟨gb,5,none⟩),x,v5,.pointer (some ⟨gb,1,none⟩),.pointer (some ⟨gb,2,none⟩),.pointer (some ⟨gb,3,none⟩),undef,undef,undef],[]⟩ w':=by
 obtain ⟨hQ,hB,hg,hb,hn,hF⟩:=id H0
 refine za4 20 (o:=⟨none,.store 24 (.tmp 20) (.tmp 11),0,_,_,none⟩) (by kernel_rfl) rfl rfl ?_
 have hc:w'.cell? ⟨gb,3,none⟩=some g:=hK.cell 3
 have hf:=hK.frozen 3
 have hK1:=hK.set_ 3 v3
 have hD1:=hD.setCell (p:=⟨gb,3,none⟩) (.inl rfl) v3
 have f1:=h1.set (p:=⟨gb,3,none⟩) hg v3
 have f2:=h2.set (p:=⟨gb,3,none⟩) hg v3
 have f3:=h3.set (p:=⟨gb,3,none⟩) hg v3
 have f4:=h4.set (p:=⟨gb,3,none⟩) hg v3
 have f5:=h5.set (p:=⟨gb,3,none⟩) hg v3
 have H:=cb_5_3 H0 _ v1 v2 v3 v4 v5 hD1 hK1 f1 f2 f3 f4 f5
 have H':=Hd H
 clear H
 obtain ⟨A,cap,rfl,_⟩:=id h3.1
 go_simp
 refine zar 21 (oi:=⟨some 21,.fieldAddr 28 (.tmp 1) 4,0,_,_,none⟩) rfl (by kernel_rfl) (by kernel_rfl) (by kernel_rfl) (by decide) (fun _ _ _ h=>hQ _ _ _ _ _ h) (Or.inl ⟨rfl,fun _ _=>rfl⟩) (fun h=>absurd h (by decide)) ?_
 first | exact H'.out | exact ⟨fun h=>absurd h (by decide),H'.out⟩
theorem cb_5_1 (H0:CB Q b e r g l x t0 t2 B gb W)
 (w':World) (v1 v2 v3 v4 v5:Value) (hD:Chg (fun k=>k=gb) W w') (hK:Blk w' gb 28 #[.int .i64 b.users,v1,r,g,l,x,.int .i64 b.step]) (h1:SlsN cEnt W.heap.size w' v1 b.entries) (h2:SlsN cRul W.heap.size w' v2 b.rules) (h3:SlsN cGrt W.heap.size w' v3 b.grants) (h4:SlsN cEvt W.heap.size w' v4 b.log) (h5:SlsN cRls W.heap.size w' v5 b.releases):
 zav prog .any zb6 Q (cbS gb e r g l x) 16 7 #[true,true,true,true,true,true,true,true,true,true,true,true,true,true,true,true,true,true,false,false,false,false,false,false,false] ⟨#[t0,.pointer (some ⟨gb,0,none⟩),t2,.pointer (some ⟨gb,1,none⟩),e,v1,.pointer (some ⟨gb,2,none⟩),r,v2,.pointer (some ⟨gb,3,none⟩),g,v3,.pointer (some ⟨gb,4,none⟩),l,v4,.pointer (some ⟨gb,5,none⟩),x,v5,.pointer (some ⟨gb,1,none⟩),.pointer (some ⟨gb,2,none⟩),undef,undef,undef,undef],[]⟩ w':=by
 obtain ⟨hQ,hB,hg,hb,hn,hF⟩:=id H0
 refine za4 18 (o:=⟨none,.store 23 (.tmp 19) (.tmp 8),0,_,_,none⟩) (by kernel_rfl) rfl rfl ?_
 have hc:w'.cell? ⟨gb,2,none⟩=some r:=hK.cell 2
 have hf:=hK.frozen 2
 have hK1:=hK.set_ 2 v2
 have hD1:=hD.setCell (p:=⟨gb,2,none⟩) (.inl rfl) v2
 have f1:=h1.set (p:=⟨gb,2,none⟩) hg v2
 have f2:=h2.set (p:=⟨gb,2,none⟩) hg v2
 have f3:=h3.set (p:=⟨gb,2,none⟩) hg v2
 have f4:=h4.set (p:=⟨gb,2,none⟩) hg v2
 have f5:=h5.set (p:=⟨gb,2,none⟩) hg v2
 have H:=cb_5_2 H0 _ v1 v2 v3 v4 v5 hD1 hK1 f1 f2 f3 f4 f5
 have H':=Hd H
 clear H
 obtain ⟨A,cap,rfl,_⟩:=id h2.1
 go_simp
 refine zar 19 (oi:=⟨some 20,.fieldAddr 28 (.tmp 1) 3,0,_,_,none⟩) rfl (by kernel_rfl) (by kernel_rfl) (by kernel_rfl) (by decide) (fun _ _ _ h=>hQ _ _ _ _ _ h) (Or.inl ⟨rfl,fun _ _=>rfl⟩) (fun h=>absurd h (by decide)) ?_
 first | exact H'.out | exact ⟨fun h=>absurd h (by decide),H'.out⟩
theorem cb_5_0 (H0:CB Q b e r g l x t0 t2 B gb W)
 (w':World) (v1 v2 v3 v4 v5:Value) (hD:Chg (fun k=>k=gb) W w') (hK:Blk w' gb 28 #[.int .i64 b.users,e,r,g,l,x,.int .i64 b.step]) (h1:SlsN cEnt W.heap.size w' v1 b.entries) (h2:SlsN cRul W.heap.size w' v2 b.rules) (h3:SlsN cGrt W.heap.size w' v3 b.grants) (h4:SlsN cEvt W.heap.size w' v4 b.log) (h5:SlsN cRls W.heap.size w' v5 b.releases):
 zav prog .any zb6 Q (cbS gb e r g l x) 16 9 #[true,true,true,true,true,true,true,true,true,true,true,true,true,true,true,true,false,false,false,false,false,false,false,false,false] ⟨#[t0,.pointer (some ⟨gb,0,none⟩),t2,.pointer (some ⟨gb,1,none⟩),e,v1,.pointer (some ⟨gb,2,none⟩),r,v2,.pointer (some ⟨gb,3,none⟩),g,v3,.pointer (some ⟨gb,4,none⟩),l,v4,.pointer (some ⟨gb,5,none⟩),x,v5,.pointer (some ⟨gb,1,none⟩),undef,undef,undef,undef,undef],[]⟩ w':=by
 obtain ⟨hQ,hB,hg,hb,hn,hF⟩:=id H0
 refine za4 16 (o:=⟨none,.store 22 (.tmp 18) (.tmp 5),0,_,_,none⟩) (by kernel_rfl) rfl rfl ?_
 have hc:w'.cell? ⟨gb,1,none⟩=some e:=hK.cell 1
 have hf:=hK.frozen 1
 have hK1:=hK.set_ 1 v1
 have hD1:=hD.setCell (p:=⟨gb,1,none⟩) (.inl rfl) v1
 have f1:=h1.set (p:=⟨gb,1,none⟩) hg v1
 have f2:=h2.set (p:=⟨gb,1,none⟩) hg v1
 have f3:=h3.set (p:=⟨gb,1,none⟩) hg v1
 have f4:=h4.set (p:=⟨gb,1,none⟩) hg v1
 have f5:=h5.set (p:=⟨gb,1,none⟩) hg v1
 have H:=cb_5_1 H0 _ v1 v2 v3 v4 v5 hD1 hK1 f1 f2 f3 f4 f5
 have H':=Hd H
 clear H
 obtain ⟨A,cap,rfl,_⟩:=id h1.1
 go_simp
 refine zar 17 (oi:=⟨some 19,.fieldAddr 28 (.tmp 1) 2,0,_,_,none⟩) rfl (by kernel_rfl) (by kernel_rfl) (by kernel_rfl) (by decide) (fun _ _ _ h=>hQ _ _ _ _ _ h) (Or.inl ⟨rfl,fun _ _=>rfl⟩) (fun h=>absurd h (by decide)) ?_
 first | exact H'.out | exact ⟨fun h=>absurd h (by decide),H'.out⟩
theorem cb_4_0 (H0:CB Q b e r g l x t0 t2 B gb W)
 (w':World) (v1 v2 v3 v4:Value) (hD:Chg (fun k=>k=gb) W w') (hK:Blk w' gb 28 #[.int .i64 b.users,e,r,g,l,x,.int .i64 b.step]) (h1:SlsN cEnt W.heap.size w' v1 b.entries) (h2:SlsN cRul W.heap.size w' v2 b.rules) (h3:SlsN cGrt W.heap.size w' v3 b.grants) (h4:SlsN cEvt W.heap.size w' v4 b.log):
 zav prog .any zb6 Q (cbS gb e r g l x) 16 10 #[true,true,true,true,true,true,true,true,true,true,true,true,true,true,false,true,false,false,false,false,false,false,false,false,false] ⟨#[t0,.pointer (some ⟨gb,0,none⟩),t2,.pointer (some ⟨gb,1,none⟩),e,v1,.pointer (some ⟨gb,2,none⟩),r,v2,.pointer (some ⟨gb,3,none⟩),g,v3,.pointer (some ⟨gb,4,none⟩),l,v4,.pointer (some ⟨gb,5,none⟩),x,undef,.pointer (some ⟨gb,1,none⟩),undef,undef,undef,undef,undef],[]⟩ w':=by
 obtain ⟨hQ,hB,hg,hb,hn,hF⟩:=id H0
 refine za4 14 (o:=⟨some 17,.call { callee:=.value (.func 83),args:=#[.tmp 16],argTypes:=#[26] },26,_,_,none⟩) (by kernel_rfl) rfl rfl ?_
 go_simp
 go_at_call 83
 refine (zwc _ _ B _ (hb.rlss.chg hD (by omega) (by intro k hk;omega)) hn.n5).mono ?_
 rintro u w1 ⟨v5,rfl,h5,hb1⟩
 have hD1:Chg (fun k=>k=gb) W w1:=hD.below hb1
 have hK1:=hK.below_ hb1
 have hS:(cbS gb e r g l x) w1:=⟨hK1.cell 1,hK1.cell 2,hK1.cell 3,hK1.cell 4,hK1.cell 5⟩
 refine ⟨hS,?_⟩
 exact cb_5_0 H0 w1 v1 v2 v3 v4 v5 hD1 hK1 (h1.below hb1) (h2.below hb1) (h3.below hb1) (h4.below hb1) (h5.older hD.size)
theorem cb_3_0 (H0:CB Q b e r g l x t0 t2 B gb W)
 (w':World) (v1 v2 v3:Value) (hD:Chg (fun k=>k=gb) W w') (hK:Blk w' gb 28 #[.int .i64 b.users,e,r,g,l,x,.int .i64 b.step]) (h1:SlsN cEnt W.heap.size w' v1 b.entries) (h2:SlsN cRul W.heap.size w' v2 b.rules) (h3:SlsN cGrt W.heap.size w' v3 b.grants):
 zav prog .any zb6 Q (cbS gb e r g l x) 16 11 #[true,true,true,true,true,true,true,true,true,true,true,false,true,true,false,true,false,false,false,false,false,false,false,false,false] ⟨#[t0,.pointer (some ⟨gb,0,none⟩),t2,.pointer (some ⟨gb,1,none⟩),e,v1,.pointer (some ⟨gb,2,none⟩),r,v2,.pointer (some ⟨gb,3,none⟩),g,v3,.pointer (some ⟨gb,4,none⟩),l,undef,.pointer (some ⟨gb,5,none⟩),x,undef,.pointer (some ⟨gb,1,none⟩),undef,undef,undef,undef,undef],[]⟩ w':=by
 obtain ⟨hQ,hB,hg,hb,hn,hF⟩:=id H0
 refine za4 11 (o:=⟨some 14,.call { callee:=.value (.func 82),args:=#[.tmp 13],argTypes:=#[25] },25,_,_,none⟩) (by kernel_rfl) rfl rfl ?_
 go_simp
 go_at_call 82
 refine (zwf _ _ B _ (hb.evts.chg hD (by omega) (by intro k hk;omega)) hn.n4).mono ?_
 rintro u w1 ⟨v4,rfl,h4,hb1⟩
 have hD1:Chg (fun k=>k=gb) W w1:=hD.below hb1
 have hK1:=hK.below_ hb1
 have hS:(cbS gb e r g l x) w1:=⟨hK1.cell 1,hK1.cell 2,hK1.cell 3,hK1.cell 4,hK1.cell 5⟩
 refine ⟨hS,?_⟩
 exact cb_4_0 H0 w1 v1 v2 v3 v4 hD1 hK1 (h1.below hb1) (h2.below hb1) (h3.below hb1) (h4.older hD.size)
theorem cb_2_0 (H0:CB Q b e r g l x t0 t2 B gb W)
 (w':World) (v1 v2:Value) (hD:Chg (fun k=>k=gb) W w') (hK:Blk w' gb 28 #[.int .i64 b.users,e,r,g,l,x,.int .i64 b.step]) (h1:SlsN cEnt W.heap.size w' v1 b.entries) (h2:SlsN cRul W.heap.size w' v2 b.rules):
 zav prog .any zb6 Q (cbS gb e r g l x) 16 12 #[true,true,true,true,true,true,true,true,false,true,true,false,true,true,false,true,false,false,false,false,false,false,false,false,false] ⟨#[t0,.pointer (some ⟨gb,0,none⟩),t2,.pointer (some ⟨gb,1,none⟩),e,v1,.pointer (some ⟨gb,2,none⟩),r,v2,.pointer (some ⟨gb,3,none⟩),g,undef,.pointer (some ⟨gb,4,none⟩),l,undef,.pointer (some ⟨gb,5,none⟩),x,undef,.pointer (some ⟨gb,1,none⟩),undef,undef,undef,undef,undef],[]⟩ w':=by
 obtain ⟨hQ,hB,hg,hb,hn,hF⟩:=id H0
 refine za4 8 (o:=⟨some 11,.call { callee:=.value (.func 81),args:=#[.tmp 10],argTypes:=#[24] },24,_,_,none⟩) (by kernel_rfl) rfl rfl ?_
 go_simp
 go_at_call 81
 refine (zwe _ _ B _ (hb.grts.chg hD (by omega) (by intro k hk;omega)) hn.n3).mono ?_
 rintro u w1 ⟨v3,rfl,h3,hb1⟩
 have hD1:Chg (fun k=>k=gb) W w1:=hD.below hb1
 have hK1:=hK.below_ hb1
 have hS:(cbS gb e r g l x) w1:=⟨hK1.cell 1,hK1.cell 2,hK1.cell 3,hK1.cell 4,hK1.cell 5⟩
 refine ⟨hS,?_⟩
 exact cb_3_0 H0 w1 v1 v2 v3 hD1 hK1 (h1.below hb1) (h2.below hb1) (h3.older hD.size)
theorem cb_1_0 (H0:CB Q b e r g l x t0 t2 B gb W)
 (w':World) (v1:Value) (hD:Chg (fun k=>k=gb) W w') (hK:Blk w' gb 28 #[.int .i64 b.users,e,r,g,l,x,.int .i64 b.step]) (h1:SlsN cEnt W.heap.size w' v1 b.entries):
 zav prog .any zb6 Q (cbS gb e r g l x) 16 13 #[true,true,true,true,true,false,true,true,false,true,true,false,true,true,false,true,false,false,false,false,false,false,false,false,false] ⟨#[t0,.pointer (some ⟨gb,0,none⟩),t2,.pointer (some ⟨gb,1,none⟩),e,v1,.pointer (some ⟨gb,2,none⟩),r,undef,.pointer (some ⟨gb,3,none⟩),g,undef,.pointer (some ⟨gb,4,none⟩),l,undef,.pointer (some ⟨gb,5,none⟩),x,undef,.pointer (some ⟨gb,1,none⟩),undef,undef,undef,undef,undef],[]⟩ w':=by
 obtain ⟨hQ,hB,hg,hb,hn,hF⟩:=id H0
 refine za4 5 (o:=⟨some 8,.call { callee:=.value (.func 80),args:=#[.tmp 7],argTypes:=#[23] },23,_,_,none⟩) (by kernel_rfl) rfl rfl ?_
 go_simp
 go_at_call 80
 refine (zwb _ _ B _ (hb.ruls.chg hD (by omega) (by intro k hk;omega)) hn.n2).mono ?_
 rintro u w1 ⟨v2,rfl,h2,hb1⟩
 have hD1:Chg (fun k=>k=gb) W w1:=hD.below hb1
 have hK1:=hK.below_ hb1
 have hS:(cbS gb e r g l x) w1:=⟨hK1.cell 1,hK1.cell 2,hK1.cell 3,hK1.cell 4,hK1.cell 5⟩
 refine ⟨hS,?_⟩
 exact cb_2_0 H0 w1 v1 v2 hD1 hK1 (h1.below hb1) (h2.older hD.size)
theorem cb_0_0 (H0:CB Q b e r g l x t0 t2 B gb W)
 (w':World) (hD:Chg (fun k=>k=gb) W w') (hK:Blk w' gb 28 #[.int .i64 b.users,e,r,g,l,x,.int .i64 b.step]):
 zav prog .any zb6 Q (cbS gb e r g l x) 16 15 #[true,true,false,true,true,false,true,true,false,true,true,false,true,true,false,false,false,false,false,false,false,false,false,false,false] ⟨#[t0,.pointer (some ⟨gb,0,none⟩),t2,.pointer (some ⟨gb,1,none⟩),e,undef,.pointer (some ⟨gb,2,none⟩),r,undef,.pointer (some ⟨gb,3,none⟩),g,undef,.pointer (some ⟨gb,4,none⟩),l,undef,.pointer (some ⟨gb,5,none⟩),x,undef,undef,undef,undef,undef,undef,undef],[]⟩ w':=by
 obtain ⟨hQ,hB,hg,hb,hn,hF⟩:=id H0
 refine za4 2 (o:=⟨some 5,.call { callee:=.value (.func 79),args:=#[.tmp 4],argTypes:=#[22] },22,_,_,none⟩) (by kernel_rfl) rfl rfl ?_
 go_simp
 go_at_call 79
 refine (zwg _ _ B _ (hb.ents.chg hD (by omega) (by intro k hk;omega)) hn.n1).mono ?_
 rintro u w1 ⟨v1,rfl,h1,hb1⟩
 have hD1:Chg (fun k=>k=gb) W w1:=hD.below hb1
 have hK1:=hK.below_ hb1
 have hS:(cbS gb e r g l x) w1:=⟨hK1.cell 1,hK1.cell 2,hK1.cell 3,hK1.cell 4,hK1.cell 5⟩
 refine ⟨hS,zar 15 (oi:=⟨some 18,.fieldAddr 28 (.tmp 1) 1,0,_,_,none⟩) rfl (by kernel_rfl) (by kernel_rfl) (by kernel_rfl) (by decide) (fun _ _ _ h=>hQ _ _ _ _ _ h) (Or.inl ⟨rfl,fun _ _=>rfl⟩) (fun _=>hS) ?_⟩
 exact cb_1_0 H0 w1 v1 hD1 hK1 (h1.older hD.size)
theorem zs2 (H0:CB Q b e r g l x t0 t2 B gb W)
 (hK:Blk W gb 28 #[.int .i64 b.users,e,r,g,l,x,.int .i64 b.step]) (hS:(cbS gb e r g l x) W):
 zav prog .any zb6 Q (cbS gb e r g l x) 16 17 #[true,true,false,true,true,false,true,true,false,true,true,false,false,false,false,false,false,false,false,false,false,false,false,false,false] ⟨#[t0,.pointer (some ⟨gb,0,none⟩),t2,.pointer (some ⟨gb,1,none⟩),e,undef,.pointer (some ⟨gb,2,none⟩),r,undef,.pointer (some ⟨gb,3,none⟩),g,undef,.pointer (some ⟨gb,4,none⟩),l,undef,undef,undef,undef,undef,undef,undef,undef,undef,undef],[]⟩ W:=by
 obtain ⟨hQ,hB,hg,hb,hn,hF⟩:=id H0
 refine zar 12 (oi:=⟨some 15,.fieldAddr 28 (.tmp 1) 5,0,_,_,none⟩) (v:=.pointer (some ⟨gb,5,none⟩)) rfl (by kernel_rfl) (by kernel_rfl) (by kernel_rfl) (by decide) (fun _ _ _ h=>hQ _ _ _ _ _ h) (Or.inl ⟨rfl,fun _ _=>rfl⟩) (fun _=>hS) ?_
 refine zb2 13 (oi:=⟨some 16,.load 26 (.tmp 15),26,_,_,none⟩) (v:=x) rfl (by kernel_rfl) (by kernel_rfl) (by kernel_rfl) (by kernel_rfl) (by decide) (by decide) (fun _ _ _ h=>hQ _ _ _ _ _ h) (Or.inl ⟨rfl,fun u hu=>?_⟩) hS ?_
 ·have hu:=hu.2.2.2.2
  obtain ⟨A,c,rfl,_⟩:=hb.rlss
  go_simp
 exact cb_0_0 H0 W (Chg.refl _ _) hK
theorem zs3 (H0:CB Q b e r g l x t0 t2 B gb W)
 (hK:Blk W gb 28 #[.int .i64 b.users,e,r,g,l,x,.int .i64 b.step]) (hS:(cbS gb e r g l x) W):
 zav prog .any zb6 Q (cbS gb e r g l x) 16 19 #[true,true,false,true,true,false,true,true,false,false,false,false,false,false,false,false,false,false,false,false,false,false,false,false,false] ⟨#[t0,.pointer (some ⟨gb,0,none⟩),t2,.pointer (some ⟨gb,1,none⟩),e,undef,.pointer (some ⟨gb,2,none⟩),r,undef,.pointer (some ⟨gb,3,none⟩),g,undef,undef,undef,undef,undef,undef,undef,undef,undef,undef,undef,undef,undef],[]⟩ W:=by
 obtain ⟨hQ,hB,hg,hb,hn,hF⟩:=id H0
 refine zar 9 (oi:=⟨some 12,.fieldAddr 28 (.tmp 1) 4,0,_,_,none⟩) (v:=.pointer (some ⟨gb,4,none⟩)) rfl (by kernel_rfl) (by kernel_rfl) (by kernel_rfl) (by decide) (fun _ _ _ h=>hQ _ _ _ _ _ h) (Or.inl ⟨rfl,fun _ _=>rfl⟩) (fun _=>hS) ?_
 refine zb2 10 (oi:=⟨some 13,.load 25 (.tmp 12),25,_,_,none⟩) (v:=l) rfl (by kernel_rfl) (by kernel_rfl) (by kernel_rfl) (by kernel_rfl) (by decide) (by decide) (fun _ _ _ h=>hQ _ _ _ _ _ h) (Or.inl ⟨rfl,fun u hu=>?_⟩) hS ?_
 ·have hu:=hu.2.2.2.1
  obtain ⟨A,c,rfl,_⟩:=hb.evts
  go_simp
 exact zs2 H0 hK hS
theorem zs4 (H0:CB Q b e r g l x t0 t2 B gb W)
 (hK:Blk W gb 28 #[.int .i64 b.users,e,r,g,l,x,.int .i64 b.step]) (hS:(cbS gb e r g l x) W):
 zav prog .any zb6 Q (cbS gb e r g l x) 16 21 #[true,true,false,true,true,false,false,false,false,false,false,false,false,false,false,false,false,false,false,false,false,false,false,false,false] ⟨#[t0,.pointer (some ⟨gb,0,none⟩),t2,.pointer (some ⟨gb,1,none⟩),e,undef,.pointer (some ⟨gb,2,none⟩),r,undef,undef,undef,undef,undef,undef,undef,undef,undef,undef,undef,undef,undef,undef,undef,undef],[]⟩ W:=by
 obtain ⟨hQ,hB,hg,hb,hn,hF⟩:=id H0
 refine zar 6 (oi:=⟨some 9,.fieldAddr 28 (.tmp 1) 3,0,_,_,none⟩) (v:=.pointer (some ⟨gb,3,none⟩)) rfl (by kernel_rfl) (by kernel_rfl) (by kernel_rfl) (by decide) (fun _ _ _ h=>hQ _ _ _ _ _ h) (Or.inl ⟨rfl,fun _ _=>rfl⟩) (fun _=>hS) ?_
 refine zb2 7 (oi:=⟨some 10,.load 24 (.tmp 9),24,_,_,none⟩) (v:=g) rfl (by kernel_rfl) (by kernel_rfl) (by kernel_rfl) (by kernel_rfl) (by decide) (by decide) (fun _ _ _ h=>hQ _ _ _ _ _ h) (Or.inl ⟨rfl,fun u hu=>?_⟩) hS ?_
 ·have hu:=hu.2.2.1
  obtain ⟨A,c,rfl,_⟩:=hb.grts
  go_simp
 exact zs3 H0 hK hS
theorem zs5 (H0:CB Q b e r g l x t0 t2 B gb W)
 (hK:Blk W gb 28 #[.int .i64 b.users,e,r,g,l,x,.int .i64 b.step]) (hS:(cbS gb e r g l x) W):
 zav prog .any zb6 Q (cbS gb e r g l x) 16 23 #[true,true,false,false,false,false,false,false,false,false,false,false,false,false,false,false,false,false,false,false,false,false,false,false,false] ⟨#[t0,.pointer (some ⟨gb,0,none⟩),t2,.pointer (some ⟨gb,1,none⟩),e,undef,undef,undef,undef,undef,undef,undef,undef,undef,undef,undef,undef,undef,undef,undef,undef,undef,undef,undef],[]⟩ W:=by
 obtain ⟨hQ,hB,hg,hb,hn,hF⟩:=id H0
 refine zar 3 (oi:=⟨some 6,.fieldAddr 28 (.tmp 1) 2,0,_,_,none⟩) (v:=.pointer (some ⟨gb,2,none⟩)) rfl (by kernel_rfl) (by kernel_rfl) (by kernel_rfl) (by decide) (fun _ _ _ h=>hQ _ _ _ _ _ h) (Or.inl ⟨rfl,fun _ _=>rfl⟩) (fun _=>hS) ?_
 refine zb2 4 (oi:=⟨some 7,.load 23 (.tmp 6),23,_,_,none⟩) (v:=r) rfl (by kernel_rfl) (by kernel_rfl) (by kernel_rfl) (by kernel_rfl) (by decide) (by decide) (fun _ _ _ h=>hQ _ _ _ _ _ h) (Or.inl ⟨rfl,fun u hu=>?_⟩) hS ?_
 ·have hu:=hu.2.1
  obtain ⟨A,c,rfl,_⟩:=hb.ruls
  go_simp
 exact zs4 H0 hK hS
theorem zs6 (H0:CB Q b e r g l x t0 t2 B gb W)
 (hK:Blk W gb 28 #[.int .i64 b.users,e,r,g,l,x,.int .i64 b.step]) (hS:(cbS gb e r g l x) W):
 zav prog .any zb6 Q (cbS gb e r g l x) 16 25 #[false,false,false,false,false,false,false,false,false,false,false,false,false,false,false,false,false,false,false,false,false,false,false,false,false] ⟨#[t0,.pointer (some ⟨gb,0,none⟩),t2,undef,undef,undef,undef,undef,undef,undef,undef,undef,undef,undef,undef,undef,undef,undef,undef,undef,undef,undef,undef,undef],[]⟩ W:=by
 obtain ⟨hQ,hB,hg,hb,hn,hF⟩:=id H0
 refine zar 0 (oi:=⟨some 3,.fieldAddr 28 (.tmp 1) 1,0,_,_,none⟩) (v:=.pointer (some ⟨gb,1,none⟩)) rfl (by kernel_rfl) (by kernel_rfl) (by kernel_rfl) (by decide) (fun _ _ _ h=>hQ _ _ _ _ _ h) (Or.inl ⟨rfl,fun _ _=>rfl⟩) (fun _=>hS) ?_
 refine zb2 1 (oi:=⟨some 4,.load 22 (.tmp 3),22,_,_,none⟩) (v:=e) rfl (by kernel_rfl) (by kernel_rfl) (by kernel_rfl) (by kernel_rfl) (by decide) (by decide) (fun _ _ _ h=>hQ _ _ _ _ _ h) (Or.inl ⟨rfl,fun u hu=>?_⟩) hS ?_
 ·have hu:=hu.1
  obtain ⟨A,c,rfl,_⟩:=hb.ents
  go_simp
 exact zs5 H0 hK hS
end
theorem zsy (b:Bok) (e r g l x:Value) (B:Nat) (w:World) (hB:B≤w.heap.size) (hb:RdBok w B b e r g l x) (hn:Short b):
 Calls prog 25 #[vBok b e r g l x] w fun u w'=>∃e' r' g' l' x',u=.returned (vBok b e' r' g' l' x')∧
  (SlsN cEnt w.heap.size w' e' b.entries∧SlsN cRul w.heap.size w' r' b.rules∧SlsN cGrt w.heap.size w' g' b.grants∧SlsN cEvt w.heap.size w' l' b.log∧SlsN cRls w.heap.size w' x' b.releases)∧Below w.heap.size w w':=by
 obtain ⟨Ae,ne,ce,rfl⟩:∃A n c,e=.slice A n c:=by obtain ⟨A,c,h,_⟩:=hb.ents;exact ⟨_,_,_,h⟩
 obtain ⟨Ar,nr,cr,rfl⟩:∃A n c,r=.slice A n c:=by obtain ⟨A,c,h,_⟩:=hb.ruls;exact ⟨_,_,_,h⟩
 obtain ⟨Ag,ng,cg,rfl⟩:∃A n c,g=.slice A n c:=by obtain ⟨A,c,h,_⟩:=hb.grts;exact ⟨_,_,_,h⟩
 obtain ⟨Al,nl,cl,rfl⟩:∃A n c,l=.slice A n c:=by obtain ⟨A,c,h,_⟩:=hb.evts;exact ⟨_,_,_,h⟩
 obtain ⟨Ax,nx,cx,rfl⟩:∃A n c,x=.slice A n c:=by obtain ⟨A,c,h,_⟩:=hb.rlss;exact ⟨_,_,_,h⟩
 have HB:=Hd hb
 have HN:=Hd hn
 clear hb hn
 go_enter func25,ntmps25
 go_wp2_with fail
 refine za8 (fun w'=>w'.cell? ⟨w.heap.size,1,none⟩=some (.slice Ae ne ce)∧w'.cell? ⟨w.heap.size,2,none⟩=some (.slice Ar nr cr)∧w'.cell? ⟨w.heap.size,3,none⟩=some (.slice Ag ng cg)∧w'.cell? ⟨w.heap.size,4,none⟩=some (.slice Al nl cl)∧w'.cell? ⟨w.heap.size,5,none⟩=some (.slice Ax nx cx)) 16 (by kernel_rfl) ?_
 change zav _ _ zb6 _ _ _ 25 (Array.replicate 25 false) _ _
 generalize hW:World.drew _=W
 have hs:W.heap.size=w.heap.size+2:=by rw [← hW];simp
 have hK:Blk W w.heap.size 28 #[.int .i64 b.users,.slice Ae ne ce,.slice Ar nr cr,.slice Ag ng cg,.slice Al nl cl,.slice Ax nx cx,.int .i64 b.step]:=by rw [← hW];exact ((Blk.new _ _ _).alloc _).drew
 have hR:Blk W (w.heap.size+1) 28 #[.int .i64 0,.slice none 0 0,.slice none 0 0,.slice none 0 0,.slice none 0 0,.slice none 0 0,.int .i64 0]:=by rw [← hW];have:=Blk.new (w.alloc (.cells #[.int .i64 b.users,.slice Ae ne ce,.slice Ar nr cr,.slice Ag ng cg,.slice Al nl cl,.slice Ax nx cx,.int .i64 b.step] 28)) 28 #[.int .i64 0,.slice none 0 0,.slice none 0 0,.slice none 0 0,.slice none 0 0,.slice none 0 0,.int .i64 0];simpa using this.drew
 have hBW:Below w.heap.size w W:=by rw [← hW];go_grown
 clear hW
 have hS:W.cell? ⟨w.heap.size,1,none⟩=some (.slice Ae ne ce)∧W.cell? ⟨w.heap.size,2,none⟩=some (.slice Ar nr cr)∧W.cell? ⟨w.heap.size,3,none⟩=some (.slice Ag ng cg)∧W.cell? ⟨w.heap.size,4,none⟩=some (.slice Al nl cl)∧W.cell? ⟨w.heap.size,5,none⟩=some (.slice Ax nx cx):=⟨hK.cell 1,hK.cell 2,hK.cell 3,hK.cell 4,hK.cell 5⟩
 refine zs6 ⟨fun _ _ d _ _ h=>by cases d <;> exact h,hB,by omega,RdBok.below HB.out (hBW.mono hB),HN.out,?_⟩ hK hS
 intro w' v1 v2 v3 v4 v5 hD hK' h1 h2 h3 h4 h5
 have hR':=hR.chg hD (by simp)
 have kc:∀o,w'.cell? ⟨w.heap.size,o,none⟩=_:=hK'.cell
 have rc:∀o,w'.cell? ⟨w.heap.size+1,o,none⟩=_:=hR'.cell
 have rf:∀o,w'.frozen? ⟨w.heap.size+1,o,none⟩=_:=hR'.frozen
 obtain ⟨Ae',ce',rfl,_⟩:=id h1.1
 obtain ⟨Ar',cr',rfl,_⟩:=id h2.1
 obtain ⟨Ag',cg',rfl,_⟩:=id h3.1
 obtain ⟨Al',cl',rfl,_⟩:=id h4.1
 obtain ⟨Ax',cx',rfl,_⟩:=id h5.1
 have H1:=Hd h1
 have H2:=Hd h2
 have H3:=Hd h3
 have H4:=Hd h4
 have H5:=Hd h5
 clear h1 h2 h3 h4 h5 hS hR hK
 have hBw:Below w.heap.size w w':=hBW.trans (hD.to_below (by omega) (fun k hk e=>by omega))
 clear hD hBW
 go_wp2
 refine bodyPost_ret (v:=vBok b (.slice Ae' b.entries.length ce') (.slice Ar' b.rules.length cr') (.slice Ag' b.grants.length cg') (.slice Al' b.log.length cl') (.slice Ax' b.releases.length cx')) (by simp (maxDischargeDepth:=9) [results,results25,go_sem,rc]) rfl ?_
 have hp:w.heap.size+1<W.heap.size:=by omega
 have hp':w.heap.size≤w.heap.size+1:=by omega
 have ho:w.heap.size≤W.heap.size:=by omega
 exact ⟨_,_,_,_,_,rfl,⟨SlsN.older (((((((H1.out.set hp _).set hp _).set hp _).set hp _).set hp _).set hp _).set hp _) ho,SlsN.older (((((((H2.out.set hp _).set hp _).set hp _).set hp _).set hp _).set hp _).set hp _) ho,SlsN.older (((((((H3.out.set hp _).set hp _).set hp _).set hp _).set hp _).set hp _).set hp _) ho,SlsN.older (((((((H4.out.set hp _).set hp _).set hp _).set hp _).set hp _).set hp _).set hp _) ho,SlsN.older (((((((H5.out.set hp _).set hp _).set hp _).set hp _).set hp _).set hp _).set hp _) ho⟩,((((((hBw.setCell hp' _).setCell hp' _).setCell hp' _).setCell hp' _).setCell hp' _).setCell hp' _).setCell hp' _⟩
noncomputable def zc8:Array Oper:=((Tryz.f11.body.bind (zu4 1)).getD #[])
section
variable {Q:Exit→Act→World→Prop} {s:Scp} {e r g l x o t0 t2:Value} {B gb:Nat} {W:World}
def CS (Q:Exit→Act→World→Prop) (s:Scp) (e r g l x o t0 t2:Value) (B gb:Nat) (W:World):Prop:=
 (∀c a d v w,Q (.panic c) (Act.put a d v) w→Q (.panic c) a w)∧B≤gb∧gb<W.heap.size∧RdScp W B s e r g l x o∧Short s.book∧s.ops.length≤8192∧∀w' e1 r1 g1 l1 x1 o1,Chg (fun k=>k=gb) W w'→Blk w' gb 31 #[.int .i64 s.book.users,e1,r1,g1,l1,x1,.int .i64 s.book.step,o1]→SlsN cEnt W.heap.size w' e1 s.book.entries→SlsN cRul W.heap.size w' r1 s.book.rules→SlsN cGrt W.heap.size w' g1 s.book.grants→SlsN cEvt W.heap.size w' l1 s.book.log→SlsN cRls W.heap.size w' x1 s.book.releases→SlsN cOpr W.heap.size w' o1 s.ops→Q .normal ⟨#[t0,.pointer (some ⟨gb,0,none⟩),t2,.pointer (some ⟨gb,0,none⟩),vBok s.book e r g l x,vBok s.book e1 r1 g1 l1 x1,.pointer (some ⟨gb,7,none⟩),o,o1,.pointer (some ⟨gb,0,none⟩),.pointer (some ⟨gb,7,none⟩),undef],[]⟩ w'
theorem cs_2_2 (H0:CS Q s e r g l x o t0 t2 B gb W)
 (w':World) (e1 r1 g1 l1 x1:Value) (o1:Value) (hD:Chg (fun k=>k=gb) W w') (hK:Blk w' gb 31 #[.int .i64 s.book.users,e1,r1,g1,l1,x1,.int .i64 s.book.step,o1]) (h1:SlsN cEnt W.heap.size w' e1 s.book.entries) (h2:SlsN cRul W.heap.size w' r1 s.book.rules) (h3:SlsN cGrt W.heap.size w' g1 s.book.grants) (h4:SlsN cEvt W.heap.size w' l1 s.book.log) (h5:SlsN cRls W.heap.size w' x1 s.book.releases) (h6:SlsN cOpr W.heap.size w' o1 s.ops):
 zav prog .any zc8 Q (fun u=>u.rangeAt gb 0 [.int .i64 s.book.users,e,r,g,l,x,.int .i64 s.book.step]∧u.cell? ⟨gb,7,none⟩=some o) 7 0 #[true,true,true,true,true,true,true,true,true,true] ⟨#[t0,.pointer (some ⟨gb,0,none⟩),t2,.pointer (some ⟨gb,0,none⟩),vBok s.book e r g l x,vBok s.book e1 r1 g1 l1 x1,.pointer (some ⟨gb,7,none⟩),o,o1,.pointer (some ⟨gb,0,none⟩),.pointer (some ⟨gb,7,none⟩),undef],[]⟩ w':=by
 obtain ⟨hQ,hB,hg,hb,hn,hm,hF⟩:=id H0
 exact za9 (by kernel_rfl) (hF w' e1 r1 g1 l1 x1 o1 hD hK h1 h2 h3 h4 h5 h6)
theorem cs_2_1 (H0:CS Q s e r g l x o t0 t2 B gb W)
 (w':World) (e1 r1 g1 l1 x1:Value) (o1:Value) (hD:Chg (fun k=>k=gb) W w') (hK:Blk w' gb 31 #[.int .i64 s.book.users,e1,r1,g1,l1,x1,.int .i64 s.book.step,o]) (h1:SlsN cEnt W.heap.size w' e1 s.book.entries) (h2:SlsN cRul W.heap.size w' r1 s.book.rules) (h3:SlsN cGrt W.heap.size w' g1 s.book.grants) (h4:SlsN cEvt W.heap.size w' l1 s.book.log) (h5:SlsN cRls W.heap.size w' x1 s.book.releases) (h6:SlsN cOpr W.heap.size w' o1 s.ops):
 zav prog .any zc8 Q (fun u=>u.rangeAt gb 0 [.int .i64 s.book.users,e,r,g,l,x,.int .i64 s.book.step]∧u.cell? ⟨gb,7,none⟩=some o) 7 1 #[true,true,true,true,true,true,true,true,true,false] ⟨#[t0,.pointer (some ⟨gb,0,none⟩),t2,.pointer (some ⟨gb,0,none⟩),vBok s.book e r g l x,vBok s.book e1 r1 g1 l1 x1,.pointer (some ⟨gb,7,none⟩),o,o1,.pointer (some ⟨gb,0,none⟩),.pointer (some ⟨gb,7,none⟩),undef],[]⟩ w':=by
 obtain ⟨hQ,hB,hg,hb,hn,hm,hF⟩:=id H0
 refine za4 9 (o:=⟨none,.store 29 (.tmp 10) (.tmp 8),0,_,_,none⟩) (by kernel_rfl) rfl rfl ?_
 have hc:w'.cell? ⟨gb,7,none⟩=some o:=hK.cell 7
 have hf:=hK.frozen 7
 have hK1:=hK.set_ 7 o1
 have hD1:=hD.setCell (p:=⟨gb,7,none⟩) (.inl rfl) o1
 have f1:=h1.set (p:=⟨gb,7,none⟩) hg o1
 have f2:=h2.set (p:=⟨gb,7,none⟩) hg o1
 have f3:=h3.set (p:=⟨gb,7,none⟩) hg o1
 have f4:=h4.set (p:=⟨gb,7,none⟩) hg o1
 have f5:=h5.set (p:=⟨gb,7,none⟩) hg o1
 have f6:=h6.set (p:=⟨gb,7,none⟩) hg o1
 have H:=cs_2_2 H0 _ e1 r1 g1 l1 x1 o1 hD1 hK1 f1 f2 f3 f4 f5 f6
 have H':=Hd H
 clear H
 obtain ⟨A,cap,rfl,_⟩:=id h6.1
 go_simp
 first | exact H'.out | exact ⟨fun h=>absurd h (by decide),H'.out⟩
theorem cs_2_0 (H0:CS Q s e r g l x o t0 t2 B gb W)
 (w':World) (e1 r1 g1 l1 x1:Value) (o1:Value) (hD:Chg (fun k=>k=gb) W w') (hK:Blk w' gb 31 #[.int .i64 s.book.users,e,r,g,l,x,.int .i64 s.book.step,o]) (h1:SlsN cEnt W.heap.size w' e1 s.book.entries) (h2:SlsN cRul W.heap.size w' r1 s.book.rules) (h3:SlsN cGrt W.heap.size w' g1 s.book.grants) (h4:SlsN cEvt W.heap.size w' l1 s.book.log) (h5:SlsN cRls W.heap.size w' x1 s.book.releases) (h6:SlsN cOpr W.heap.size w' o1 s.ops):
 zav prog .any zc8 Q (fun u=>u.rangeAt gb 0 [.int .i64 s.book.users,e,r,g,l,x,.int .i64 s.book.step]∧u.cell? ⟨gb,7,none⟩=some o) 7 3 #[true,true,true,true,true,true,true,false,false,false] ⟨#[t0,.pointer (some ⟨gb,0,none⟩),t2,.pointer (some ⟨gb,0,none⟩),vBok s.book e r g l x,vBok s.book e1 r1 g1 l1 x1,.pointer (some ⟨gb,7,none⟩),o,o1,.pointer (some ⟨gb,0,none⟩),undef,undef],[]⟩ w':=by
 obtain ⟨hQ,hB,hg,hb,hn,hm,hF⟩:=id H0
 refine za4 7 (o:=⟨none,.store 28 (.tmp 9) (.tmp 5),0,_,_,none⟩) (by kernel_rfl) rfl rfl ?_
 have kc:∀q,w'.cell? ⟨gb,q,none⟩=_:=hK.cell
 have kf:∀q,w'.frozen? ⟨gb,q,none⟩=_:=hK.frozen
 have hK1:=(Blk.set_ (Blk.set_ (Blk.set_ (Blk.set_ (Blk.set_ (Blk.set_ (Blk.set_ hK 0 (.int .i64 s.book.users)) 1 e1) 2 r1) 3 g1) 4 l1) 5 x1) 6 (.int .i64 s.book.step))
 have hD1:=(Chg.setCell (Chg.setCell (Chg.setCell (Chg.setCell (Chg.setCell (Chg.setCell (Chg.setCell hD (p:=⟨gb,0,none⟩) (.inl rfl) (.int .i64 s.book.users)) (p:=⟨gb,1,none⟩) (.inl rfl) e1) (p:=⟨gb,2,none⟩) (.inl rfl) r1) (p:=⟨gb,3,none⟩) (.inl rfl) g1) (p:=⟨gb,4,none⟩) (.inl rfl) l1) (p:=⟨gb,5,none⟩) (.inl rfl) x1) (p:=⟨gb,6,none⟩) (.inl rfl) (.int .i64 s.book.step))
 have f1:=(SlsN.set (SlsN.set (SlsN.set (SlsN.set (SlsN.set (SlsN.set (SlsN.set h1 (p:=⟨gb,0,none⟩) hg (.int .i64 s.book.users)) (p:=⟨gb,1,none⟩) hg e1) (p:=⟨gb,2,none⟩) hg r1) (p:=⟨gb,3,none⟩) hg g1) (p:=⟨gb,4,none⟩) hg l1) (p:=⟨gb,5,none⟩) hg x1) (p:=⟨gb,6,none⟩) hg (.int .i64 s.book.step))
 have f2:=(SlsN.set (SlsN.set (SlsN.set (SlsN.set (SlsN.set (SlsN.set (SlsN.set h2 (p:=⟨gb,0,none⟩) hg (.int .i64 s.book.users)) (p:=⟨gb,1,none⟩) hg e1) (p:=⟨gb,2,none⟩) hg r1) (p:=⟨gb,3,none⟩) hg g1) (p:=⟨gb,4,none⟩) hg l1) (p:=⟨gb,5,none⟩) hg x1) (p:=⟨gb,6,none⟩) hg (.int .i64 s.book.step))
 have f3:=(SlsN.set (SlsN.set (SlsN.set (SlsN.set (SlsN.set (SlsN.set (SlsN.set h3 (p:=⟨gb,0,none⟩) hg (.int .i64 s.book.users)) (p:=⟨gb,1,none⟩) hg e1) (p:=⟨gb,2,none⟩) hg r1) (p:=⟨gb,3,none⟩) hg g1) (p:=⟨gb,4,none⟩) hg l1) (p:=⟨gb,5,none⟩) hg x1) (p:=⟨gb,6,none⟩) hg (.int .i64 s.book.step))
 have f4:=(SlsN.set (SlsN.set (SlsN.set (SlsN.set (SlsN.set (SlsN.set (SlsN.set h4 (p:=⟨gb,0,none⟩) hg (.int .i64 s.book.users)) (p:=⟨gb,1,none⟩) hg e1) (p:=⟨gb,2,none⟩) hg r1) (p:=⟨gb,3,none⟩) hg g1) (p:=⟨gb,4,none⟩) hg l1) (p:=⟨gb,5,none⟩) hg x1) (p:=⟨gb,6,none⟩) hg (.int .i64 s.book.step))
 have f5:=(SlsN.set (SlsN.set (SlsN.set (SlsN.set (SlsN.set (SlsN.set (SlsN.set h5 (p:=⟨gb,0,none⟩) hg (.int .i64 s.book.users)) (p:=⟨gb,1,none⟩) hg e1) (p:=⟨gb,2,none⟩) hg r1) (p:=⟨gb,3,none⟩) hg g1) (p:=⟨gb,4,none⟩) hg l1) (p:=⟨gb,5,none⟩) hg x1) (p:=⟨gb,6,none⟩) hg (.int .i64 s.book.step))
 have f6:=(SlsN.set (SlsN.set (SlsN.set (SlsN.set (SlsN.set (SlsN.set (SlsN.set h6 (p:=⟨gb,0,none⟩) hg (.int .i64 s.book.users)) (p:=⟨gb,1,none⟩) hg e1) (p:=⟨gb,2,none⟩) hg r1) (p:=⟨gb,3,none⟩) hg g1) (p:=⟨gb,4,none⟩) hg l1) (p:=⟨gb,5,none⟩) hg x1) (p:=⟨gb,6,none⟩) hg (.int .i64 s.book.step))
 have H:=cs_2_1 H0 _ e1 r1 g1 l1 x1 o1 hD1 hK1 f1 f2 f3 f4 f5 f6
 have H':=Hd H
 clear H hD1 hK1 f1 f2 f3 f4 f5 f6
 obtain ⟨A0,cap0,rfl,_⟩:=id h1.1
 obtain ⟨A1,cap1,rfl,_⟩:=id h2.1
 obtain ⟨A2,cap2,rfl,_⟩:=id h3.1
 obtain ⟨A3,cap3,rfl,_⟩:=id h4.1
 obtain ⟨A4,cap4,rfl,_⟩:=id h5.1
 go_simp
 refine zar 8 (oi:=⟨some 10,.fieldAddr 31 (.tmp 1) 1,0,_,_,none⟩) rfl (by kernel_rfl) (by kernel_rfl) (by kernel_rfl) (by decide) (fun _ _ _ h=>hQ _ _ _ _ _ h) (Or.inl ⟨rfl,fun _ _=>rfl⟩) (fun h=>absurd h (by decide)) ?_
 exact H'.out
theorem cs_1_0 (H0:CS Q s e r g l x o t0 t2 B gb W)
 (w':World) (e1 r1 g1 l1 x1:Value) (hD:Chg (fun k=>k=gb) W w') (hK:Blk w' gb 31 #[.int .i64 s.book.users,e,r,g,l,x,.int .i64 s.book.step,o]) (h1:SlsN cEnt W.heap.size w' e1 s.book.entries) (h2:SlsN cRul W.heap.size w' r1 s.book.rules) (h3:SlsN cGrt W.heap.size w' g1 s.book.grants) (h4:SlsN cEvt W.heap.size w' l1 s.book.log) (h5:SlsN cRls W.heap.size w' x1 s.book.releases):
 zav prog .any zc8 Q (fun u=>u.rangeAt gb 0 [.int .i64 s.book.users,e,r,g,l,x,.int .i64 s.book.step]∧u.cell? ⟨gb,7,none⟩=some o) 7 4 #[true,true,true,true,true,false,true,false,false,false] ⟨#[t0,.pointer (some ⟨gb,0,none⟩),t2,.pointer (some ⟨gb,0,none⟩),vBok s.book e r g l x,vBok s.book e1 r1 g1 l1 x1,.pointer (some ⟨gb,7,none⟩),o,undef,.pointer (some ⟨gb,0,none⟩),undef,undef],[]⟩ w':=by
 obtain ⟨hQ,hB,hg,hb,hn,hm,hF⟩:=id H0
 refine za4 5 (o:=⟨some 8,.call { callee:=.value (.func 26),args:=#[.tmp 7],argTypes:=#[29] },29,_,_,none⟩) (by kernel_rfl) rfl rfl ?_
 go_simp
 go_at_call 26
 refine (zwd _ _ B _ (hb.ops.chg hD (by omega) (by intro k hk;omega)) hm).mono ?_
 rintro u w1 ⟨o1,rfl,h6,hb1⟩
 have hD1:Chg (fun k=>k=gb) W w1:=hD.below hb1
 have hKX:=hK.below_ hb1
 have hS:(fun u=>u.rangeAt gb 0 [.int .i64 s.book.users,e,r,g,l,x,.int .i64 s.book.step]∧u.cell? ⟨gb,7,none⟩=some o) w1:=⟨hKX.range (l:=[.int .i64 s.book.users,e,r,g,l,x,.int .i64 s.book.step]) (o:=0) (by intro j v hj;rw [List.getElem?_eq_some_iff] at hj;obtain ⟨hj,rfl⟩:=hj;have:j<7:=hj;rcases j with _|_|_|_|_|_|_|_ <;> first | rfl | omega),hKX.cell 7⟩
 refine ⟨hS,?_⟩
 exact cs_2_0 H0 w1 e1 r1 g1 l1 x1 o1 hD1 hKX (h1.below hb1) (h2.below hb1) (h3.below hb1) (h4.below hb1) (h5.below hb1) (h6.older hD.size)
theorem cs_0_0 (H0:CS Q s e r g l x o t0 t2 B gb W)
 (w':World) (hD:Chg (fun k=>k=gb) W w') (hK:Blk w' gb 31 #[.int .i64 s.book.users,e,r,g,l,x,.int .i64 s.book.step,o]):
 zav prog .any zc8 Q (fun u=>u.rangeAt gb 0 [.int .i64 s.book.users,e,r,g,l,x,.int .i64 s.book.step]∧u.cell? ⟨gb,7,none⟩=some o) 7 6 #[true,true,false,true,true,false,false,false,false,false] ⟨#[t0,.pointer (some ⟨gb,0,none⟩),t2,.pointer (some ⟨gb,0,none⟩),vBok s.book e r g l x,undef,.pointer (some ⟨gb,7,none⟩),o,undef,undef,undef,undef],[]⟩ w':=by
 obtain ⟨hQ,hB,hg,hb,hn,hm,hF⟩:=id H0
 refine za4 2 (o:=⟨some 5,.call { callee:=.value (.func 25),args:=#[.tmp 4],argTypes:=#[28] },28,_,_,none⟩) (by kernel_rfl) rfl rfl ?_
 go_simp
 go_at_call 25
 refine (zsy s.book e r g l x B w' (by have:=hD.size;omega) (hb.book.below (hD.to_below (by omega) (by intro k hk;omega))) hn).mono ?_
 rintro u w1 ⟨e1,r1,g1,l1,x1,rfl,⟨h1,h2,h3,h4,h5⟩,hb1⟩
 have hD1:Chg (fun k=>k=gb) W w1:=hD.below hb1
 have hKX:=hK.below_ hb1
 have hS:(fun u=>u.rangeAt gb 0 [.int .i64 s.book.users,e,r,g,l,x,.int .i64 s.book.step]∧u.cell? ⟨gb,7,none⟩=some o) w1:=⟨hKX.range (l:=[.int .i64 s.book.users,e,r,g,l,x,.int .i64 s.book.step]) (o:=0) (by intro j v hj;rw [List.getElem?_eq_some_iff] at hj;obtain ⟨hj,rfl⟩:=hj;have:j<7:=hj;rcases j with _|_|_|_|_|_|_|_ <;> first | rfl | omega),hKX.cell 7⟩
 refine ⟨hS,zar 6 (oi:=⟨some 9,.fieldAddr 31 (.tmp 1) 0,0,_,_,none⟩) rfl (by kernel_rfl) (by kernel_rfl) (by kernel_rfl) (by decide) (fun _ _ _ h=>hQ _ _ _ _ _ h) (Or.inl ⟨rfl,fun _ _=>rfl⟩) (fun _=>hS) ?_⟩
 exact cs_1_0 H0 w1 e1 r1 g1 l1 x1 hD1 hKX (h1.older hD.size) (h2.older hD.size) (h3.older hD.size) (h4.older hD.size) (h5.older hD.size)
theorem zsw (H0:CS Q s e r g l x o t0 t2 B gb W)
 (hK:Blk W gb 31 #[.int .i64 s.book.users,e,r,g,l,x,.int .i64 s.book.step,o]) (hS:(fun u=>u.rangeAt gb 0 [.int .i64 s.book.users,e,r,g,l,x,.int .i64 s.book.step]∧u.cell? ⟨gb,7,none⟩=some o) W):
 zav prog .any zc8 Q (fun u=>u.rangeAt gb 0 [.int .i64 s.book.users,e,r,g,l,x,.int .i64 s.book.step]∧u.cell? ⟨gb,7,none⟩=some o) 7 8 #[true,true,false,false,false,false,false,false,false,false] ⟨#[t0,.pointer (some ⟨gb,0,none⟩),t2,.pointer (some ⟨gb,0,none⟩),vBok s.book e r g l x,undef,undef,undef,undef,undef,undef,undef],[]⟩ W:=by
 obtain ⟨hQ,hB,hg,hb,hn,hm,hF⟩:=id H0
 refine zar 3 (oi:=⟨some 6,.fieldAddr 31 (.tmp 1) 1,0,_,_,none⟩) (v:=.pointer (some ⟨gb,7,none⟩)) rfl (by kernel_rfl) (by kernel_rfl) (by kernel_rfl) (by decide) (fun _ _ _ h=>hQ _ _ _ _ _ h) (Or.inl ⟨rfl,fun _ _=>rfl⟩) (fun _=>hS) ?_
 refine zb2 4 (oi:=⟨some 7,.load 29 (.tmp 6),29,_,_,none⟩) (v:=o) rfl (by kernel_rfl) (by kernel_rfl) (by kernel_rfl) (by kernel_rfl) (by decide) (by decide) (fun _ _ _ h=>hQ _ _ _ _ _ h) (Or.inl ⟨rfl,fun u hu=>?_⟩) hS ?_
 ·have hu:=hu.2
  obtain ⟨A,c,rfl,_⟩:=hb.ops
  go_simp
 exact cs_0_0 H0 W (Chg.refl _ _) hK
theorem zsx (H0:CS Q s e r g l x o t0 t2 B gb W)
 (hK:Blk W gb 31 #[.int .i64 s.book.users,e,r,g,l,x,.int .i64 s.book.step,o]) (hS:(fun u=>u.rangeAt gb 0 [.int .i64 s.book.users,e,r,g,l,x,.int .i64 s.book.step]∧u.cell? ⟨gb,7,none⟩=some o) W):
 zav prog .any zc8 Q (fun u=>u.rangeAt gb 0 [.int .i64 s.book.users,e,r,g,l,x,.int .i64 s.book.step]∧u.cell? ⟨gb,7,none⟩=some o) 7 10 #[false,false,false,false,false,false,false,false,false,false] ⟨#[t0,.pointer (some ⟨gb,0,none⟩),t2,undef,undef,undef,undef,undef,undef,undef,undef,undef],[]⟩ W:=by
 obtain ⟨hQ,hB,hg,hb,hn,hm,hF⟩:=id H0
 refine zar 0 (oi:=⟨some 3,.fieldAddr 31 (.tmp 1) 0,0,_,_,none⟩) (v:=.pointer (some ⟨gb,0,none⟩)) rfl (by kernel_rfl) (by kernel_rfl) (by kernel_rfl) (by decide) (fun _ _ _ h=>hQ _ _ _ _ _ h) (Or.inl ⟨rfl,fun _ _=>rfl⟩) (fun _=>hS) ?_
 refine zb2 1 (oi:=⟨some 4,.load 28 (.tmp 3),28,_,_,none⟩) (v:=vBok s.book e r g l x) rfl (by kernel_rfl) (by kernel_rfl) (by kernel_rfl) (by kernel_rfl) (by decide) (by decide) (fun _ _ _ h=>hQ _ _ _ _ _ h) (yieldsIf_load_mid rfl _ _ rfl gb 0 rfl [.int .i64 s.book.users,e,r,g,l,x,.int .i64 s.book.step] _ (fun _ h=>h.1) rfl rfl (by kernel_rfl)) hS ?_
 exact zsw H0 hK hS
end
theorem zmx (s:Scp) (e r g l x o:Value) (B:Nat) (w:World) (hB:B≤w.heap.size) (hb:RdScp w B s e r g l x o) (hn:Short s.book) (hm:s.ops.length≤8192):
 Calls prog 11 #[vScp s e r g l x o] w fun u w'=>∃e' r' g' l' x' o',u=.returned (vScp s e' r' g' l' x' o')∧
  (SlsN cEnt w.heap.size w' e' s.book.entries∧SlsN cRul w.heap.size w' r' s.book.rules∧SlsN cGrt w.heap.size w' g' s.book.grants∧SlsN cEvt w.heap.size w' l' s.book.log∧SlsN cRls w.heap.size w' x' s.book.releases∧SlsN cOpr w.heap.size w' o' s.ops)∧Below w.heap.size w w':=by
 obtain ⟨Ae,ne,ce,rfl⟩:∃A n c,e=.slice A n c:=by obtain ⟨A,c,h,_⟩:=hb.book.ents;exact ⟨_,_,_,h⟩
 obtain ⟨Ar,nr,cr,rfl⟩:∃A n c,r=.slice A n c:=by obtain ⟨A,c,h,_⟩:=hb.book.ruls;exact ⟨_,_,_,h⟩
 obtain ⟨Ag,ng,cg,rfl⟩:∃A n c,g=.slice A n c:=by obtain ⟨A,c,h,_⟩:=hb.book.grts;exact ⟨_,_,_,h⟩
 obtain ⟨Al,nl,cl,rfl⟩:∃A n c,l=.slice A n c:=by obtain ⟨A,c,h,_⟩:=hb.book.evts;exact ⟨_,_,_,h⟩
 obtain ⟨Ax,nx,cx,rfl⟩:∃A n c,x=.slice A n c:=by obtain ⟨A,c,h,_⟩:=hb.book.rlss;exact ⟨_,_,_,h⟩
 obtain ⟨Ao,no,co,rfl⟩:∃A n c,o=.slice A n c:=by obtain ⟨A,c,h,_⟩:=hb.ops;exact ⟨_,_,_,h⟩
 have HB:=Hd hb
 have HN:=Hd hn
 have HM:=Hd hm
 clear hb hn hm
 go_enter func11,ntmps11
 go_wp2_with fail
 refine za8 (fun u=>u.rangeAt w.heap.size 0 [.int .i64 s.book.users,.slice Ae ne ce,.slice Ar nr cr,.slice Ag ng cg,.slice Al nl cl,.slice Ax nx cx,.int .i64 s.book.step]∧u.cell? ⟨w.heap.size,7,none⟩=some (.slice Ao no co)) 7 (by kernel_rfl) ?_
 change zav _ _ zc8 _ _ _ 10 (Array.replicate 10 false) _ _
 generalize hW:World.drew _=W
 have hs:W.heap.size=w.heap.size+2:=by rw [← hW];simp
 have hKX:Blk W w.heap.size 31 #[.int .i64 s.book.users,.slice Ae ne ce,.slice Ar nr cr,.slice Ag ng cg,.slice Al nl cl,.slice Ax nx cx,.int .i64 s.book.step,.slice Ao no co]:=by rw [← hW];exact ((Blk.new _ _ _).alloc _).drew
 have hR:Blk W (w.heap.size+1) 31 #[.int .i64 0,.slice none 0 0,.slice none 0 0,.slice none 0 0,.slice none 0 0,.slice none 0 0,.int .i64 0,.slice none 0 0]:=by rw [← hW];have:=Blk.new (w.alloc (.cells #[.int .i64 s.book.users,.slice Ae ne ce,.slice Ar nr cr,.slice Ag ng cg,.slice Al nl cl,.slice Ax nx cx,.int .i64 s.book.step,.slice Ao no co] 31)) 31 #[.int .i64 0,.slice none 0 0,.slice none 0 0,.slice none 0 0,.slice none 0 0,.slice none 0 0,.int .i64 0,.slice none 0 0];simpa using this.drew
 have hBW:Below w.heap.size w W:=by rw [← hW];go_grown
 clear hW
 have hS:(fun u=>u.rangeAt w.heap.size 0 [.int .i64 s.book.users,.slice Ae ne ce,.slice Ar nr cr,.slice Ag ng cg,.slice Al nl cl,.slice Ax nx cx,.int .i64 s.book.step]∧u.cell? ⟨w.heap.size,7,none⟩=some (.slice Ao no co)) W:=⟨hKX.range (l:=[.int .i64 s.book.users,_,_,_,_,_,.int .i64 s.book.step]) (o:=0) (by intro j v hj;rw [List.getElem?_eq_some_iff] at hj;obtain ⟨hj,rfl⟩:=hj;have:j<7:=hj;rcases j with _|_|_|_|_|_|_|_ <;> first | rfl | omega),hKX.cell 7⟩
 refine zsx ⟨fun _ _ d _ _ h=>by cases d <;> exact h,hB,by omega,RdScp.below HB.out (hBW.mono hB),HN.out,HM.out,?_⟩ hKX hS
 intro w' e1 r1 g1 l1 x1 o1 hD hK' h1 h2 h3 h4 h5 h6
 have hR':=hR.chg hD (by simp)
 have kc:∀q,w'.cell? ⟨w.heap.size,q,none⟩=_:=hK'.cell
 have rc:∀q,w'.cell? ⟨w.heap.size+1,q,none⟩=_:=hR'.cell
 have rf:∀q,w'.frozen? ⟨w.heap.size+1,q,none⟩=_:=hR'.frozen
 obtain ⟨Ae',ce',rfl,_⟩:=id h1.1
 obtain ⟨Ar',cr',rfl,_⟩:=id h2.1
 obtain ⟨Ag',cg',rfl,_⟩:=id h3.1
 obtain ⟨Al',cl',rfl,_⟩:=id h4.1
 obtain ⟨Ax',cx',rfl,_⟩:=id h5.1
 obtain ⟨Ao',co',rfl,_⟩:=id h6.1
 have H1:=Hd h1
 have H2:=Hd h2
 have H3:=Hd h3
 have H4:=Hd h4
 have H5:=Hd h5
 have H6:=Hd h6
 clear h1 h2 h3 h4 h5 h6 hS hR hKX
 have hBw:Below w.heap.size w w':=hBW.trans (hD.to_below (by omega) (fun k hk e=>by omega))
 clear hD hBW
 go_wp2
 refine bodyPost_ret (v:=vScp s (.slice Ae' s.book.entries.length ce') (.slice Ar' s.book.rules.length cr') (.slice Ag' s.book.grants.length cg') (.slice Al' s.book.log.length cl') (.slice Ax' s.book.releases.length cx') (.slice Ao' s.ops.length co')) (by simp (maxDischargeDepth:=9) [results,results11,go_sem,rc]) rfl ?_
 have hp:w.heap.size+1<W.heap.size:=by omega
 have hp':w.heap.size≤w.heap.size+1:=by omega
 have ho:w.heap.size≤W.heap.size:=by omega
 exact ⟨_,_,_,_,_,_,rfl,⟨SlsN.older ((((((((H1.out.set hp _).set hp _).set hp _).set hp _).set hp _).set hp _).set hp _).set hp _) ho,SlsN.older ((((((((H2.out.set hp _).set hp _).set hp _).set hp _).set hp _).set hp _).set hp _).set hp _) ho,SlsN.older ((((((((H3.out.set hp _).set hp _).set hp _).set hp _).set hp _).set hp _).set hp _).set hp _) ho,SlsN.older ((((((((H4.out.set hp _).set hp _).set hp _).set hp _).set hp _).set hp _).set hp _).set hp _) ho,SlsN.older ((((((((H5.out.set hp _).set hp _).set hp _).set hp _).set hp _).set hp _).set hp _).set hp _) ho,SlsN.older ((((((((H6.out.set hp _).set hp _).set hp _).set hp _).set hp _).set hp _).set hp _).set hp _) ho⟩,(((((((hBw.setCell hp' _).setCell hp' _).setCell hp' _).setCell hp' _).setCell hp' _).setCell hp' _).setCell hp' _).setCell hp' _⟩
theorem zk4 (a b c d:Int) (w:World):
 Calls prog 198 #[.agg #[.int .i64 a,.int .i64 b,.int .i64 c,.int .i64 d]] w fun e w'=>e=.returned (.tuple #[.agg #[.int .i64 a,.int .i64 b],.agg #[.int .i64 c,.int .i64 d]])∧Below w.heap.size w w':=by
 go_enter func198,ntmps198
 go_wp2
 go_region
 go_wp2
 go_returns
 exact ⟨rfl,by go_grown⟩
def rctE (x:Rct):Int:=if rctB x then 0 else 3
theorem znj {a b c d:Int} (h:za1 a b=false):rctE ⟨a,b,c,d⟩=3:=by simp [rctE,rctB,h]
theorem zni {a b c d:Int} (h:za1 c d=false):rctE ⟨a,b,c,d⟩=3:=by simp [rctE,rctB,h]
theorem znh {a b c d:Int} (h:c<a):rctE ⟨a,b,c,d⟩=3:=by simp [rctE,rctB];omega
theorem zng {a b c d:Int} (h:d<b):rctE ⟨a,b,c,d⟩=3:=by simp [rctE,rctB];omega
theorem znf {a b c d:Int} (h1:za1 a b=true) (h2:za1 c d=true) (h3:¬c<a) (h4:¬d<b):rctE ⟨a,b,c,d⟩=0:=by simp [rctE,rctB,h1,h2];omega
theorem zc4 (a b c d:Int) (w:World):
 Calls prog 172 #[.agg #[.int .i64 a,.int .i64 b,.int .i64 c,.int .i64 d]] w fun e w'=>e=.returned (.int .i64 (rctE ⟨a,b,c,d⟩))∧Below w.heap.size w w':=by
 go_enter func172,ntmps172
 go_wp2_with fail
 refine (zk4 a b c d _).mono ?_
 rintro e w1 ⟨rfl,hb1⟩
 have hz1:=hb1.size
 try simp at hz1
 have hB1:Below w.heap.size w w1:=nxt hb1
 obtain ⟨hc1_0,hl1_0,hm1_0,hn1_0,ho1_0,hf1_0⟩:=oldB (g:=w.heap.size) hb1
 go_wp2_with fail
 refine (zef a b _).mono ?_
 rintro e w2 ⟨rfl,hb2⟩
 have hz2:=hb2.size
 try simp at hz2
 have hB2:Below w.heap.size w w2:=nxt hb2
 obtain ⟨hc2_0,hl2_0,hm2_0,hn2_0,ho2_0,hf2_0⟩:=oldB (g:=w.heap.size) hb2
 obtain ⟨hc2_1,hl2_1,hm2_1,hn2_1,ho2_1,hf2_1⟩:=oldB (g:=w1.heap.size) hb2
 obtain ⟨hc2_2,hl2_2,hm2_2,hn2_2,ho2_2,hf2_2⟩:=oldB (g:=w1.heap.size+1) hb2
 cases h1:za1 a b
 ·have H:=Hd (znj (c:=c) (d:=d) h1)
  go_wp2
  go_ret
  exact ⟨by rw [H.out];rfl,by go_grown⟩
 skip
 go_wp2_with fail
 refine (zef c d _).mono ?_
 rintro e w3 ⟨rfl,hb3⟩
 have hz3:=hb3.size
 try simp at hz3
 have hB3:Below w.heap.size w w3:=nxt hb3
 obtain ⟨hc3_0,hl3_0,hm3_0,hn3_0,ho3_0,hf3_0⟩:=oldB (g:=w.heap.size) hb3
 cases h2:za1 c d
 ·have H:=Hd (zni (a:=a) (b:=b) h2)
  go_wp2
  go_ret
  exact ⟨by rw [H.out];rfl,by go_grown⟩
 by_cases h3:c<a
 ·have H:=Hd (znh (b:=b) (d:=d) h3)
  go_wp2
  go_ret
  exact ⟨by rw [H.out];rfl,by go_grown⟩
 by_cases h4:d<b
 ·have H:=Hd (zng (a:=a) (c:=c) h4)
  go_wp2
  go_ret
  exact ⟨by rw [H.out];rfl,by go_grown⟩
 have H:=Hd (znf h1 h2 h3 h4)
 go_wp2
 go_ret
 exact ⟨by rw [H.out];rfl,by go_grown⟩
theorem zk6 (a b c d:Int) (w:World):
 Calls prog 188 #[.agg #[.int .i64 a,.int .i64 b,.int .i64 c,.int .i64 d]] w fun e w'=>e=.returned (.int .i64 (rctE ⟨a,b,c,d⟩))∧Below w.heap.size w w':=by
 go_enter func188,ntmps188
 go_wp2_with fail
 refine (zuw a b c d _).mono ?_
 rintro e w1 ⟨rfl,hb1⟩
 have hz1:=hb1.size
 try simp at hz1
 have hB1:Below w.heap.size w w1:=nxt hb1
 obtain ⟨hc1_0,hl1_0,hm1_0,hn1_0,ho1_0,hf1_0⟩:=oldB (g:=w.heap.size) hb1
 go_wp2_with fail
 refine (zhi a b _).mono ?_
 rintro e w2 ⟨rfl,hb2⟩
 have hz2:=hb2.size
 try simp at hz2
 have hB2:Below w.heap.size w w2:=nxt hb2
 obtain ⟨hc2_0,hl2_0,hm2_0,hn2_0,ho2_0,hf2_0⟩:=oldB (g:=w.heap.size) hb2
 cases h1:za1 a b
 ·have H:=Hd (znj (c:=c) (d:=d) h1)
  go_wp2
  go_ret
  exact ⟨by rw [H.out];rfl,by go_grown⟩
 skip
 go_wp2_with fail
 refine (r03_to a b c d _).mono ?_
 rintro e w3 ⟨rfl,hb3⟩
 have hz3:=hb3.size
 try simp at hz3
 have hB3:Below w.heap.size w w3:=nxt hb3
 obtain ⟨hc3_0,hl3_0,hm3_0,hn3_0,ho3_0,hf3_0⟩:=oldB (g:=w.heap.size) hb3
 go_wp2_with fail
 refine (zhi c d _).mono ?_
 rintro e w4 ⟨rfl,hb4⟩
 have hz4:=hb4.size
 try simp at hz4
 have hB4:Below w.heap.size w w4:=nxt hb4
 obtain ⟨hc4_0,hl4_0,hm4_0,hn4_0,ho4_0,hf4_0⟩:=oldB (g:=w.heap.size) hb4
 cases h2:za1 c d
 ·have H:=Hd (zni (a:=a) (b:=b) h2)
  go_wp2
  go_ret
  exact ⟨by rw [H.out];rfl,by go_grown⟩
 by_cases h3:c<a
 ·have H:=Hd (znh (b:=b) (d:=d) h3)
  go_wp2
  go_ret
  exact ⟨by rw [H.out];rfl,by go_grown⟩
 by_cases h4:d<b
 ·have H:=Hd (zng (a:=a) (c:=c) h4)
  go_wp2
  go_ret
  exact ⟨by rw [H.out];rfl,by go_grown⟩
 have H:=Hd (znf h1 h2 h3 h4)
 go_wp2
 go_ret
 exact ⟨by rw [H.out];rfl,by go_grown⟩
end Go.Proofs.YtamcgggmfghljaaGreatDoor
