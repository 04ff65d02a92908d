/- Layer 41 (program): the known bytes, read. -/
import Derived.Deep.RegionWith
import Derived.Test.YtamcgggmfghljaaGreatDoorD14
set_option maxRecDepth 100000
set_option maxHeartbeats 8000000
open Go.Proofs.Tryz
namespace Go.Proofs.YtamcgggmfghljaaGreatDoor
open Go.RowKit
def zw6:zaa:=[2,7,7,7,0,1,2,3,1,9,0]
def za5:Scp:=⟨⟨3,[⟨⟨3,4⟩,[57]⟩],[⟨⟨1,1,1024,1024⟩,⟨7,7,7⟩⟩],[],[],[],0⟩,[]⟩
theorem SlsN.chg {α:Type} {c:α→List Value} {base:Nat} {w w':World} {v:Value} {l:List α} {S:Nat→Prop} (h:SlsN c base w v l) (hb:Chg S w w') (hS:∀k,base≤k→¬S k):SlsN c base w' v l:=by
 refine ⟨?_,h.2⟩
 obtain ⟨A,cap,rfl,h1,hm,h2⟩:=h.1
 refine ⟨A,cap,rfl,h1,hm,fun hn=>?_⟩
 obtain ⟨b,o,rfl,hlt,hr⟩:=h2 hn
 have hz:=hb.size
 have hq:=h.2 b rfl
 refine ⟨b,o,rfl,by omega,fun j t ht=>?_⟩
 rw [hb.cell (p:=⟨b,o+j,none⟩) hlt (hS b hq)]
 exact hr j t ht
theorem zpy (w:World):
 Calls prog 17 #[str zw6] w fun u w'=>∃e r g l x o,u=.returned (vScp za5 e r g l x o)∧RdScp w' w'.heap.size za5 e r g l x o∧Below w.heap.size w w':=by
 unfold zw6
 go_enter func17,ntmps17
 go_wp2_with fail
 have kr:Blk (((w.alloc (.cells #[.int .i64 0,.slice none 0 0,.slice none 0 0,.slice none 0 0,.slice none 0 0,.slice none 0 0,.int .i64 0,.slice none 0 0] 31)).alloc (.cells #[str [2,7,7,7,0,1,2,3,1,9,0]] 74)).alloc (.cells #[.int .i64 0,.slice none 0 0,.slice none 0 0,.slice none 0 0,.slice none 0 0,.slice none 0 0,.int .i64 0,.slice none 0 0] 31)) w.heap.size 31 #[.int .i64 0,.slice none 0 0,.slice none 0 0,.slice none 0 0,.slice none 0 0,.slice none 0 0,.int .i64 0,.slice none 0 0]:=((Blk.new w _ _).alloc _).alloc _
 have kt:Blk (((w.alloc (.cells #[.int .i64 0,.slice none 0 0,.slice none 0 0,.slice none 0 0,.slice none 0 0,.slice none 0 0,.int .i64 0,.slice none 0 0] 31)).alloc (.cells #[str [2,7,7,7,0,1,2,3,1,9,0]] 74)).alloc (.cells #[.int .i64 0,.slice none 0 0,.slice none 0 0,.slice none 0 0,.slice none 0 0,.slice none 0 0,.int .i64 0,.slice none 0 0] 31)) (w.heap.size+1) 74 #[str [2,7,7,7,0,1,2,3,1,9,0]]:=by
  have:=(Blk.new (w.alloc (.cells #[.int .i64 0,.slice none 0 0,.slice none 0 0,.slice none 0 0,.slice none 0 0,.slice none 0 0,.int .i64 0,.slice none 0 0] 31)) 74 #[str [2,7,7,7,0,1,2,3,1,9,0]]).alloc (.cells #[.int .i64 0,.slice none 0 0,.slice none 0 0,.slice none 0 0,.slice none 0 0,.slice none 0 0,.int .i64 0,.slice none 0 0] 31)
  simpa using this
 have kx:Blk (((w.alloc (.cells #[.int .i64 0,.slice none 0 0,.slice none 0 0,.slice none 0 0,.slice none 0 0,.slice none 0 0,.int .i64 0,.slice none 0 0] 31)).alloc (.cells #[str [2,7,7,7,0,1,2,3,1,9,0]] 74)).alloc (.cells #[.int .i64 0,.slice none 0 0,.slice none 0 0,.slice none 0 0,.slice none 0 0,.slice none 0 0,.int .i64 0,.slice none 0 0] 31)) (w.heap.size+1+1) 31 #[.int .i64 0,.slice none 0 0,.slice none 0 0,.slice none 0 0,.slice none 0 0,.slice none 0 0,.int .i64 0,.slice none 0 0]:=by
  have:=Blk.new ((w.alloc (.cells #[.int .i64 0,.slice none 0 0,.slice none 0 0,.slice none 0 0,.slice none 0 0,.slice none 0 0,.int .i64 0,.slice none 0 0] 31)).alloc (.cells #[str [2,7,7,7,0,1,2,3,1,9,0]] 74)) 31 #[.int .i64 0,.slice none 0 0,.slice none 0 0,.slice none 0 0,.slice none 0 0,.slice none 0 0,.int .i64 0,.slice none 0 0]
  simpa using this
 have bw:Below w.heap.size w (((w.alloc (.cells #[.int .i64 0,.slice none 0 0,.slice none 0 0,.slice none 0 0,.slice none 0 0,.slice none 0 0,.int .i64 0,.slice none 0 0] 31)).alloc (.cells #[str [2,7,7,7,0,1,2,3,1,9,0]] 74)).alloc (.cells #[.int .i64 0,.slice none 0 0,.slice none 0 0,.slice none 0 0,.slice none 0 0,.slice none 0 0,.int .i64 0,.slice none 0 0] 31)):=by go_grown
 refine (zdg _ [2,7,7,7,0,1,2,3,1,9,0] 4 _ (by decide) kt).mono ?_
 rintro e w1 ⟨rfl,kt1,hd1⟩
 rw [show (take 4 [2,7,7,7,0,1,2,3,1,9,0]).1=2 from rfl]
 have KT:=Hd (show Blk w1 (w.heap.size+1) 74 #[str [7,7,7,0,1,2,3,1,9,0]] from kt1)
 have KR:=Hd (kr.chg hd1 (by omega))
 have KX:=Hd (kx.chg hd1 (by omega))
 have BW:=Hd (Below.trans bw (hd1.to_below (B:=w.heap.size) (by simp;omega) (by omega)))
 have hx:=KX.out.cell 0
 have fx:=KX.out.frozen
 clear kr kt kx bw kt1 hd1
 go_wp2_with fail
 have KT1:=Hd (KT.out.far (p:=⟨w.heap.size+1+1,0,none⟩) (by simp) (.int .i64 3))
 have KR1:=Hd (KR.out.far (p:=⟨w.heap.size+1+1,0,none⟩) (by simp;try omega) (.int .i64 3))
 have KX1:=Hd (KX.out.set_ 0 (.int .i64 3))
 have BW1:=Hd (Below.setCell BW.out (p:=⟨w.heap.size+1+1,0,none⟩) (by simp;try omega) (.int .i64 3))
 refine (zqc (w.heap.size+1) [7,7,7,0,1,2,3,1,9,0] 3 _ (by decide) KT1.out).mono ?_
 rintro e w2 ⟨rfl,kt,hd⟩
 rw [show (zh1 3 [7,7,7,0,1,2,3,1,9,0]).1=⟨7,7,7⟩ from rfl]
 have KT2:=Hd (show Blk w2 (w.heap.size+1) 74 #[str [0,1,2,3,1,9,0]] from kt)
 have KR2:=Hd (KR1.out.chg hd (by omega))
 have KX2:=Hd (KX1.out.chg hd (by omega))
 have BW2:=Hd (Below.trans BW1.out (hd.to_below (B:=w.heap.size) BW1.out.size (by omega)))
 clear KT KR KX BW KT1 KR1 KX1 BW1 hx fx kt hd
 have hx:=KX2.out.cell 2
 have fx:=KX2.out.frozen
 have lx:=KX2.out.lt
 go_wp2_with fail
 have KT3:=Hd ((KT2.out.far (p:=⟨w.heap.size+1+1,2,none⟩) (by simp;try omega) (.slice (some ⟨w2.heap.size,0,none⟩) 1 1)).alloc (.cells #[.int .i64 1,.int .i64 1,.int .i64 1024,.int .i64 1024,.int .u64 7,.int .u64 7,.int .u64 7] 79))
 have KR3:=Hd ((KR2.out.far (p:=⟨w.heap.size+1+1,2,none⟩) (by simp;try omega) (.slice (some ⟨w2.heap.size,0,none⟩) 1 1)).alloc (.cells #[.int .i64 1,.int .i64 1,.int .i64 1024,.int .i64 1024,.int .u64 7,.int .u64 7,.int .u64 7] 79))
 have KX3:=Hd ((KX2.out.set_ 2 (.slice (some ⟨w2.heap.size,0,none⟩) 1 1)).alloc (.cells #[.int .i64 1,.int .i64 1,.int .i64 1024,.int .i64 1024,.int .u64 7,.int .u64 7,.int .u64 7] 79))
 have KL3:=Hd (show Blk ((w2.setCell ⟨w.heap.size+1+1,2,none⟩ (.slice (some ⟨w2.heap.size,0,none⟩) 1 1)).alloc (.cells #[.int .i64 1,.int .i64 1,.int .i64 1024,.int .i64 1024,.int .u64 7,.int .u64 7,.int .u64 7] 79)) w2.heap.size 79 #[.int .i64 1,.int .i64 1,.int .i64 1024,.int .i64 1024,.int .u64 7,.int .u64 7,.int .u64 7] by have:=Blk.new (w2.setCell ⟨w.heap.size+1+1,2,none⟩ (.slice (some ⟨w2.heap.size,0,none⟩) 1 1)) 79 #[.int .i64 1,.int .i64 1,.int .i64 1024,.int .i64 1024,.int .u64 7,.int .u64 7,.int .u64 7];simpa using this)
 have BW3:=Hd (Below.alloc (Below.setCell BW2.out (p:=⟨w.heap.size+1+1,2,none⟩) (by simp;try omega) (.slice (some ⟨w2.heap.size,0,none⟩) 1 1)) (by have:=BW2.out.size;simp;omega) (.cells #[.int .i64 1,.int .i64 1,.int .i64 1024,.int .i64 1024,.int .u64 7,.int .u64 7,.int .u64 7] 79))
 refine (zdg _ [0,1,2,3,1,9,0] 3 _ (by decide) KT3.out).mono ?_
 rintro e w3 ⟨rfl,kt,hd⟩
 rw [show (take 3 [0,1,2,3,1,9,0]).1=0 from rfl]
 have KT:=Hd (show Blk w3 (w.heap.size+1) 74 #[str [1,2,3,1,9,0]] from kt)
 have KR:=Hd (KR3.out.chg hd (by omega))
 have KX:=Hd (KX3.out.chg hd (by omega))
 have KL:=Hd (KL3.out.chg hd (by omega))
 have BW:=Hd (Below.trans BW3.out (hd.to_below (B:=w.heap.size) BW3.out.size (by omega)))
 have hL:w.heap.size+1+1<w2.heap.size:=lx
 clear KT2 KR2 KX2 BW2 KT3 KR3 KX3 KL3 BW3 hx fx lx kt hd
 go_wp2
 refine wp_loop_rounds 1 ?_
 rw [rounds_succ]
 go_wp2_with fail
 refine (zdg _ [1,2,3,1,9,0] 8 _ (by decide) KT.out).mono ?_
 rintro e w4 ⟨rfl,kt,hd⟩
 rw [show (take 8 [1,2,3,1,9,0]).1=1 from rfl]
 have KT4:=Hd (show Blk w4 (w.heap.size+1) 74 #[str [2,3,1,9,0]] from kt)
 have KR4:=Hd (KR.out.chg hd (by omega))
 have KX4:=Hd (KX.out.chg hd (by omega))
 have KL4:=Hd (KL.out.chg hd (by omega))
 have BW4:=Hd (Below.trans BW.out (hd.to_below (B:=w.heap.size) BW.out.size (by omega)))
 clear KT KR KX KL BW kt hd
 go_wp2
 refine wp_loop_rounds 2 ?_
 rw [rounds_succ]
 go_wp2_with fail
 refine (zt3 _ [2,3,1,9,0] _ KT4.out).mono ?_
 rintro e w5 ⟨rfl,kt,hd⟩
 rw [show (spot [2,3,1,9,0]).1=⟨3,4⟩ from rfl]
 have KT5:=Hd (show Blk w5 (w.heap.size+1) 74 #[str [1,9,0]] from kt)
 have KR5:=Hd (KR4.out.chg hd (by omega))
 have KX5:=Hd (KX4.out.chg hd (by omega))
 have KL5:=Hd (KL4.out.chg hd (by omega))
 have BW5:=Hd (Below.trans BW4.out (hd.to_below (B:=w.heap.size) BW4.out.size (by omega)))
 clear KT4 KR4 KX4 KL4 BW4 kt hd
 have hx:=KX5.out.cell 1
 have fx:=KX5.out.frozen
 have lx:=KX5.out.lt
 go_wp2_with fail
 have kA:=Hd (KT5.out.alloc (.cells #[.int .i64 3,.int .i64 4] 56))
 have lw:=KT5.out.lt
 go_region_with (first
  | (go_at_call 40;refine (zsz _ [1,9,0] _ rfl (by first | exact kA.out | exact kA.out.drew | exact (kA.out.drewN _))).mono ?_;rintro e w6 ⟨rfl,kt,hd⟩;have hz6:=hd.size;simp at hz6;have f6:w6.frozen? ⟨w.heap.size+1+1,1,none⟩=false:=(hd.frozen (p:=⟨w.heap.size+1+1,1,none⟩) (by simp;omega) (by simp)).trans (by go_simp;try exact fx 1);have x6:w6.cell? ⟨w.heap.size+1+1,1,none⟩=some (.slice none 0 0):=(hd.cell (p:=⟨w.heap.size+1+1,1,none⟩) (by simp;omega) (by simp)).trans (by go_simp;try exact hx);have a6:w6.cell? ⟨w5.heap.size,0,none⟩=some (.int .i64 3):=(hd.cell (p:=⟨w5.heap.size,0,none⟩) (by simp) (by simp;omega)).trans (by go_simp);have a7:w6.cell? ⟨w5.heap.size,1,none⟩=some (.int .i64 4):=(hd.cell (p:=⟨w5.heap.size,1,none⟩) (by simp) (by simp;omega)).trans (by go_simp))
  | (go_at_call 39;refine (zyb ⟨⟨3,4⟩,[57]⟩ _ (by simp)).mono ?_;rintro e w7 ⟨v7,rfl,hs7,hb7⟩;obtain ⟨A7,cap7,rfl,_⟩:=id hs7.1;have x7:=(hb7.cell (p:=⟨w.heap.size+1+1,1,none⟩) (by (try simp);omega)).trans x6;have f7:=(hb7.frozen (p:=⟨w.heap.size+1+1,1,none⟩) (by (try simp);omega)).trans f6))
 all_goals
  have kt7:Blk w7 (w.heap.size+1) 74 #[str [0]]:=Blk.below_ (show Blk w6 (w.heap.size+1) 74 #[str [0]] from kt) hb7
  have kr7:=Blk.below_ (Blk.chg (S:=fun k=>k=w.heap.size+1) ((KR5.out.alloc (.cells #[.int .i64 3,.int .i64 4] 56)).drew) hd (by simp)) hb7
  have kx7:=Blk.below_ (Blk.chg (S:=fun k=>k=w.heap.size+1) ((KX5.out.alloc (.cells #[.int .i64 3,.int .i64 4] 56)).drew) hd (by simp)) hb7
  have kl7:=Blk.below_ (Blk.chg (S:=fun k=>k=w.heap.size+1) ((KL5.out.alloc (.cells #[.int .i64 3,.int .i64 4] 56)).drew) hd (by show ¬(_=_);omega)) hb7
  have bw7:=Below.trans (Below.trans (Below.drewN_ (Below.alloc BW5.out BW5.out.size (.cells #[.int .i64 3,.int .i64 4] 56)) 1) (hd.to_below (B:=w.heap.size) (by have:=BW5.out.size;simp;omega) (by omega))) (hb7.mono (by have:=BW5.out.size;omega))
  have hn7:∀q,(Value.slice A7 1 cap7).ownBlock=some q→w6.heap.size≤q:=hs7.2
  have KT8:=Hd (kt7.far (p:=⟨w.heap.size+1+1,1,none⟩) (by simp) (.slice A7 1 cap7))
  have KR8:=Hd (kr7.far (p:=⟨w.heap.size+1+1,1,none⟩) (by simp;try omega) (.slice A7 1 cap7))
  have KX8:=Hd (kx7.set_ 1 (.slice A7 1 cap7))
  have KL8:=Hd (kl7.far (p:=⟨w.heap.size+1+1,1,none⟩) (by simp;try omega) (.slice A7 1 cap7))
  have BW8:=Hd (Below.setCell bw7 (p:=⟨w.heap.size+1+1,1,none⟩) (by simp;try omega) (.slice A7 1 cap7))
  have HS8:=Hd (SlsN.set hs7 (p:=⟨w.heap.size+1+1,1,none⟩) (by simp;omega) (.slice A7 1 cap7))
  clear kt7 kr7 kx7 kl7 bw7 hn7 kt hd x6 f6 a6 a7 x7 f7 hb7 hs7 KT5 KR5 KX5 KL5 BW5 kA hx fx
  go_wp2
  rw [rounds_succ]
  go_wp2_with fail
  refine (zdg _ [0] 3 _ (by decide) KT8.out).mono ?_
  rintro e w9 ⟨rfl,kt,hd⟩
  rw [show (take 3 [0]).1=0 from rfl]
  have KR:=Hd (KR8.out.chg hd (by simp))
  have kt9:w9.cell? ⟨w.heap.size+1,0,none⟩=some (str []):=kt.cell 0
  have KX:=Hd (KX8.out.chg hd (by simp))
  have KL:=Hd (KL8.out.chg hd (by show ¬(_=_);omega))
  have BW:=Hd (Below.trans BW8.out (hd.to_below (B:=w.heap.size) BW8.out.size (by omega)))
  have x0:w9.cell? ⟨w.heap.size+1+1,0,none⟩=some (.int .i64 3):=KX.out.cell 0
  have x1:w9.cell? ⟨w.heap.size+1+1,1,none⟩=some (.slice A7 1 cap7):=KX.out.cell 1
  have x2:w9.cell? ⟨w.heap.size+1+1,2,none⟩=some (.slice (some ⟨w2.heap.size,0,none⟩) 1 1):=KX.out.cell 2
  have x3:w9.cell? ⟨w.heap.size+1+1,3,none⟩=some (.slice none 0 0):=KX.out.cell 3
  have x4:w9.cell? ⟨w.heap.size+1+1,4,none⟩=some (.slice none 0 0):=KX.out.cell 4
  have x5:w9.cell? ⟨w.heap.size+1+1,5,none⟩=some (.slice none 0 0):=KX.out.cell 5
  have x6:w9.cell? ⟨w.heap.size+1+1,6,none⟩=some (.int .i64 0):=KX.out.cell 6
  have x7:w9.cell? ⟨w.heap.size+1+1,7,none⟩=some (.slice none 0 0):=KX.out.cell 7
  have r0:w9.cell? ⟨w.heap.size,0,none⟩=some (.int .i64 0):=KR.out.cell 0
  have r1:w9.cell? ⟨w.heap.size,1,none⟩=some (.slice none 0 0):=KR.out.cell 1
  have r2:w9.cell? ⟨w.heap.size,2,none⟩=some (.slice none 0 0):=KR.out.cell 2
  have r3:w9.cell? ⟨w.heap.size,3,none⟩=some (.slice none 0 0):=KR.out.cell 3
  have r4:w9.cell? ⟨w.heap.size,4,none⟩=some (.slice none 0 0):=KR.out.cell 4
  have r5:w9.cell? ⟨w.heap.size,5,none⟩=some (.slice none 0 0):=KR.out.cell 5
  have r6:w9.cell? ⟨w.heap.size,6,none⟩=some (.int .i64 0):=KR.out.cell 6
  have r7:w9.cell? ⟨w.heap.size,7,none⟩=some (.slice none 0 0):=KR.out.cell 7
  have fr:=KR.out.frozen
  have kt0:w9.cell? ⟨w.heap.size+1,0,none⟩=some (str []):=kt9
  clear KT8 KR8 KX8 KL8 BW8 kt
  have HS:=Hd (SlsN.chg HS8.out hd (by intro k hk e;subst e;omega))
  clear HS8 hd
  go_wp2
  refine wp_loop_rounds 1 ?_
  rw [rounds_succ]
  go_wp2
  refine wp_loop_rounds 1 ?_
  rw [rounds_succ]
  go_wp2
  refine bodyPost_ret (v:=vScp za5 (.slice A7 1 cap7) (.slice (some ⟨w2.heap.size,0,none⟩) 1 1) (.slice none 0 0) (.slice none 0 0) (.slice none 0 0) (.slice none 0 0)) (by simp (maxDischargeDepth:=9) [results,results17,go_sem,za5,r0,r1,r2,r3,r4,r5,r6,r7]) rfl ?_
  refine ⟨_,_,_,_,_,_,rfl,⟨⟨?_,Sls.one (t:=79) (cs:=#[.int .i64 1,.int .i64 1,.int .i64 1024,.int .i64 1024,.int .u64 7,.int .u64 7,.int .u64 7]) ?_ rfl,Sls.nil _ _ _ _ _,Sls.nil _ _ _ _ _,Sls.nil _ _ _ _ _⟩,Sls.nil _ _ _ _ _⟩,?_⟩
  ·have hS:SlsN cEnt w6.heap.size _ _ _:=HS.out
   refine (?_:SlsN cEnt w6.heap.size _ _ _).1
   iterate 8 refine SlsN.set ?_ (by simp;omega) _
   exact hS
  ·iterate 8 refine Blk.far ?_ (by simp;omega) _
   exact KL.out
  iterate 8 refine Below.setCell ?_ (by simp) _
  exact BW.out
end Go.Proofs.YtamcgggmfghljaaGreatDoor
