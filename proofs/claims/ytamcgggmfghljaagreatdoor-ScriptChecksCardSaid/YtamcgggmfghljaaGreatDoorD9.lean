/- Layer 2 (program): an address read (printed by tools/gen_addrp.py). -/
import Derived.RegionTactic
import Derived.ChangeAlike
import Derived.BigRegion
import Derived.Test.YtamcgggmfghljaaGreatDoorD4
set_option maxRecDepth 100000
set_option maxHeartbeats 8000000
open Go.Proofs.Tryz
namespace Go.Proofs.YtamcgggmfghljaaGreatDoor
open Go.RowKit
def cPcs (p:Pcs):List Value:=[.int .i64 p.m0,.int .i64 p.m1,.int .i64 p.v0,.int .i64 p.v1,.bool p.ok]
structure PcsOk (n:Int) (p:Pcs):Prop where
 m0:0≤p.m0∧p.m0≤n
 m1:0≤p.m1∧p.m1≤n
 v0:0≤p.v0∧p.v0≤1025
 v1:0≤p.v1∧p.v1≤1025
theorem chg3 (w:World) (g a b c:Nat) (x y z:Value):Chg (fun k=>k=g) w (((w.setCell ⟨g,a,none⟩ x).setCell ⟨g,b,none⟩ y).setCell ⟨g,c,none⟩ z).drew.drew:=
 Chg.drew (Chg.drew ((((Chg.refl (fun k=>k=g) w).setCell (p:=⟨g,a,none⟩) (.inl rfl) x).setCell (p:=⟨g,b,none⟩) (.inl rfl) y).setCell (p:=⟨g,c,none⟩) (.inl rfl) z))
theorem zta (m:Int):(m==0)=decide (m=0):=by rw [Bool.eq_iff_iff];simp
theorem Blk.eqv {w:World} {g:Nat} {t:TypeId} {cs cs':Array Value} (h:Blk w g t cs) (e:cs=cs'):Blk w g t cs':=e▸h
theorem zi6 (g:Nat) (p:Pcs) (n:Int) (c:Nat) (w:World) (hn:n≤2000000) (hp:PcsOk n p) (h0:65≤c) (h1:c≤90) (hg:Blk w g 318 (cPcs p).toArray):
 Calls prog 321 #[.pointer (some ⟨g,0,none⟩),.int .u8 c,.bool true] w fun e w'=>e=.returned (.tuple #[])∧Blk w' g 318 (cPcs (addP p c true)).toArray∧Chg (fun k=>k=g) w w':=by
 obtain ⟨m0,m1,v0,v1,ok⟩:=p
 obtain ⟨⟨a0,a1⟩,⟨b0,b1⟩,⟨c0,c1⟩,⟨d0,d1⟩⟩:=hp
 dsimp only at a0 a1 b0 b1 c0 c1 d0 d1
 have HG:=Hd hg
 have k0:w.cell? ⟨g,0,none⟩=some (.int .i64 m0):=hg.cell 0
 have k1:w.cell? ⟨g,1,none⟩=some (.int .i64 m1):=hg.cell 1
 have k2:w.cell? ⟨g,2,none⟩=some (.int .i64 v0):=hg.cell 2
 have k3:w.cell? ⟨g,3,none⟩=some (.int .i64 v1):=hg.cell 3
 have k4:w.cell? ⟨g,4,none⟩=some (.bool ok):=hg.cell 4
 have fr:=hg.frozen
 have e0:(65:Int)≤(c:Int):=by omega
 have e1:(c:Int)≤90:=by omega
 clear hg
 cases ok
 ·
  by_cases hb:1025<26*v0+((c:Int)-65)+1
  ·have hm:min (26*v0+((c:Int)-65)+1) 1025=1025:=by omega
   have HM:=Hd hm
   clear hm
   go_enter func321,ntmps321
   go_wp2
   go_region
   go_wp2
   go_region
   go_wp2
   first | go_end0 | refine bodyPost_ret (results_none rfl _ _ _) rfl ?_
   exact ⟨rfl,Blk.drew (Blk.drew ((((HG.out.set_ 4 (.bool false)).set_ 0 (.int .i64 (m0+1))).set_ 2 (.int .i64 (1025))).eqv (by simp [cPcs,addP,HM.out]))),chg3 _ _ _ _ _ _ _ _⟩
  have hm:min (26*v0+((c:Int)-65)+1) 1025=26*v0+((c:Int)-65)+1:=by omega
  have HM:=Hd hm
  clear hm
  have hb2:26*v0+((c:Int)-65)+1≤1025:=by omega
  go_enter func321,ntmps321
  go_wp2
  go_region
  go_wp2
  go_region
  go_wp2
  first | go_end0 | refine bodyPost_ret (results_none rfl _ _ _) rfl ?_
  exact ⟨rfl,Blk.drew (Blk.drew ((((HG.out.set_ 4 (.bool false)).set_ 0 (.int .i64 (m0+1))).set_ 2 (.int .i64 (26*v0+((c:Int)-65)+1))).eqv (by simp [cPcs,addP,HM.out]))),chg3 _ _ _ _ _ _ _ _⟩
 by_cases hb:1025<26*v0+((c:Int)-65)+1
 ·have hm:min (26*v0+((c:Int)-65)+1) 1025=1025:=by omega
  have HM:=Hd hm
  clear hm
  go_enter func321,ntmps321
  go_wp2
  go_region
  go_wp2
  go_region
  go_wp2
  first | go_end0 | refine bodyPost_ret (results_none rfl _ _ _) rfl ?_
  exact ⟨rfl,Blk.drew (Blk.drew ((((HG.out.set_ 4 (.bool (m1==0))).set_ 0 (.int .i64 (m0+1))).set_ 2 (.int .i64 (1025))).eqv (by simp [cPcs,addP,HM.out,zta]))),chg3 _ _ _ _ _ _ _ _⟩
 have hm:min (26*v0+((c:Int)-65)+1) 1025=26*v0+((c:Int)-65)+1:=by omega
 have HM:=Hd hm
 clear hm
 have hb2:26*v0+((c:Int)-65)+1≤1025:=by omega
 go_enter func321,ntmps321
 go_wp2
 go_region
 go_wp2
 go_region
 go_wp2
 first | go_end0 | refine bodyPost_ret (results_none rfl _ _ _) rfl ?_
 exact ⟨rfl,Blk.drew (Blk.drew ((((HG.out.set_ 4 (.bool (m1==0))).set_ 0 (.int .i64 (m0+1))).set_ 2 (.int .i64 (26*v0+((c:Int)-65)+1))).eqv (by simp [cPcs,addP,HM.out,zta]))),chg3 _ _ _ _ _ _ _ _⟩
theorem ztk (g:Nat) (p:Pcs) (n:Int) (c:Nat) (w:World) (hn:n≤2000000) (hp:PcsOk n p) (h0:48≤c) (h1:c≤57) (hg:Blk w g 318 (cPcs p).toArray):
 Calls prog 321 #[.pointer (some ⟨g,0,none⟩),.int .u8 c,.bool false] w fun e w'=>e=.returned (.tuple #[])∧Blk w' g 318 (cPcs (addP p c false)).toArray∧Chg (fun k=>k=g) w w':=by
 obtain ⟨m0,m1,v0,v1,ok⟩:=p
 obtain ⟨⟨a0,a1⟩,⟨b0,b1⟩,⟨c0,c1⟩,⟨d0,d1⟩⟩:=hp
 dsimp only at a0 a1 b0 b1 c0 c1 d0 d1
 have HG:=Hd hg
 have k0:w.cell? ⟨g,0,none⟩=some (.int .i64 m0):=hg.cell 0
 have k1:w.cell? ⟨g,1,none⟩=some (.int .i64 m1):=hg.cell 1
 have k2:w.cell? ⟨g,2,none⟩=some (.int .i64 v0):=hg.cell 2
 have k3:w.cell? ⟨g,3,none⟩=some (.int .i64 v1):=hg.cell 3
 have k4:w.cell? ⟨g,4,none⟩=some (.bool ok):=hg.cell 4
 have fr:=hg.frozen
 have e0:(48:Int)≤(c:Int):=by omega
 have e1:(c:Int)≤57:=by omega
 clear hg
 cases ok
 ·
  by_cases hb:1025<10*v1+((c:Int)-48)
  ·have hm:min (10*v1+((c:Int)-48)) 1025=1025:=by omega
   have HM:=Hd hm
   clear hm
   go_enter func321,ntmps321
   go_wp2
   go_region
   go_wp2
   go_region
   go_wp2
   first | go_end0 | refine bodyPost_ret (results_none rfl _ _ _) rfl ?_
   exact ⟨rfl,Blk.drew (Blk.drew ((((HG.out.set_ 4 (.bool false)).set_ 1 (.int .i64 (m1+1))).set_ 3 (.int .i64 (1025))).eqv (by simp [cPcs,addP,HM.out]))),chg3 _ _ _ _ _ _ _ _⟩
  have hm:min (10*v1+((c:Int)-48)) 1025=10*v1+((c:Int)-48):=by omega
  have HM:=Hd hm
  clear hm
  have hb2:10*v1+((c:Int)-48)≤1025:=by omega
  go_enter func321,ntmps321
  go_wp2
  go_region
  go_wp2
  go_region
  go_wp2
  first | go_end0 | refine bodyPost_ret (results_none rfl _ _ _) rfl ?_
  exact ⟨rfl,Blk.drew (Blk.drew ((((HG.out.set_ 4 (.bool false)).set_ 1 (.int .i64 (m1+1))).set_ 3 (.int .i64 (10*v1+((c:Int)-48)))).eqv (by simp [cPcs,addP,HM.out]))),chg3 _ _ _ _ _ _ _ _⟩
 by_cases h48:c=48
 rotate_left
 ·have h48b:((c:Int) != 48)=true:=by simp;omega
  have HK:=Hd (show (decide (c≠48)||decide (0<m1))=true by simp [h48])
  clear h48
  by_cases hb:1025<10*v1+((c:Int)-48)
  ·have hm:min (10*v1+((c:Int)-48)) 1025=1025:=by omega
   have HM:=Hd hm
   clear hm
   go_enter func321,ntmps321
   go_wp2
   go_region
   go_wp2
   go_region
   go_wp2
   first | go_end0 | refine bodyPost_ret (results_none rfl _ _ _) rfl ?_
   exact ⟨rfl,Blk.drew (Blk.drew ((((HG.out.set_ 4 (.bool true)).set_ 1 (.int .i64 (m1+1))).set_ 3 (.int .i64 (1025))).eqv (by simp only [addP,HM.out,HK.out,cPcs,Bool.false_eq_true,if_false,Bool.true_and];simp))),chg3 _ _ _ _ _ _ _ _⟩
  have hm:min (10*v1+((c:Int)-48)) 1025=10*v1+((c:Int)-48):=by omega
  have HM:=Hd hm
  clear hm
  have hb2:10*v1+((c:Int)-48)≤1025:=by omega
  go_enter func321,ntmps321
  go_wp2
  go_region
  go_wp2
  go_region
  go_wp2
  first | go_end0 | refine bodyPost_ret (results_none rfl _ _ _) rfl ?_
  exact ⟨rfl,Blk.drew (Blk.drew ((((HG.out.set_ 4 (.bool true)).set_ 1 (.int .i64 (m1+1))).set_ 3 (.int .i64 (10*v1+((c:Int)-48)))).eqv (by simp only [addP,HM.out,HK.out,cPcs,Bool.false_eq_true,if_false,Bool.true_and];simp))),chg3 _ _ _ _ _ _ _ _⟩
 have h48b:((c:Int) != 48)=false:=by simp [h48]
 by_cases hp0:0<m1
 ·have hp1:decide (0<m1)=true:=by simpa using hp0
  have HK:=Hd (show (decide (c≠48)||decide (0<m1))=true by simp [hp0])
  clear h48
  by_cases hb:1025<10*v1+((c:Int)-48)
  ·have hm:min (10*v1+((c:Int)-48)) 1025=1025:=by omega
   have HM:=Hd hm
   clear hm
   go_enter func321,ntmps321
   go_wp2
   go_region
   go_wp2
   go_region
   go_wp2
   first | go_end0 | refine bodyPost_ret (results_none rfl _ _ _) rfl ?_
   exact ⟨rfl,Blk.drew (Blk.drew ((((HG.out.set_ 4 (.bool true)).set_ 1 (.int .i64 (m1+1))).set_ 3 (.int .i64 (1025))).eqv (by simp only [addP,HM.out,HK.out,cPcs,Bool.false_eq_true,if_false,Bool.true_and];simp))),chg3 _ _ _ _ _ _ _ _⟩
  have hm:min (10*v1+((c:Int)-48)) 1025=10*v1+((c:Int)-48):=by omega
  have HM:=Hd hm
  clear hm
  have hb2:10*v1+((c:Int)-48)≤1025:=by omega
  go_enter func321,ntmps321
  go_wp2
  go_region
  go_wp2
  go_region
  go_wp2
  first | go_end0 | refine bodyPost_ret (results_none rfl _ _ _) rfl ?_
  exact ⟨rfl,Blk.drew (Blk.drew ((((HG.out.set_ 4 (.bool true)).set_ 1 (.int .i64 (m1+1))).set_ 3 (.int .i64 (10*v1+((c:Int)-48)))).eqv (by simp only [addP,HM.out,HK.out,cPcs,Bool.false_eq_true,if_false,Bool.true_and];simp))),chg3 _ _ _ _ _ _ _ _⟩
 have hp1:decide (0<m1)=false:=by simpa using hp0
 have HK:=Hd (show (decide (c≠48)||decide (0<m1))=false by simp [h48];omega)
 clear h48
 by_cases hb:1025<10*v1+((c:Int)-48)
 ·have hm:min (10*v1+((c:Int)-48)) 1025=1025:=by omega
  have HM:=Hd hm
  clear hm
  go_enter func321,ntmps321
  go_wp2
  go_region
  go_wp2
  go_region
  go_wp2
  first | go_end0 | refine bodyPost_ret (results_none rfl _ _ _) rfl ?_
  exact ⟨rfl,Blk.drew (Blk.drew ((((HG.out.set_ 4 (.bool false)).set_ 1 (.int .i64 (m1+1))).set_ 3 (.int .i64 (1025))).eqv (by simp only [addP,HM.out,HK.out,cPcs,Bool.false_eq_true,if_false,Bool.true_and];simp))),chg3 _ _ _ _ _ _ _ _⟩
 have hm:min (10*v1+((c:Int)-48)) 1025=10*v1+((c:Int)-48):=by omega
 have HM:=Hd hm
 clear hm
 have hb2:10*v1+((c:Int)-48)≤1025:=by omega
 go_enter func321,ntmps321
 go_wp2
 go_region
 go_wp2
 go_region
 go_wp2
 first | go_end0 | refine bodyPost_ret (results_none rfl _ _ _) rfl ?_
 exact ⟨rfl,Blk.drew (Blk.drew ((((HG.out.set_ 4 (.bool false)).set_ 1 (.int .i64 (m1+1))).set_ 3 (.int .i64 (10*v1+((c:Int)-48)))).eqv (by simp only [addP,HM.out,HK.out,cPcs,Bool.false_eq_true,if_false,Bool.true_and];simp))),chg3 _ _ _ _ _ _ _ _⟩
theorem zmb (l:zaa) (c:UInt8):zas (l++ [c])=zcf (zas l) c:=by unfold zas;rw [List.foldl_append];rfl
theorem zra (s:ByteArray) (k:Nat) (h:k<s.size):zas (s.data.toList.take (k+1))=zcf (zas (s.data.toList.take k)) s[k]:=by
 have hk:k<s.data.toList.length:=by simpa using h
 rw [List.take_succ_eq_append_getElem hk,zmb]
 rfl
theorem PcsOk.add {n:Int} {p:Pcs} (h:PcsOk n p) (c:Nat) (b:Bool) (hb:b=true→65≤c) (hb2:b=false→48≤c):PcsOk (n+1) (addP p c b):=by
 obtain ⟨⟨a0,a1⟩,⟨b0,b1⟩,⟨c0,c1⟩,⟨d0,d1⟩⟩:=h
 unfold addP
 cases b with
 | true=>exact ⟨⟨by simp;omega,by simp;omega⟩,⟨by simp;omega,by simp;omega⟩,⟨by have:=hb rfl;simp;omega,by simp;omega⟩,⟨by simp;omega,by simp;omega⟩⟩
 | false=>exact ⟨⟨by simp;omega,by simp;omega⟩,⟨by simp;omega,by simp;omega⟩,⟨by simp;omega,by simp;omega⟩,⟨by have:=hb2 rfl;simp;omega,by simp;omega⟩⟩
theorem PcsOk.bad {n:Int} {p:Pcs} (h:PcsOk n p):PcsOk (n+1) { p with ok:=false }:=
 ⟨⟨h.m0.1,by have:=h.m0.2;show p.m0≤_;omega⟩,⟨h.m1.1,by have:=h.m1.2;show p.m1≤_;omega⟩,h.v0,h.v1⟩
theorem zti (s:ByteArray) (w:World) (hl:s.size≤1000000):
 Calls prog 304 #[.string s] w fun u w'=>u=.returned (.agg (cPcs (zas s.data.toList)).toArray)∧Below w.heap.size w w':=by
 have kb0:Blk ((w.alloc (.cells #[.int .i64 0,.int .i64 0,.int .i64 0,.int .i64 0,.bool false] 318)).alloc (.cells #[.int .i64 0,.int .i64 0,.int .i64 0,.int .i64 0,.bool true] 318)) w.heap.size 318 #[.int .i64 0,.int .i64 0,.int .i64 0,.int .i64 0,.bool false]:=(Blk.new w _ _).alloc _
 have kb1:Blk ((w.alloc (.cells #[.int .i64 0,.int .i64 0,.int .i64 0,.int .i64 0,.bool false] 318)).alloc (.cells #[.int .i64 0,.int .i64 0,.int .i64 0,.int .i64 0,.bool true] 318)) (w.heap.size+1) 318 (cPcs (zas [])).toArray:=by
  have:=Blk.new (w.alloc (.cells #[.int .i64 0,.int .i64 0,.int .i64 0,.int .i64 0,.bool false] 318)) 318 #[.int .i64 0,.int .i64 0,.int .i64 0,.int .i64 0,.bool true]
  simpa [zas,cPcs] using this
 have KB0:=Hd kb0
 have KB1:=Hd kb1
 clear kb0 kb1
 go_enter func304,ntmps304
 go_wp2_with fail
 go_loopw [10] (fun i wr=>∃k:Nat,k≤s.size∧i=.int .i64 k∧Blk wr w.heap.size 318 #[.int .i64 0,.int .i64 0,.int .i64 0,.int .i64 0,.bool false]∧Blk wr (w.heap.size+1) 318 (cPcs (zas (s.data.toList.take k))).toArray∧PcsOk k (zas (s.data.toList.take k))∧Below w.heap.size w wr) (fun i _=>s.size-(intOf i).toNat)
 case atStart=>exact ⟨0,by omega,rfl,KB0.out,KB1.out,⟨⟨Int.le_refl 0,Int.le_refl 0⟩,⟨Int.le_refl 0,Int.le_refl 0⟩,⟨Int.le_refl 0,by show (0:Int)≤1025;omega⟩,⟨Int.le_refl 0,by show (0:Int)≤1025;omega⟩⟩,by go_grown⟩
 obtain ⟨k,hk,rfl,h0,h1,hok,hbw⟩:=hrel
 have H0:=Hd h0
 have H1:=Hd h1
 have HOK:=Hd hok
 have HBW:=Hd hbw
 clear h0 h1 hok hbw
 by_cases hlt:k<s.size
 rotate_left
 ·have hks:k=s.size:=by omega
  have HE:=Hd (show zas (s.data.toList.take k)=zas s.data.toList by rw [hks,List.take_of_length_le (by simp)])
  have x0:=H1.out.cell 0
  have x1:=H1.out.cell 1
  have x2:=H1.out.cell 2
  have x3:=H1.out.cell 3
  have x4:=H1.out.cell 4
  rw [HE.out] at x0 x1 x2 x3 x4
  have y0:wr.cell? ⟨w.heap.size+1,0,none⟩=some (.int .i64 (zas s.data.toList).m0):=x0
  have y1:wr.cell? ⟨w.heap.size+1,1,none⟩=some (.int .i64 (zas s.data.toList).m1):=x1
  have y2:wr.cell? ⟨w.heap.size+1,2,none⟩=some (.int .i64 (zas s.data.toList).v0):=x2
  have y3:wr.cell? ⟨w.heap.size+1,3,none⟩=some (.int .i64 (zas s.data.toList).v1):=x3
  have y4:wr.cell? ⟨w.heap.size+1,4,none⟩=some (.bool (zas s.data.toList).ok):=x4
  have z0:=H0.out.cell 0
  have z1:=H0.out.cell 1
  have z2:=H0.out.cell 2
  have z3:=H0.out.cell 3
  have z4:=H0.out.cell 4
  have zf:=H0.out.frozen
  clear x0 x1 x2 x3 x4 hks
  go_wp2
  refine bodyPost_ret (v:=.agg (cPcs (zas s.data.toList)).toArray) (by simp (maxDischargeDepth:=9) [results,results304,go_sem,z0,z1,z2,z3,z4,cPcs]) rfl ?_
  refine ⟨rfl,?_⟩
  iterate 5 refine Below.setCell ?_ (by simp) _
  exact HBW.out
 have hi0:(0:Int)≤(k:Int):=Int.natCast_nonneg _
 have hi1:(k:Int)<(s.size:Int):=by omega
 have HS:=Hd (zra s k hlt)
 have hk2:(k:Int)≤2000000:=by omega
 by_cases d1:97≤s[k].toNat∧s[k].toNat≤122
 ·obtain ⟨d1,d2⟩:=d1
  have e1:97≤(s[k].toNat:Int):=by omega
  have e2:(s[k].toNat:Int)≤122:=by omega
  have HP:=Hd (show zcf (zas (s.data.toList.take k)) s[k]=addP (zas (s.data.toList.take k)) (s[k].toNat-32) true by unfold zcf;rw [if_pos ⟨d1,d2⟩])
  go_wp2_with fail
  rw [show ((s[k].toNat:Int)-32)=((s[k].toNat-32:Nat):Int) by omega]
  refine (zi6 _ _ k _ _ hk2 HOK.out (by omega) (by omega) H1.out).mono ?_
  rintro e w1 ⟨rfl,hb1,hc1⟩
  have HB1:=Hd (show Blk w1 (w.heap.size+1) 318 (cPcs (zas (s.data.toList.take (k+1)))).toArray by rw [HS.out,HP.out];exact hb1)
  have HOK1:=Hd (show PcsOk ((k:Int)+1) (zas (s.data.toList.take (k+1))) by rw [HS.out,HP.out];exact HOK.out.add _ _ (fun h=>by first | omega | cases h) (fun h=>by first | omega | cases h))
  have H01:=Hd (H0.out.chg hc1 (by omega))
  have HBW1:=Hd (HBW.out.trans (hc1.to_below HBW.out.size (by omega)))
  clear hb1 hc1
  go_wp2
  exact ⟨⟨k+1,by omega,by go_num,H01.out,HB1.out,HOK1.out,HBW1.out⟩,by simp [intOf];omega⟩
 have q1:(97≤(s[k].toNat:Int))=False∨((97≤(s[k].toNat:Int))=True∧((s[k].toNat:Int)≤122)=False):=by
  rcases Nat.lt_or_ge s[k].toNat 97 with h | h
  ·exact .inl (eq_false (by omega))
  exact .inr ⟨eq_true (by omega),eq_false (by omega)⟩
 by_cases d2:65≤s[k].toNat∧s[k].toNat≤90
 ·have HP:=Hd (show zcf (zas (s.data.toList.take k)) s[k]=addP (zas (s.data.toList.take k)) s[k].toNat true by unfold zcf;rw [if_neg d1,if_pos d2])
  obtain ⟨d2,d3⟩:=d2
  have e0:¬97≤(s[k].toNat:Int):=by omega
  have e1:65≤(s[k].toNat:Int):=by omega
  have e2:(s[k].toNat:Int)≤90:=by omega
  clear q1 d1
  go_wp2_with fail
  refine (zi6 _ _ k _ _ hk2 HOK.out (by omega) (by omega) H1.out).mono ?_
  rintro e w1 ⟨rfl,hb1,hc1⟩
  have HB1:=Hd (show Blk w1 (w.heap.size+1) 318 (cPcs (zas (s.data.toList.take (k+1)))).toArray by rw [HS.out,HP.out];exact hb1)
  have HOK1:=Hd (show PcsOk ((k:Int)+1) (zas (s.data.toList.take (k+1))) by rw [HS.out,HP.out];exact HOK.out.add _ _ (fun h=>by first | omega | cases h) (fun h=>by first | omega | cases h))
  have H01:=Hd (H0.out.chg hc1 (by omega))
  have HBW1:=Hd (HBW.out.trans (hc1.to_below HBW.out.size (by omega)))
  clear hb1 hc1
  go_wp2
  exact ⟨⟨k+1,by omega,by go_num,H01.out,HB1.out,HOK1.out,HBW1.out⟩,by simp [intOf];omega⟩
 by_cases d3:digB s[k]=true
 ·have HP:=Hd (show zcf (zas (s.data.toList.take k)) s[k]=addP (zas (s.data.toList.take k)) s[k].toNat false by unfold zcf;rw [if_neg d1,if_neg d2,if_pos d3])
  have e1:48≤(s[k].toNat:Int):=by simp [digB] at d3;omega
  have e2:(s[k].toNat:Int)≤57:=by simp [digB] at d3;omega
  have e0:¬97≤(s[k].toNat:Int):=by omega
  have e3:¬65≤(s[k].toNat:Int):=by omega
  clear q1 d1 d2 d3
  go_wp2_with fail
  refine (ztk _ _ k _ _ hk2 HOK.out (by omega) (by omega) H1.out).mono ?_
  rintro e w1 ⟨rfl,hb1,hc1⟩
  have HB1:=Hd (show Blk w1 (w.heap.size+1) 318 (cPcs (zas (s.data.toList.take (k+1)))).toArray by rw [HS.out,HP.out];exact hb1)
  have HOK1:=Hd (show PcsOk ((k:Int)+1) (zas (s.data.toList.take (k+1))) by rw [HS.out,HP.out];exact HOK.out.add _ _ (fun h=>by first | omega | cases h) (fun h=>by first | omega | cases h))
  have H01:=Hd (H0.out.chg hc1 (by omega))
  have HBW1:=Hd (HBW.out.trans (hc1.to_below HBW.out.size (by omega)))
  clear hb1 hc1
  go_wp2
  exact ⟨⟨k+1,by omega,by go_num,H01.out,HB1.out,HOK1.out,HBW1.out⟩,by simp [intOf];omega⟩
 have HP:=Hd (show zcf (zas (s.data.toList.take k)) s[k]={ zas (s.data.toList.take k) with ok:=false } by unfold zcf;rw [if_neg d1,if_neg d2,if_neg d3])
 have d4:s[k].toNat<48∨(57<s[k].toNat∧s[k].toNat<65)∨(90<s[k].toNat∧s[k].toNat<97)∨122<s[k].toNat:=by simp [digB] at d3;omega
 have f4:=H1.out.cell 4
 have ff:=H1.out.frozen
 have HB1:=Hd (show Blk (wr.setCell ⟨w.heap.size+1,4,none⟩ (.bool false)) (w.heap.size+1) 318 (cPcs (zas (s.data.toList.take (k+1)))).toArray by
  rw [HS.out,HP.out]
  exact (H1.out.set_ 4 (.bool false)).eqv (by simp [cPcs]))
 have HOK1:=Hd (show PcsOk ((k:Int)+1) (zas (s.data.toList.take (k+1))) by rw [HS.out,HP.out];exact HOK.out.bad)
 have H01:=Hd (H0.out.far (p:=⟨w.heap.size+1,4,none⟩) (by simp) (.bool false))
 have HBW1:=Hd (HBW.out.setCell (p:=⟨w.heap.size+1,4,none⟩) (by simp) (.bool false))
 have f4':wr.cell? ⟨w.heap.size+1,4,none⟩=some (.bool (zas (s.data.toList.take k)).ok):=f4
 clear q1 d1 d2 d3 f4
 rcases d4 with d4 | ⟨d4,d5⟩ | ⟨d4,d5⟩ | d4
 ·have e0:¬97≤(s[k].toNat:Int):=by omega
  have e1:¬65≤(s[k].toNat:Int):=by omega
  have e2:¬48≤(s[k].toNat:Int):=by omega
  go_wp2
  exact ⟨⟨k+1,by omega,by go_num,H01.out,HB1.out,HOK1.out,HBW1.out⟩,by simp [intOf];omega⟩
 ·have e0:¬97≤(s[k].toNat:Int):=by omega
  have e1:¬65≤(s[k].toNat:Int):=by omega
  have e2:48≤(s[k].toNat:Int):=by omega
  have e3:¬(s[k].toNat:Int)≤57:=by omega
  go_wp2
  exact ⟨⟨k+1,by omega,by go_num,H01.out,HB1.out,HOK1.out,HBW1.out⟩,by simp [intOf];omega⟩
 ·have e0:¬97≤(s[k].toNat:Int):=by omega
  have e1:65≤(s[k].toNat:Int):=by omega
  have e2:¬(s[k].toNat:Int)≤90:=by omega
  have e3:48≤(s[k].toNat:Int):=by omega
  have e4:¬(s[k].toNat:Int)≤57:=by omega
  go_wp2
  exact ⟨⟨k+1,by omega,by go_num,H01.out,HB1.out,HOK1.out,HBW1.out⟩,by simp [intOf];omega⟩
 have e0:97≤(s[k].toNat:Int):=by omega
 have e1:¬(s[k].toNat:Int)≤122:=by omega
 have e2:65≤(s[k].toNat:Int):=by omega
 have e3:¬(s[k].toNat:Int)≤90:=by omega
 have e4:48≤(s[k].toNat:Int):=by omega
 have e5:¬(s[k].toNat:Int)≤57:=by omega
 go_wp2
 exact ⟨⟨k+1,by omega,by go_num,H01.out,HB1.out,HOK1.out,HBW1.out⟩,by simp [intOf];omega⟩
theorem zqf (s:ByteArray) (w:World) (hl:s.size≤1000000):
 Calls prog 279 #[.string s] w fun u w'=>u=.returned (.tuple #[.agg #[.int .i64 (parA s.data.toList).1.col,.int .i64 (parA s.data.toList).1.row],.int .i64 (parA s.data.toList).2])∧Below w.heap.size w w':=by
 have KB0:=Hd (Blk.new w 56 #[.int .i64 0,.int .i64 0])
 go_enter func279,ntmps279
 go_wp2_with fail
 refine (zti s _ hl).mono ?_
 rintro e w1 ⟨rfl,hb1⟩
 have HB1:=Hd (show Below w.heap.size w w1 from nxt hb1)
 have K1:=Hd (KB0.out.below_ hb1)
 clear hb1 KB0
 obtain ⟨p,hp⟩:∃p,zas s.data.toList=p:=⟨_,rfl⟩
 rw [hp]
 have HP:=Hd hp
 clear hp
 obtain ⟨m0,m1,v0,v1,ok⟩:=p
 have hz:=K1.out.lt
 have K2:=Hd (K1.out.alloc (.cells #[.int .i64 m0,.int .i64 m1,.int .i64 v0,.int .i64 v1,.bool ok] 318))
 have HB2:=Hd (show Below w.heap.size w (w1.alloc (.cells #[.int .i64 m0,.int .i64 m1,.int .i64 v0,.int .i64 v1,.bool ok] 318)) from HB1.out.alloc HB1.out.size _)
 rw [show Value.agg (cPcs ⟨m0,m1,v0,v1,ok⟩).toArray=.agg #[.int .i64 m0,.int .i64 m1,.int .i64 v0,.int .i64 v1,.bool ok] from rfl]
 have z0:=K1.out.cell 0
 have z1:=K1.out.cell 1
 have zf:=K1.out.frozen
 by_cases hno:ok=false∨m0=0∨m1=0
 ·have HE:=Hd (show parA s.data.toList=(⟨0,0⟩,4) by unfold parA;rw [HP.out];exact if_pos hno)
  have hcases:ok=false∨(ok=true∧m0=0)∨(ok=true∧m0≠0∧m1=0):=by
   cases ok <;> simp at hno ⊢
   by_cases h:m0=0
   ·exact .inl h
   exact .inr ⟨h,hno.resolve_left h⟩
  clear hno
  rcases hcases with rfl | ⟨rfl,rfl⟩ | ⟨rfl,hm0,rfl⟩
  ·go_wp2
   refine bodyPost_ret (v:=.tuple #[.agg #[.int .i64 0,.int .i64 0],.int .i64 4]) (by simp (maxDischargeDepth:=9) [results,results279,go_sem,z0,z1,hz]) rfl ?_
   rw [HE.out]
   exact ⟨rfl,(Below.setCell (Below.setCell HB1.out (by simp) _) (by simp) _).alloc (by have:=HB1.out.size;simpa [World.setCell] using this) _⟩
  ·go_wp2
   refine bodyPost_ret (v:=.tuple #[.agg #[.int .i64 0,.int .i64 0],.int .i64 4]) (by simp (maxDischargeDepth:=9) [results,results279,go_sem,z0,z1,hz]) rfl ?_
   rw [HE.out]
   exact ⟨rfl,(Below.setCell (Below.setCell HB1.out (by simp) _) (by simp) _).alloc (by have:=HB1.out.size;simpa [World.setCell] using this) _⟩
  have hm1:(m0==0)=false:=by simpa using hm0
  go_wp2
  refine bodyPost_ret (v:=.tuple #[.agg #[.int .i64 0,.int .i64 0],.int .i64 4]) (by simp (maxDischargeDepth:=9) [results,results279,go_sem,z0,z1,hz]) rfl ?_
  rw [HE.out]
  exact ⟨rfl,(Below.setCell (Below.setCell HB1.out (by simp) _) (by simp) _).alloc (by have:=HB1.out.size;simpa [World.setCell] using this) _⟩
 have hok:ok=true:=by cases ok <;> simp_all
 subst hok
 have hm0:(m0==0)=false:=by simp at hno ⊢;exact hno.1
 have hm1:(m1==0)=false:=by simp at hno ⊢;exact hno.2
 have HE:=Hd (show parA s.data.toList=if za1 v0 v1 then (⟨v0,v1⟩,0) else (⟨0,0⟩,3) by unfold parA;rw [HP.out];exact if_neg hno)
 clear hno
 go_wp2_with fail
 refine (zef v0 v1 _).mono ?_
 rintro e w2 ⟨rfl,hb2⟩
 have hz2:w.heap.size<w2.heap.size:=by have:=hb2.size;simp at this;omega
 have hz1:w1.heap.size+1<w2.heap.size:=by have:=hb2.size;simp at this;omega
 have K3:=Hd ((K2.out.alloc (.cells #[.int .i64 v0,.int .i64 v1] 56)).below_ hb2)
 have K4:=Hd (show Blk w2 (w1.heap.size+1) 56 #[.int .i64 v0,.int .i64 v1] by
  have:=(Blk.new (w1.alloc (.cells #[.int .i64 m0,.int .i64 m1,.int .i64 v0,.int .i64 v1,.bool true] 318)) 56 #[.int .i64 v0,.int .i64 v1]).below_ hb2
  simpa using this)
 have HB3:=Hd (show Below w.heap.size w w2 from Below.next (HB2.out.alloc HB2.out.size _) hb2 (by have:=HB2.out.size;simp at this ⊢;omega))
 have y0:=K3.out.cell 0
 have y1:=K3.out.cell 1
 have yf:=K3.out.frozen
 have x0:=K4.out.cell 0
 have x1:=K4.out.cell 1
 clear hb2 z0 z1 zf
 by_cases hv:za1 v0 v1=true
 ·rw [hv] at HE ⊢
  go_wp2
  refine bodyPost_ret (v:=.tuple #[.agg #[.int .i64 v0,.int .i64 v1],.int .i64 0]) (by simp (maxDischargeDepth:=9) [results,results279,go_sem,y0,y1]) rfl ?_
  rw [HE.out]
  exact ⟨rfl,Below.setCell (Below.setCell HB3.out (by simp) _) (by simp) _⟩
 have hv2:za1 v0 v1=false:=by simpa using hv
 rw [hv2] at HE ⊢
 clear hv
 go_wp2
 refine bodyPost_ret (v:=.tuple #[.agg #[.int .i64 0,.int .i64 0],.int .i64 3]) (by simp (maxDischargeDepth:=9) [results,results279,go_sem,y0,y1]) rfl ?_
 rw [HE.out]
 exact ⟨rfl,Below.setCell (Below.setCell HB3.out (by simp) _) (by simp) _⟩
end Go.Proofs.YtamcgggmfghljaaGreatDoor
