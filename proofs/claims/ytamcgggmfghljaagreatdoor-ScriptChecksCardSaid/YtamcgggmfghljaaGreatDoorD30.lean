/- Layer 11 (program): the entry "9". -/
import Derived.WalkMore
import Derived.Test.YtamcgggmfghljaaGreatDoorD15
set_option maxRecDepth 100000
set_option maxHeartbeats 8000000
open Go.Proofs.Tryz
namespace Go.Proofs.YtamcgggmfghljaaGreatDoor
open Go.RowKit
theorem zvh (n:Int) (w:World) (h:n≠ -9223372036854775808):
 Calls prog 221 #[.int .i64 n] w fun u w'=>u=.returned (.agg #[.int .u8 1,.int .i64 n,str []])∧Below w.heap.size w w':=by
 have h1:(n== -9223372036854775808)=false:=by simpa using h
 clear h
 go_enter func221,ntmps221
 go_wp2
 refine bodyPost_ret (v:=.agg #[.int .u8 1,.int .i64 n,str []]) (by simp (maxDischargeDepth:=9) [results,results221,go_sem]) rfl ?_
 exact ⟨rfl,by go_grown⟩
theorem zn7 (n:Int) (w:World):
 Calls prog 218 #[.int .i64 n] w fun u w'=>∃m:Int,u=.returned (.agg #[.int .u8 4,.int .i64 m,str []])∧Below w.heap.size w w':=by
 by_cases h1:n<1
 ·skip
  go_enter func218,ntmps218
  go_wp2
  refine bodyPost_ret (v:=.agg #[.int .u8 4,.int .i64 2,str []]) (by simp (maxDischargeDepth:=9) [results,results218,go_sem]) rfl ?_
  exact ⟨_,rfl,by go_grown⟩
 by_cases h2:7<n
 ·skip
  go_enter func218,ntmps218
  go_wp2
  refine bodyPost_ret (v:=.agg #[.int .u8 4,.int .i64 2,str []]) (by simp (maxDischargeDepth:=9) [results,results218,go_sem]) rfl ?_
  exact ⟨⟨_,rfl⟩,by go_grown⟩
 skip
 go_enter func218,ntmps218
 go_wp2
 refine bodyPost_ret (v:=.agg #[.int .u8 4,.int .i64 n,str []]) (by simp (maxDischargeDepth:=9) [results,results218,go_sem]) rfl ?_
 exact ⟨⟨_,rfl⟩,by go_grown⟩
def zl2 (inp:zaa) (K:Nat):Prop:=txtE inp=0→inp.length≤1000000→∀(W:World) (g:Nat),W.cell? ⟨g,0,none⟩=some (str inp)→g<W.heap.size→Words W→
 Calls prog K #[.pointer (some ⟨g,0,none⟩)] W fun u w'=>∃(k n:Int) (s:zaa) (b:Bool),u=.returned (.tuple #[.agg #[.int .u8 k,.int .i64 n,str s],.bool b])∧Below W.heap.size W w'
theorem tryg_1 (inp:zaa):zl2 inp 212:=by
 intro hp hl w g hc hg hw
 clear hw hp
 cases h0:(inp==([]:List UInt8)) with
 | true=>
  go_enter func212,ntmps212
  go_wp2
  go_region
  all_goals
   go_wp2
   refine bodyPost_ret (v:=.tuple #[.agg #[.int .u8 0,.int .i64 0,str []],.bool true]) (by simp (maxDischargeDepth:=9) [results,results212,go_sem]) rfl ?_
   exact ⟨_,_,_,_,rfl,by go_grown⟩
 | false=>
  go_enter func212,ntmps212
  go_wp2
  go_region
  all_goals
   go_wp2
   refine bodyPost_ret (v:=.tuple #[.agg #[.int .u8 0,.int .i64 0,str []],.bool false]) (by simp (maxDischargeDepth:=9) [results,results212,go_sem]) rfl ?_
   exact ⟨_,_,_,_,rfl,by go_grown⟩
theorem tryg_2 (inp:zaa):zl2 inp 213:=by
 intro hp hl w g hc hg hw
 clear hw hp
 go_enter func213,ntmps213
 go_wp2_with fail
 refine (zi5 inp [39] _ hl (by decide)).mono ?_
 rintro e w1 ⟨rfl,rfl⟩
 generalize cutB inp [39]=x
 generalize ([39]:zaa).isPrefixOf inp=y
 go_wp2
 refine bodyPost_ret (v:=.tuple #[.agg #[.int .u8 3,.int .i64 0,str x],.bool y]) (by simp (maxDischargeDepth:=9) [results,results213,go_sem]) rfl ?_
 exact ⟨_,_,_,_,rfl,by go_grown⟩
theorem tryg_3 (inp:zaa):zl2 inp 214:=by
 intro hp hl w g hc hg hw
 clear hw
 obtain ⟨k,m,hk⟩:=zgh inp
 have HK:=Hd hk
 clear hk
 go_enter func214,ntmps214
 go_wp2_with fail
 refine (zoq _ _ hp hl).mono ?_
 rintro e w1 ⟨rfl,hb1⟩
 have hz1:=hb1.size
 try simp at hz1
 have hB1:Below w.heap.size w w1:=nxt hb1
 obtain ⟨hc1_0,hl1_0,hm1_0,hn1_0,ho1_0,hf1_0⟩:=oldB (g:=w.heap.size) hb1
 rw [HK.out]
 go_wp2
 go_region
 all_goals
  go_wp2
  refine bodyPost_ret (v:=.tuple #[.agg #[.int .u8 k,.int .i64 m,str []],.bool (k==2)]) (by simp (maxDischargeDepth:=9) [results,results214,go_sem,hc1_0,hl1_0]) rfl ?_
  exact ⟨_,_,_,_,rfl,by go_grown⟩
theorem tryg_4 (inp:zaa):zl2 inp 216:=by
 intro hp hl w g hc hg hw
 have HW:=Hd hw
 clear hw hp
 go_enter func216,ntmps216
 go_wp2_with fail
 refine (zwh inp _ hl (HW.out.below (by go_grown))).mono ?_
 rintro e w1 ⟨c,m,rfl,hb1⟩
 have hz1:=hb1.size
 simp at hz1
 have hc1:∀o,w1.cell? ⟨w.heap.size,o,none⟩=_:=fun o=>hb1.cell (p:=⟨w.heap.size,o,none⟩) (by simp)
 have hf1:∀o,w1.frozen? ⟨w.heap.size,o,none⟩=_:=fun o=>hb1.frozen (p:=⟨w.heap.size,o,none⟩) (by simp)
 have HB1:=Hd (show Below w.heap.size w w1 from nxt hb1)
 clear hb1
 go_wp2_with fail
 refine (zn7 c _).mono ?_
 rintro e w2 ⟨q,rfl,hb2⟩
 have hz2:=hb2.size
 have hc2:∀o,w2.cell? ⟨w.heap.size,o,none⟩=_:=fun o=>(hb2.cell (p:=⟨w.heap.size,o,none⟩) (by simp;omega)).trans (hc1 o)
 have hf2:∀o,w2.frozen? ⟨w.heap.size,o,none⟩=_:=fun o=>(hb2.frozen (p:=⟨w.heap.size,o,none⟩) (by simp;omega)).trans (hf1 o)
 have HB2:=Hd (show Below w.heap.size w w2 from Below.next HB1.out hb2 HB1.out.size)
 have hl2:w.heap.size<w2.heap.size:=by omega
 clear hb2 hc1 hf1
 go_wp2
 ·skip
  refine bodyPost_ret (v:=.tuple #[.agg #[.int .u8 4,.int .i64 q,str []],.bool (decide (c≤5))]) (by simp (maxDischargeDepth:=9) [results,results216,go_sem,hc2]) rfl ?_
  exact ⟨_,_,_,_,rfl,Below.setCell (Below.setCell (Below.setCell HB2.out (Nat.le_refl _) _) (Nat.le_refl _) _) (Nat.le_refl _) _⟩
 skip
 refine bodyPost_ret (v:=.tuple #[.agg #[.int .u8 4,.int .i64 q,str []],.bool false]) (by simp (maxDischargeDepth:=9) [results,results216,go_sem,hc2]) rfl ?_
 exact ⟨_,_,_,_,rfl,Below.setCell (Below.setCell (Below.setCell HB2.out (Nat.le_refl _) _) (Nat.le_refl _) _) (Nat.le_refl _) _⟩
theorem zrh (s:zaa):(zbc s).1≠ -9223372036854775808:=by
 unfold zbc
 split
 ·simp
 split
 ·simp
 split
 ·simp
 rename_i h
 unfold zci at h
 split <;> simp only <;> omega
theorem tryg_5 (inp:zaa):zl2 inp 219:=by
 intro hp hl w g hc hg hw
 clear hw hp
 have hne:=zrh inp
 by_cases h3:(zbc inp).2=3
 ·skip
  go_enter func219,ntmps219
  go_wp2_with fail
  refine (ze8 inp _ hl).mono ?_
  rintro e w1 ⟨rfl,hb1⟩
  have hz1:=hb1.size
  try simp at hz1
  have hB1:Below w.heap.size w w1:=nxt hb1
  obtain ⟨hc1_0,hl1_0,hm1_0,hn1_0,ho1_0,hf1_0⟩:=oldB (g:=w.heap.size) hb1
  have t3:((zbc inp).2==3)=true:=by simpa using h3
  go_wp2_with fail
  refine (zn7 3 _).mono ?_
  rintro e w2 ⟨q,rfl,hb2⟩
  have hz2:=hb2.size
  have HB2:=Hd (show Below w.heap.size w w2 from Below.next hB1 hb2 hB1.size)
  have hc2:∀o,w2.cell? ⟨w.heap.size,o,none⟩=_:=fun o=>(hb2.cell (p:=⟨w.heap.size,o,none⟩) (by omega)).trans (hc1_0 o)
  have hf2:∀o,w2.frozen? ⟨w.heap.size,o,none⟩=_:=fun o=>(hb2.frozen (p:=⟨w.heap.size,o,none⟩) (by omega)).trans (hf1_0 o)
  have hl2:w.heap.size<w2.heap.size:=by omega
  clear hb2
  go_wp2
  refine bodyPost_ret (v:=.tuple #[.agg #[.int .u8 4,.int .i64 q,str []],.bool true]) (by simp (maxDischargeDepth:=9) [results,results219,go_sem,hc2]) rfl ?_
  exact ⟨_,_,_,_,rfl,Below.setCell (Below.setCell (Below.setCell HB2.out (Nat.le_refl _) _) (Nat.le_refl _) _) (Nat.le_refl _) _⟩
 skip
 go_enter func219,ntmps219
 go_wp2_with fail
 refine (ze8 inp _ hl).mono ?_
 rintro e w1 ⟨rfl,hb1⟩
 have hz1:=hb1.size
 try simp at hz1
 have hB1:Below w.heap.size w w1:=nxt hb1
 obtain ⟨hc1_0,hl1_0,hm1_0,hn1_0,ho1_0,hf1_0⟩:=oldB (g:=w.heap.size) hb1
 have t3:((zbc inp).2==3)=false:=by simpa using h3
 generalize (zbc inp).1=pn at *
 generalize (zbc inp).2=pe at *
 go_wp2_with fail
 refine (zvh pn _ hne).mono ?_
 rintro e w2 ⟨rfl,hb2⟩
 have hz2:=hb2.size
 try simp at hz2
 have hB2:Below w.heap.size w w2:=nxt hb2
 obtain ⟨hc2_0,hl2_0,hm2_0,hn2_0,ho2_0,hf2_0⟩:=oldB (g:=w.heap.size) hb2
 cases t0:(pe==0)
 ·go_wp2
  refine bodyPost_ret (v:=.tuple #[.agg #[.int .u8 1,.int .i64 pn,str []],.bool false]) (by simp (maxDischargeDepth:=9) [results,results219,go_sem,hc1_0,hc2_0]) rfl ?_
  exact ⟨_,_,_,_,rfl,by go_grown⟩
 go_wp2
 refine bodyPost_ret (v:=.tuple #[.agg #[.int .u8 1,.int .i64 pn,str []],.bool true]) (by simp (maxDischargeDepth:=9) [results,results219,go_sem,hc1_0,hc2_0]) rfl ?_
 exact ⟨_,_,_,_,rfl,by go_grown⟩
end Go.Proofs.YtamcgggmfghljaaGreatDoor
