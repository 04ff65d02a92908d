/- Layer 11 (program): what an input means that is no formula (printed by tools/gen_constg.py -/
import Derived.Test.YtamcgggmfghljaaGreatDoorD17
import Derived.Test.YtamcgggmfghljaaGreatDoorD30
set_option maxRecDepth 100000
set_option maxHeartbeats 8000000
open Go.Proofs.Tryz
namespace Go.Proofs.YtamcgggmfghljaaGreatDoor
open Go.RowKit
theorem zly (inp:zaa) (w:World) (hp:txtE inp=0) (hl:inp.length≤1000000) (hw:Words w):
 Calls prog 196 #[str inp] w fun u w'=>∃k n:Int,∃s:zaa,u=.returned (vVal k n s)∧Below w.heap.size w w':=by
 have hmf:∀(fn:Fn) (first cap:Array Value) (w:World),(Instr.makeFunc fn first cap).run prog w=.ok (.func fn first cap) w:=fun _ _ _ _=>rfl
 go_enter func196,ntmps196
 go_wp2
 go_step3
 go_wp2
 go_step3
 go_wp2
 have kA:Blk (((w.alloc (.cells #[str inp] 9)).alloc (.cells #[.int .u8 0,.int .i64 0,str []] 189)).alloc (.cells #[.func (.func 212) #[] #[.pointer (some ⟨w.heap.size,0,none⟩)],.func (.func 213) #[] #[.pointer (some ⟨w.heap.size,0,none⟩)],.func (.func 214) #[] #[.pointer (some ⟨w.heap.size,0,none⟩)],.func (.func 216) #[] #[.pointer (some ⟨w.heap.size,0,none⟩)],.func (.func 219) #[] #[.pointer (some ⟨w.heap.size,0,none⟩)]] 223)) w.heap.size 9 #[str inp]:=((Blk.new w _ _).alloc _).alloc _
 have kB:Blk (((w.alloc (.cells #[str inp] 9)).alloc (.cells #[.int .u8 0,.int .i64 0,str []] 189)).alloc (.cells #[.func (.func 212) #[] #[.pointer (some ⟨w.heap.size,0,none⟩)],.func (.func 213) #[] #[.pointer (some ⟨w.heap.size,0,none⟩)],.func (.func 214) #[] #[.pointer (some ⟨w.heap.size,0,none⟩)],.func (.func 216) #[] #[.pointer (some ⟨w.heap.size,0,none⟩)],.func (.func 219) #[] #[.pointer (some ⟨w.heap.size,0,none⟩)]] 223)) (w.heap.size+1) 189 #[.int .u8 0,.int .i64 0,str []]:=by
  have:=(Blk.new (w.alloc (.cells #[str inp] 9)) 189 #[.int .u8 0,.int .i64 0,str []]).alloc (.cells #[.func (.func 212) #[] #[.pointer (some ⟨w.heap.size,0,none⟩)],.func (.func 213) #[] #[.pointer (some ⟨w.heap.size,0,none⟩)],.func (.func 214) #[] #[.pointer (some ⟨w.heap.size,0,none⟩)],.func (.func 216) #[] #[.pointer (some ⟨w.heap.size,0,none⟩)],.func (.func 219) #[] #[.pointer (some ⟨w.heap.size,0,none⟩)]] 223)
  simpa using this
 have kC:Blk (((w.alloc (.cells #[str inp] 9)).alloc (.cells #[.int .u8 0,.int .i64 0,str []] 189)).alloc (.cells #[.func (.func 212) #[] #[.pointer (some ⟨w.heap.size,0,none⟩)],.func (.func 213) #[] #[.pointer (some ⟨w.heap.size,0,none⟩)],.func (.func 214) #[] #[.pointer (some ⟨w.heap.size,0,none⟩)],.func (.func 216) #[] #[.pointer (some ⟨w.heap.size,0,none⟩)],.func (.func 219) #[] #[.pointer (some ⟨w.heap.size,0,none⟩)]] 223)) (w.heap.size+1+1) 223 #[.func (.func 212) #[] #[.pointer (some ⟨w.heap.size,0,none⟩)],.func (.func 213) #[] #[.pointer (some ⟨w.heap.size,0,none⟩)],.func (.func 214) #[] #[.pointer (some ⟨w.heap.size,0,none⟩)],.func (.func 216) #[] #[.pointer (some ⟨w.heap.size,0,none⟩)],.func (.func 219) #[] #[.pointer (some ⟨w.heap.size,0,none⟩)]]:=by
  have:=Blk.new ((w.alloc (.cells #[str inp] 9)).alloc (.cells #[.int .u8 0,.int .i64 0,str []] 189)) 223 #[.func (.func 212) #[] #[.pointer (some ⟨w.heap.size,0,none⟩)],.func (.func 213) #[] #[.pointer (some ⟨w.heap.size,0,none⟩)],.func (.func 214) #[] #[.pointer (some ⟨w.heap.size,0,none⟩)],.func (.func 216) #[] #[.pointer (some ⟨w.heap.size,0,none⟩)],.func (.func 219) #[] #[.pointer (some ⟨w.heap.size,0,none⟩)]]
  simpa using this
 have bb:Below w.heap.size w (((w.alloc (.cells #[str inp] 9)).alloc (.cells #[.int .u8 0,.int .i64 0,str []] 189)).alloc (.cells #[.func (.func 212) #[] #[.pointer (some ⟨w.heap.size,0,none⟩)],.func (.func 213) #[] #[.pointer (some ⟨w.heap.size,0,none⟩)],.func (.func 214) #[] #[.pointer (some ⟨w.heap.size,0,none⟩)],.func (.func 216) #[] #[.pointer (some ⟨w.heap.size,0,none⟩)],.func (.func 219) #[] #[.pointer (some ⟨w.heap.size,0,none⟩)]] 223)):=by go_grown
 have KA:=Hd kA
 have KB:=Hd kB
 have KC:=Hd kC
 have BB:=Hd bb
 have HW:=Hd hw
 clear kA kB kC bb hw
 go_loopw [4,15] (fun q i wr=>∃(k:Int) (a b:Int) (c:zaa),0≤k∧k≤5∧q=.bool false∧i=.int .i64 k∧Blk wr w.heap.size 9 #[str inp]∧Blk wr (w.heap.size+1) 189 #[.int .u8 a,.int .i64 b,str c]∧Blk wr (w.heap.size+1+1) 223 #[.func (.func 212) #[] #[.pointer (some ⟨w.heap.size,0,none⟩)],.func (.func 213) #[] #[.pointer (some ⟨w.heap.size,0,none⟩)],.func (.func 214) #[] #[.pointer (some ⟨w.heap.size,0,none⟩)],.func (.func 216) #[] #[.pointer (some ⟨w.heap.size,0,none⟩)],.func (.func 219) #[] #[.pointer (some ⟨w.heap.size,0,none⟩)]]∧Below w.heap.size w wr) (fun _ i _=>5-(intOf i).toNat)
 case atStart=>exact ⟨0,0,0,[],by omega,by omega,rfl,rfl,KA.out,KB.out,KC.out,BB.out⟩
 obtain ⟨k,a,b,c,k0,k5,rfl,rfl,ka,kb,kc,hb⟩:=hrel
 clear KA KB KC BB
 have KA:=Hd ka
 have KB:=Hd kb
 have KC:=Hd kc
 have HB:=Hd hb
 have f0:=kc.cell 0
 have f1:=kc.cell 1
 have f2:=kc.cell 2
 have f3:=kc.cell 3
 have f4:=kc.cell 4
 have ca:=ka.cell 0
 have la:=ka.lt
 have lb:=kb.lt
 clear ka kb kc hb
 have e:k=0∨k=1∨k=2∨k=3∨k=4∨k=5:=by omega
 rcases e with rfl | rfl | rfl | rfl | rfl | rfl
 ·go_wp2_with fail
  refine (tryg_1 inp hp hl _ _ ca la (HW.out.below (HB.out.mono (Nat.le_refl _)))).mono ?_
  rintro e w1 ⟨k,n,s,q,rfl,hb1⟩
  have KA1:=Hd (KA.out.below_ hb1)
  have KB1:=Hd (KB.out.below_ hb1)
  have KC1:=Hd (KC.out.below_ hb1)
  have HB1:=Hd (Below.trans HB.out (hb1.mono HB.out.size))
  have g0:=KB1.out.cell 0
  have g1:=KB1.out.cell 1
  have g2:=KB1.out.cell 2
  have fr:=KB1.out.frozen
  have lb1:=KB1.out.lt
  clear hb1 f0 f1 f2 f3 f4 ca la lb
  cases q
  ·go_wp2
   exact ⟨⟨1,k,n,s,by omega,by omega,rfl,rfl,(((KA1.out.far (p:=⟨w.heap.size+1,0,none⟩) (by simp;try omega) _).far (p:=⟨w.heap.size+1,1,none⟩) (by simp;try omega) _).far (p:=⟨w.heap.size+1,2,none⟩) (by simp;try omega) _),((KB1.out.set_ 0 (.int .u8 k)).set_ 1 (.int .i64 n)).set_ 2 (str s),(((KC1.out.far (p:=⟨w.heap.size+1,0,none⟩) (by simp;try omega) _).far (p:=⟨w.heap.size+1,1,none⟩) (by simp;try omega) _).far (p:=⟨w.heap.size+1,2,none⟩) (by simp;try omega) _),Below.setCell (Below.setCell (Below.setCell HB1.out (by simp) _) (by simp) _) (by simp) _⟩,by simp [intOf]⟩
  go_wp2
  rw [Exit.noGoto_ret]
  refine bodyPost_ret (v:=.agg #[.int .u8 k,.int .i64 n,str s]) (by simp (maxDischargeDepth:=9) [results,results196,go_sem,g0,g1,g2]) rfl ?_
  exact ⟨k,n,s,rfl,(Below.setCell (Below.setCell (Below.setCell (Below.setCell (Below.setCell (Below.setCell HB1.out (by simp) _) (by simp) _) (by simp) _) (by simp) _) (by simp) _) (by simp) _)⟩
 ·go_wp2_with fail
  refine (tryg_2 inp hp hl _ _ ca la (HW.out.below (HB.out.mono (Nat.le_refl _)))).mono ?_
  rintro e w1 ⟨k,n,s,q,rfl,hb1⟩
  have KA1:=Hd (KA.out.below_ hb1)
  have KB1:=Hd (KB.out.below_ hb1)
  have KC1:=Hd (KC.out.below_ hb1)
  have HB1:=Hd (Below.trans HB.out (hb1.mono HB.out.size))
  have g0:=KB1.out.cell 0
  have g1:=KB1.out.cell 1
  have g2:=KB1.out.cell 2
  have fr:=KB1.out.frozen
  have lb1:=KB1.out.lt
  clear hb1 f0 f1 f2 f3 f4 ca la lb
  cases q
  ·go_wp2
   exact ⟨⟨2,k,n,s,by omega,by omega,rfl,rfl,(((KA1.out.far (p:=⟨w.heap.size+1,0,none⟩) (by simp;try omega) _).far (p:=⟨w.heap.size+1,1,none⟩) (by simp;try omega) _).far (p:=⟨w.heap.size+1,2,none⟩) (by simp;try omega) _),((KB1.out.set_ 0 (.int .u8 k)).set_ 1 (.int .i64 n)).set_ 2 (str s),(((KC1.out.far (p:=⟨w.heap.size+1,0,none⟩) (by simp;try omega) _).far (p:=⟨w.heap.size+1,1,none⟩) (by simp;try omega) _).far (p:=⟨w.heap.size+1,2,none⟩) (by simp;try omega) _),Below.setCell (Below.setCell (Below.setCell HB1.out (by simp) _) (by simp) _) (by simp) _⟩,by simp [intOf]⟩
  go_wp2
  rw [Exit.noGoto_ret]
  refine bodyPost_ret (v:=.agg #[.int .u8 k,.int .i64 n,str s]) (by simp (maxDischargeDepth:=9) [results,results196,go_sem,g0,g1,g2]) rfl ?_
  exact ⟨k,n,s,rfl,(Below.setCell (Below.setCell (Below.setCell (Below.setCell (Below.setCell (Below.setCell HB1.out (by simp) _) (by simp) _) (by simp) _) (by simp) _) (by simp) _) (by simp) _)⟩
 ·go_wp2_with fail
  refine (tryg_3 inp hp hl _ _ ca la (HW.out.below (HB.out.mono (Nat.le_refl _)))).mono ?_
  rintro e w1 ⟨k,n,s,q,rfl,hb1⟩
  have KA1:=Hd (KA.out.below_ hb1)
  have KB1:=Hd (KB.out.below_ hb1)
  have KC1:=Hd (KC.out.below_ hb1)
  have HB1:=Hd (Below.trans HB.out (hb1.mono HB.out.size))
  have g0:=KB1.out.cell 0
  have g1:=KB1.out.cell 1
  have g2:=KB1.out.cell 2
  have fr:=KB1.out.frozen
  have lb1:=KB1.out.lt
  clear hb1 f0 f1 f2 f3 f4 ca la lb
  cases q
  ·go_wp2
   exact ⟨⟨3,k,n,s,by omega,by omega,rfl,rfl,(((KA1.out.far (p:=⟨w.heap.size+1,0,none⟩) (by simp;try omega) _).far (p:=⟨w.heap.size+1,1,none⟩) (by simp;try omega) _).far (p:=⟨w.heap.size+1,2,none⟩) (by simp;try omega) _),((KB1.out.set_ 0 (.int .u8 k)).set_ 1 (.int .i64 n)).set_ 2 (str s),(((KC1.out.far (p:=⟨w.heap.size+1,0,none⟩) (by simp;try omega) _).far (p:=⟨w.heap.size+1,1,none⟩) (by simp;try omega) _).far (p:=⟨w.heap.size+1,2,none⟩) (by simp;try omega) _),Below.setCell (Below.setCell (Below.setCell HB1.out (by simp) _) (by simp) _) (by simp) _⟩,by simp [intOf]⟩
  go_wp2
  rw [Exit.noGoto_ret]
  refine bodyPost_ret (v:=.agg #[.int .u8 k,.int .i64 n,str s]) (by simp (maxDischargeDepth:=9) [results,results196,go_sem,g0,g1,g2]) rfl ?_
  exact ⟨k,n,s,rfl,(Below.setCell (Below.setCell (Below.setCell (Below.setCell (Below.setCell (Below.setCell HB1.out (by simp) _) (by simp) _) (by simp) _) (by simp) _) (by simp) _) (by simp) _)⟩
 ·go_wp2_with fail
  refine (tryg_4 inp hp hl _ _ ca la (HW.out.below (HB.out.mono (Nat.le_refl _)))).mono ?_
  rintro e w1 ⟨k,n,s,q,rfl,hb1⟩
  have KA1:=Hd (KA.out.below_ hb1)
  have KB1:=Hd (KB.out.below_ hb1)
  have KC1:=Hd (KC.out.below_ hb1)
  have HB1:=Hd (Below.trans HB.out (hb1.mono HB.out.size))
  have g0:=KB1.out.cell 0
  have g1:=KB1.out.cell 1
  have g2:=KB1.out.cell 2
  have fr:=KB1.out.frozen
  have lb1:=KB1.out.lt
  clear hb1 f0 f1 f2 f3 f4 ca la lb
  cases q
  ·go_wp2
   exact ⟨⟨4,k,n,s,by omega,by omega,rfl,rfl,(((KA1.out.far (p:=⟨w.heap.size+1,0,none⟩) (by simp;try omega) _).far (p:=⟨w.heap.size+1,1,none⟩) (by simp;try omega) _).far (p:=⟨w.heap.size+1,2,none⟩) (by simp;try omega) _),((KB1.out.set_ 0 (.int .u8 k)).set_ 1 (.int .i64 n)).set_ 2 (str s),(((KC1.out.far (p:=⟨w.heap.size+1,0,none⟩) (by simp;try omega) _).far (p:=⟨w.heap.size+1,1,none⟩) (by simp;try omega) _).far (p:=⟨w.heap.size+1,2,none⟩) (by simp;try omega) _),Below.setCell (Below.setCell (Below.setCell HB1.out (by simp) _) (by simp) _) (by simp) _⟩,by simp [intOf]⟩
  go_wp2
  rw [Exit.noGoto_ret]
  refine bodyPost_ret (v:=.agg #[.int .u8 k,.int .i64 n,str s]) (by simp (maxDischargeDepth:=9) [results,results196,go_sem,g0,g1,g2]) rfl ?_
  exact ⟨k,n,s,rfl,(Below.setCell (Below.setCell (Below.setCell (Below.setCell (Below.setCell (Below.setCell HB1.out (by simp) _) (by simp) _) (by simp) _) (by simp) _) (by simp) _) (by simp) _)⟩
 ·go_wp2_with fail
  refine (tryg_5 inp hp hl _ _ ca la (HW.out.below (HB.out.mono (Nat.le_refl _)))).mono ?_
  rintro e w1 ⟨k,n,s,q,rfl,hb1⟩
  have KA1:=Hd (KA.out.below_ hb1)
  have KB1:=Hd (KB.out.below_ hb1)
  have KC1:=Hd (KC.out.below_ hb1)
  have HB1:=Hd (Below.trans HB.out (hb1.mono HB.out.size))
  have g0:=KB1.out.cell 0
  have g1:=KB1.out.cell 1
  have g2:=KB1.out.cell 2
  have fr:=KB1.out.frozen
  have lb1:=KB1.out.lt
  clear hb1 f0 f1 f2 f3 f4 ca la lb
  cases q
  ·go_wp2
   exact ⟨⟨5,k,n,s,by omega,by omega,rfl,rfl,(((KA1.out.far (p:=⟨w.heap.size+1,0,none⟩) (by simp;try omega) _).far (p:=⟨w.heap.size+1,1,none⟩) (by simp;try omega) _).far (p:=⟨w.heap.size+1,2,none⟩) (by simp;try omega) _),((KB1.out.set_ 0 (.int .u8 k)).set_ 1 (.int .i64 n)).set_ 2 (str s),(((KC1.out.far (p:=⟨w.heap.size+1,0,none⟩) (by simp;try omega) _).far (p:=⟨w.heap.size+1,1,none⟩) (by simp;try omega) _).far (p:=⟨w.heap.size+1,2,none⟩) (by simp;try omega) _),Below.setCell (Below.setCell (Below.setCell HB1.out (by simp) _) (by simp) _) (by simp) _⟩,by simp [intOf]⟩
  go_wp2
  rw [Exit.noGoto_ret]
  refine bodyPost_ret (v:=.agg #[.int .u8 k,.int .i64 n,str s]) (by simp (maxDischargeDepth:=9) [results,results196,go_sem,g0,g1,g2]) rfl ?_
  exact ⟨k,n,s,rfl,(Below.setCell (Below.setCell (Below.setCell (Below.setCell (Below.setCell (Below.setCell HB1.out (by simp) _) (by simp) _) (by simp) _) (by simp) _) (by simp) _) (by simp) _)⟩
 have g0:=KB.out.cell 0
 have g1:=KB.out.cell 1
 have g2:=KB.out.cell 2
 have fr:=KB.out.frozen
 clear f0 f1 f2 f3 f4
 go_wp2
 rw [Exit.noGoto_ret]
 refine bodyPost_ret (v:=.agg #[.int .u8 3,.int .i64 0,str inp]) (by simp (maxDischargeDepth:=9) [results,results196,go_sem,g0,g1,g2]) rfl ?_
 exact ⟨3,0,inp,rfl,(Below.setCell (Below.setCell (Below.setCell (Below.setCell (Below.setCell (Below.setCell HB.out (by simp) _) (by simp) _) (by simp) _) (by simp) _) (by simp) _) (by simp) _)⟩
def CodeR (u:Ending):Prop:=∃(c e:Int),u=.returned (.tuple #[.int .i64 c,.int .i64 e])∧0≤c∧c≤7∧(e=0→1≤c)
def NameE:Prop:=∀(k:Nat) (w:World),1≤k→k≤7→Calls prog 290 #[.int .i64 k] w fun u w'=>(∃x:zaa,u=.returned (str x))∧Below w.heap.size w w'
theorem zrx:NameE:=fun k w h1 h7=>(zne k h1 h7 w).mono (by
 rintro u w' ⟨rfl,rfl⟩
 exact ⟨⟨_,rfl⟩,Below.refl _ _⟩)
theorem zuv (s:zaa) (w:World) (hs:s.length≤1000000):
 Calls prog 256 #[str s] w fun u w'=>CodeR u∧Below w.heap.size w w':=by
 have HN:=Hd zrx
 have HU:=Hd (fun w=>zfo s w hs)
 go_enter func256,ntmps256
 go_wp2_with fail
 go_loopw [4] (fun iv wr=>∃k:Nat,1≤k∧k≤8∧iv=.int .i64 k∧Below w.heap.size w wr) (fun iv _=>8-(intOf iv).toNat)
 case atStart=>exact ⟨1,by omega,by omega,rfl,Below.refl _ _⟩
 rename World=>wr
 obtain ⟨k,h1,h8,rfl,hbw⟩:=hrel
 have HBW:=Hd hbw
 clear hbw
 have hk0:(0:Int)≤(k:Int):=Int.natCast_nonneg _
 have hk1:(1:Int)≤(k:Int):=by omega
 by_cases h7:k≤7
 rotate_left
 ·have hil:¬(k:Int)≤7:=by omega
  go_wp2
  refine bodyPost_ret (v:=.tuple #[.int .i64 0,.int .i64 4]) (by simp (maxDischargeDepth:=9) [results,results256,go_sem]) rfl ?_
  exact ⟨⟨0,4,rfl,by omega,by omega,by omega⟩,HBW.out⟩
 have hil:(k:Int)≤7:=by omega
 go_wp2_with fail
 refine (HN.out k _ h1 h7).mono ?_
 rintro u w2 ⟨⟨x,rfl⟩,hb2⟩
 have HB2:=Hd (Below.next HBW.out hb2 HBW.out.size)
 clear hb2
 go_wp2_with fail
 refine (HU.out _).mono ?_
 rintro u w3 ⟨rfl,hb3⟩
 have HB3:=Hd (Below.next HB2.out hb3 HB2.out.size)
 clear hb3
 generalize s.map upU=y at *
 cases hq:x==y with
 | true=>
  go_wp2
  refine bodyPost_ret (v:=.tuple #[.int .i64 k,.int .i64 0]) (by simp (maxDischargeDepth:=9) [results,results256,go_sem]) rfl ?_
  exact ⟨⟨k,0,rfl,by omega,by omega,fun _=>by omega⟩,HB3.out⟩
 | false=>
  go_wp2
  exact ⟨⟨k+1,by omega,by omega,by go_num,HB3.out⟩,by simp [intOf];omega⟩
def WideR (u:Ending):Prop:=∃h l:Int,u=.returned (.agg #[.int .u64 h,.int .u64 l])
theorem WideR.of (h l:Int):WideR (.returned (.agg #[.int .u64 h,.int .u64 l])):=⟨h,l,rfl⟩
def NumBR (u:Ending):Prop:=∃(n:Int) (b:Bool),u=.returned (.tuple #[.int .i64 n,.bool b])
theorem NumBR.of (n:Int) (b:Bool):NumBR (.returned (.tuple #[.int .i64 n,.bool b])):=⟨n,b,rfl⟩
def NumER (u:Ending):Prop:=∃(n e:Int),u=.returned (.tuple #[.int .i64 n,.int .i64 e])
theorem NumER.of (n e:Int):NumER (.returned (.tuple #[.int .i64 n,.int .i64 e])):=⟨n,e,rfl⟩
theorem zgv (a b c d:Int) (w:World):Calls prog 292 #[.agg #[.int .u64 a,.int .u64 b],.agg #[.int .u64 c,.int .u64 d]] w fun u w'=>WideR u∧Below w.heap.size w w':=by
 by_cases hc:IntKind.u64.wrap (b+d)<b
 ·skip
  go_enter func292,ntmps292
  go_wp2
  refine bodyPost_ret (v:=.agg #[.int .u64 (IntKind.u64.wrap (IntKind.u64.wrap (a+c)+1)),.int .u64 (IntKind.u64.wrap (b+d))]) (by simp (maxDischargeDepth:=9) [results,results292,go_sem]) rfl ?_
  exact ⟨WideR.of _ _,by go_grown⟩
 skip
 go_enter func292,ntmps292
 go_wp2
 refine bodyPost_ret (v:=.agg #[.int .u64 (IntKind.u64.wrap (a+c)),.int .u64 (IntKind.u64.wrap (b+d))]) (by simp (maxDischargeDepth:=9) [results,results292,go_sem]) rfl ?_
 exact ⟨WideR.of _ _,by go_grown⟩
abbrev WideK (w:World) (g:Nat) (h l:Int):Prop:=Blk w g 302 #[.int .u64 h,.int .u64 l]
theorem WideK.put {w:World} {g:Nat} {h l:Int} (k:WideK w g h l) (h' l':Int):WideK ((w.setCell ⟨g,0,none⟩ (.int .u64 h')).setCell ⟨g,1,none⟩ (.int .u64 l')) g h' l':=
 Blk.eqv (cs':=#[.int .u64 h',.int .u64 l']) ((Blk.set_ k 0 _).set_ 1 _) rfl
theorem zog {B:Nat} {a w:World} (h:Below B a w) {g:Nat} (hg:B≤g) (v0 v1:Value):Below B a ((w.setCell ⟨g,0,none⟩ v0).setCell ⟨g,1,none⟩ v1):=(h.setCell hg _).setCell hg _
theorem WideK.facts {w:World} {g:Nat} {h l:Int} (k:WideK w g h l):w.cell? ⟨g,0,none⟩=some (.int .u64 h)∧w.cell? ⟨g,1,none⟩=some (.int .u64 l)∧∀o,w.frozen? ⟨g,o,none⟩=false:=⟨Blk.cell k 0,Blk.cell k 1,fun o=>Blk.frozen k o⟩
theorem zre (a b:Int) (w:World):Calls prog 293 #[.int .u64 a,.int .u64 b] w fun u w'=>WideR u∧Below w.heap.size w w':=by
 have K4:=Hd (show WideK ((w.alloc (.cells #[.int .u64 0,.int .u64 0] 302)).alloc (.cells #[.int .u64 (IntKind.u64.wrap (IntKind.u64.wrap (a.tdiv 4294967296)*IntKind.u64.wrap (b.tdiv 4294967296))),.int .u64 (IntKind.u64.wrap (a.tmod 4294967296*b.tmod 4294967296))] 302)) w.heap.size 0 0 from (Blk.new w _ _).alloc _)
 have K9:=Hd (show WideK ((w.alloc (.cells #[.int .u64 0,.int .u64 0] 302)).alloc (.cells #[.int .u64 (IntKind.u64.wrap (IntKind.u64.wrap (a.tdiv 4294967296)*IntKind.u64.wrap (b.tdiv 4294967296))),.int .u64 (IntKind.u64.wrap (a.tmod 4294967296*b.tmod 4294967296))] 302)) (w.heap.size+1) _ _ by simpa using Blk.new (w.alloc (.cells #[.int .u64 0,.int .u64 0] 302)) 302 #[.int .u64 (IntKind.u64.wrap (IntKind.u64.wrap (a.tdiv 4294967296)*IntKind.u64.wrap (b.tdiv 4294967296))),.int .u64 (IntKind.u64.wrap (a.tmod 4294967296*b.tmod 4294967296))])
 go_enter func293,ntmps293
 go_wp2_with fail
 refine (zgv _ _ _ _ _).mono ?_
 rintro u w1 ⟨⟨h1,l1,rfl⟩,hb1⟩
 have J4:=Hd (Blk.below_ K4.out hb1)
 have J9:=Hd (Blk.below_ K9.out hb1)
 have HB1:=Hd (show Below w.heap.size w w1 from nxt hb1)
 obtain ⟨c0,c1,cf⟩:=WideK.facts J9.out
 have hz:=hb1.size
 have hn:w.heap.size≠w.heap.size+1:=by omega
 have M4:=Hd (((Blk.far (p:=⟨w.heap.size+1,0,none⟩) J4.out hn (.int .u64 h1)).far (p:=⟨w.heap.size+1,1,none⟩) hn (.int .u64 l1)))
 have HM:=Hd (zog HB1.out (show w.heap.size≤w.heap.size+1 by omega) (.int .u64 h1) (.int .u64 l1))
 clear hb1 K4 K9 hz
 go_wp2_with fail
 refine (zgv _ _ _ _ _).mono ?_
 rintro u w2 ⟨⟨h2,l2,rfl⟩,hb2⟩
 have N4:=Hd (Blk.below_ M4.out hb2)
 have HB2:=Hd (Below.next HM.out hb2 HM.out.size)
 obtain ⟨d0,d1,df⟩:=WideK.facts N4.out
 obtain ⟨e0,e1,ef⟩:=WideK.facts (WideK.put N4.out h2 l2)
 clear hb2 c0 c1 cf M4 HM J4 J9
 go_wp2
 refine bodyPost_ret (v:=.agg #[.int .u64 h2,.int .u64 l2]) (by simp (maxDischargeDepth:=9) [results,results293,go_sem,e0,e1]) rfl ?_
 exact ⟨WideR.of _ _,zog HB2.out (Nat.le_refl _) _ _⟩
theorem zpd (h l:Int) (b:Bool) (w:World):Calls prog 294 #[.agg #[.int .u64 h,.int .u64 l],.bool b] w fun u w'=>NumBR u∧Below w.heap.size w w':=by
 by_cases h1:h=0
 rotate_left
 ·have t1:(h != 0)=true:=by simpa using h1
  go_enter func294,ntmps294
  go_wp2
  go_ret2
  exact ⟨NumBR.of _ _,by go_grown⟩
 have t1:(h != 0)=false:=by simpa using h1
 clear h1
 by_cases h2:9223372036854775807<l
 ·skip
  go_enter func294,ntmps294
  go_wp2
  go_ret2
  exact ⟨NumBR.of _ _,by go_grown⟩
 cases b
 ·skip
  go_enter func294,ntmps294
  go_wp2
  go_ret2
  exact ⟨NumBR.of _ _,by go_grown⟩
 skip
 go_enter func294,ntmps294
 go_wp2
 go_ret2
 exact ⟨NumBR.of _ _,by go_grown⟩
theorem zpe (s:zaa) (k0:Nat) (w:World) (hs:s.length≤1000000) (h0:k0≤s.length):Calls prog 291 #[str s,.int .i64 k0] w fun u w'=>(∃k:Nat,u=.returned (.int .i64 k)∧k0≤k∧k≤s.length)∧w=w':=by
 go_enter func291,ntmps291
 go_wp2_with fail
 go_loopw [1] (fun v wr=>∃k:Nat,k0≤k∧k≤s.length∧v=.int .i64 k∧w=wr) (fun v _=>s.length-(intOf v).toNat)
 case atStart=>exact ⟨k0,Nat.le_refl _,h0,rfl,rfl⟩
 obtain ⟨k,hk0,hk,rfl,rfl⟩:=hrel
 have k0':(0:Int)≤(k:Int):=by omega
 by_cases hlt:k<s.length
 rotate_left
 ·have hk1:¬(k:Int)<(s.length:Int):=by omega
  go_wp2
  go_ret
  exact ⟨⟨k,rfl,hk0,hk⟩,rfl⟩
 have hk1:(k:Int)<(s.length:Int):=by omega
 have hx:=za2 s k (by rw [zad];exact hlt)
 generalize s.getD k 0=c at hx
 by_cases c1:48≤c.toNat
 rotate_left
 ·have c1':¬(48:Int)≤(c.toNat:Int):=by omega
  go_wp2
  go_ret
  exact ⟨⟨k,rfl,hk0,hk⟩,rfl⟩
 have c1':(48:Int)≤(c.toNat:Int):=by omega
 by_cases c2:c.toNat≤57
 rotate_left
 ·have c2':¬(c.toNat:Int)≤57:=by omega
  go_wp2
  go_ret
  exact ⟨⟨k,rfl,hk0,hk⟩,rfl⟩
 have c2':(c.toNat:Int)≤57:=by omega
 go_wp2
 exact ⟨⟨k+1,by omega,by omega,by go_num,by trivial⟩,by simp [intOf];omega⟩
theorem zuu (n:Int) (w:World):Calls prog 259 #[.int .i64 n] w fun u w'=>(∃(k n:Int) (x:zaa),u=.returned (.agg #[.int .u8 k,.int .i64 n,str x]))∧Below w.heap.size w w':=by
 by_cases h:n< -9223372036854775807
 ·have K0:=Hd (Blk.new w 189 #[.int .u8 0,.int .i64 0,.string ⟨#[]⟩])
  go_enter func259,ntmps259
  go_wp2_with fail
  refine (zjr 3 (by omega) (by omega) _).mono ?_
  rintro u w1 ⟨rfl,hb1⟩
  have K1:=Hd (K0.out.below_ hb1)
  have HB1:=Hd (show Below w.heap.size w w1 from nxt hb1)
  have q0:w1.cell? ⟨w.heap.size,0,none⟩=some (.int .u8 0):=K1.out.cell 0
  have q1:w1.cell? ⟨w.heap.size,1,none⟩=some (.int .i64 0):=K1.out.cell 1
  have q2:w1.cell? ⟨w.heap.size,2,none⟩=some (.string ⟨#[]⟩):=K1.out.cell 2
  have qf:=fun o=>K1.out.frozen o
  clear hb1
  go_wp2
  refine bodyPost_ret (v:=.agg #[.int .u8 4,.int .i64 3,str []]) (by simp (maxDischargeDepth:=9) [results,results259,go_sem,q0,q1,q2]) rfl ?_
  exact ⟨⟨_,_,_,rfl⟩,((HB1.out.setCell (Nat.le_refl _) _).setCell (Nat.le_refl _) _).setCell (Nat.le_refl _) _⟩
 refine (zuk n w (by omega)).mono ?_
 rintro u w1 ⟨rfl,hb1⟩
 exact ⟨⟨_,_,_,rfl⟩,hb1⟩
theorem long_5 (s:Scp) (e r g l x o:Value) (B:Nat) (w:World) (hB:B≤w.heap.size) (hb:RdScp w B s e r g l x o) (hr:Reach s) (P1:¬(160:Int)<(s.book.entries.length:Int)+(s.book.rules.length:Int)+(s.book.grants.length:Int)+(s.book.log.length:Int)+(s.book.releases.length:Int))(P2:¬(300:Int)<(s.ops.length:Int)):
 Calls prog 9 #[vScp s e r g l x o] w fun u w'=>u=.returned (.bool (zds s))∧Below w.heap.size w w':=by
 obtain ⟨Ae,ce,rfl, -⟩:=id hb.book.ents
 obtain ⟨Ar,cr,rfl, -⟩:=id hb.book.ruls
 obtain ⟨Ag,cg,rfl, -⟩:=id hb.book.grts
 obtain ⟨Al,cl,rfl, -⟩:=id hb.book.evts
 obtain ⟨Ax,cx,rfl, -⟩:=id hb.book.rlss
 obtain ⟨Ao,co,rfl, -⟩:=id hb.ops
 obtain ⟨q1,q2,q3,q4⟩:=zqs hr
 have HR:=Hd hr
 have HB:=Hd (show RdScp w B s _ _ _ _ _ _ from hb)
 clear hb hr
 have P1S:=zt0 P1
 have HS:=Hd (head_4 P1S P2)
 clear P1S
 have f1:((160:Int)<(s.book.entries.length:Int)+(s.book.rules.length:Int)+(s.book.grants.length:Int)+(s.book.log.length:Int)+(s.book.releases.length:Int))=False:=eq_false P1
 have f2:((300:Int)<(s.ops.length:Int))=False:=eq_false P2
 clear P1 P2
 go_enter func9,ntmps9
 go_wp2_with fail
 clear q1 q2 q3 q4 f1 f2
 go_loopw [4] (fun i wr=>∃k:Nat,k≤s.book.entries.length∧i=.int .i64 k∧(s.book.entries.take k).any (fun x=>decide (600<x.input.length))=false∧(Blk wr w.heap.size 31 #[.int .i64 s.book.users,.slice Ae s.book.entries.length ce,.slice Ar s.book.rules.length cr,.slice Ag s.book.grants.length cg,.slice Al s.book.log.length cl,.slice Ax s.book.releases.length cx,.int .i64 s.book.step,.slice Ao s.ops.length co]∧Blk wr (w.heap.size+1) 28 #[.int .i64 s.book.users,.slice Ae s.book.entries.length ce,.slice Ar s.book.rules.length cr,.slice Ag s.book.grants.length cg,.slice Al s.book.log.length cl,.slice Ax s.book.releases.length cx,.int .i64 s.book.step]∧Below w.heap.size w wr)) (fun i _=>s.book.entries.length-(intOf i).toNat)
 case atStart=>exact ⟨0,by omega,rfl,by simp,(Blk.new w _ _).alloc _,by simpa using Blk.new (w.alloc _) 28 _,by go_grown⟩
 obtain ⟨k,hk,rfl,ha,ka,kb,hbw⟩:=hrel
 have HA:=Hd ha
 have KA:=Hd ka
 have KB:=Hd kb
 have HW:=Hd hbw
 have y1:=kb.cell 1
 have z7:=ka.cell 7
 clear ha ka kb hbw
 by_cases hlt:k<s.book.entries.length
 ·have hx:s.book.entries[k]?=some s.book.entries[k]:=List.getElem?_eq_getElem hlt
  have HK:=Hd (show k+1≤s.book.entries.length from hlt)
  have HW1:=Hd (ze0 HR.out.n1 hlt)
  obtain ⟨b1,o1,rfl,_,r1⟩:=(HB.out.book.ents.below (HW.out.mono hB)).get 3 zbw hx
  have HX:=Hd hx
  clear hx
  generalize s.book.entries[k]=x at *
  have r2:wr.cell? ⟨b1,o1+k*3+2,none⟩=some (str x.input):=r1 2 _ rfl
  clear r1
  by_cases hin:(600:Int)<(x.input.length:Int)
  ·go_wp2
   go_ret
   exact ⟨by rw [zns (zoi _ HX.out (decide_eq_true (by omega)))];rfl,HW.out⟩
  go_wp2
  exact ⟨⟨k+1,HK.out,zgs HW1.out,zg1 _ HX.out HA.out (decide_eq_false (by omega)),KA.out,KB.out,HW.out⟩,zft HW1.out HK.out⟩
 have hke:k=s.book.entries.length:=by omega
 subst hke
 have he:=HA.out
 rw [List.take_length] at he
 have HE:=Hd he
 clear he HA
 go_wp2
 go_loopw [5] (fun i wr=>∃k:Nat,k≤s.ops.length∧i=.int .i64 k∧(s.ops.take k).any (fun x=>decide (600<x.input.length))=false∧(Blk wr w.heap.size 31 #[.int .i64 s.book.users,.slice Ae s.book.entries.length ce,.slice Ar s.book.rules.length cr,.slice Ag s.book.grants.length cg,.slice Al s.book.log.length cl,.slice Ax s.book.releases.length cx,.int .i64 s.book.step,.slice Ao s.ops.length co]∧Blk wr (w.heap.size+1) 28 #[.int .i64 s.book.users,.slice Ae s.book.entries.length ce,.slice Ar s.book.rules.length cr,.slice Ag s.book.grants.length cg,.slice Al s.book.log.length cl,.slice Ax s.book.releases.length cx,.int .i64 s.book.step]∧Below w.heap.size w wr)) (fun i _=>s.ops.length-(intOf i).toNat)
 case atStart=>exact ⟨0,by omega,rfl,by simp,KA.out,KB.out,HW.out⟩
 clear KA KB HW y1 z7
 obtain ⟨k,hk,rfl,ha,ka,kb,hbw⟩:=hrel
 have HA:=Hd ha
 have KA:=Hd ka
 have KB:=Hd kb
 have HW:=Hd hbw
 have z7:=ka.cell 7
 clear ha ka kb hbw
 by_cases hlt:k<s.ops.length
 ·have hx:s.ops[k]?=some s.ops[k]:=List.getElem?_eq_getElem hlt
  have HK:=Hd (show k+1≤s.ops.length from hlt)
  have HW1:=Hd (ze0 HR.out.n6 hlt)
  obtain ⟨b1,o1,rfl,_,r1⟩:=(HB.out.ops.below (HW.out.mono hB)).get 13 zdl hx
  have HX:=Hd hx
  clear hx
  generalize s.ops[k]=x at *
  have r2:wr.cell? ⟨b1,o1+k*13+6,none⟩=some (str x.input):=r1 6 _ rfl
  clear r1
  by_cases hin:(600:Int)<(x.input.length:Int)
  ·go_wp2
   go_ret
   exact ⟨by rw [znq (zoi _ HX.out (decide_eq_true (by omega)))];rfl,HW.out⟩
  go_wp2
  exact ⟨⟨k+1,HK.out,zgs HW1.out,zg1 _ HX.out HA.out (decide_eq_false (by omega)),KA.out,KB.out,HW.out⟩,zft HW1.out HK.out⟩
 have hke:k=s.ops.length:=by omega
 subst hke
 have he:=HA.out
 rw [List.take_length] at he
 go_wp2
 go_ret
 exact ⟨by rw [znr HS.out HE.out he];rfl,HW.out⟩
end Go.Proofs.YtamcgggmfghljaaGreatDoor
