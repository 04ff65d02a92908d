/- Layer 41 (reference): the writer writes an operation (printed by tools/gen_rwe.py). -/
import Derived.Test.YtamcgggmfghljaaGreatDoorD37
import Derived.Test.YtamcgggmfghljaaGreatDoorD46
set_option maxRecDepth 100000
set_option maxHeartbeats 8000000
open Go.Proofs.Tryz
namespace Go.Proofs.YtamcgggmfghljaaGreatDoor
open Go.RowKit
theorem WS.below {W0 W W1:World} {p g:Nat} {v0 v:Value} {T:TypeId} {cs:Array Value} {l:zaa} (h:WS W0 p v0 g T cs W v l) (k:Below W.heap.size W W1):WS W0 p v0 g T cs W1 v l:=
 ⟨h.wr.below k,h.to_.below k,h.kb.below_ k,h.ne,h.gp⟩
theorem zr3:∀a b c d e f g:Bool,bits .and .i64 ((zjx a b c d e f g:Nat):Int) 1=(if a then 1 else 0)∧bits .and .i64 ((zjx a b c d e f g:Nat):Int) 2=(if b then 2 else 0)∧bits .and .i64 ((zjx a b c d e f g:Nat):Int) 4=(if c then 4 else 0)∧bits .and .i64 ((zjx a b c d e f g:Nat):Int) 8=(if d then 8 else 0)∧bits .and .i64 ((zjx a b c d e f g:Nat):Int) 16=(if e then 16 else 0)∧bits .and .i64 ((zjx a b c d e f g:Nat):Int) 32=(if f then 32 else 0)∧bits .and .i64 ((zjx a b c d e f g:Nat):Int) 64=(if g then 64 else 0):=by decide+kernel
theorem zyz (a b c d e f g:Bool) (A B C D E F G:zaa):zc9 [(a,A),(b,B),(c,C),(d,D),(e,E),(f,F),(g,G)]=((zjx a b c d e f g:Nat):Int):=by
 simp only [zc9,zjx]
 cases a <;> cases b <;> cases c <;> cases d <;> cases e <;> cases f <;> cases g <;> rfl
theorem zvg (x:Opr):bits .and .i64 (zc9 (oprF x)) 1=(if decide (¬x.user=0) then 1 else 0)∧bits .and .i64 (zc9 (oprF x)) 2=(if decide (¬x.rect=⟨0,0,0,0⟩) then 2 else 0)∧bits .and .i64 (zc9 (oprF x)) 4=(if decide (¬x.input=[]) then 4 else 0)∧bits .and .i64 (zc9 (oprF x)) 8=(if decide (¬x.rights=⟨0,0,0⟩) then 8 else 0)∧bits .and .i64 (zc9 (oprF x)) 16=(if decide (¬x.fns=0) then 16 else 0)∧bits .and .i64 (zc9 (oprF x)) 32=(if decide (¬x.to_=0) then 32 else 0)∧bits .and .i64 (zc9 (oprF x)) 64=(if decide (¬x.index=0) then 64 else 0):=by
 unfold oprF
 rw [zyz]
 exact zr3 _ _ _ _ _ _ _
theorem zyl (x:Opr):oprB x=numI x.kind++numI (zc9 (oprF x))++mkS x 7:=rfl
theorem mkS_0 (x:Opr):mkS x 1=mkS x 0++if x.user=0 then [] else numI x.user:=by
 by_cases h:x.user=0
 ·rw [if_pos h,List.append_nil]
  exact (zb0 x 0 (numI x.user) (by rw [show (oprF x)[0]?=some (decide (¬x.user=0),numI x.user) from rfl,decide_eq_false (by simpa using h)])).2
 rw [if_neg h]
 exact (zcq x 0 (numI x.user) (by decide) (by rw [show (oprF x)[0]?=some (decide (¬x.user=0),numI x.user) from rfl,decide_eq_true h])).2
theorem mkS_1 (x:Opr):mkS x 2=mkS x 1++if x.rect=⟨0,0,0,0⟩ then [] else za7 x.rect:=by
 by_cases h:x.rect=⟨0,0,0,0⟩
 ·rw [if_pos h,List.append_nil]
  exact (zb0 x 1 (za7 x.rect) (by rw [show (oprF x)[1]?=some (decide (¬x.rect=⟨0,0,0,0⟩),za7 x.rect) from rfl,decide_eq_false (by simpa using h)])).2
 rw [if_neg h]
 exact (zcq x 1 (za7 x.rect) (by decide) (by rw [show (oprF x)[1]?=some (decide (¬x.rect=⟨0,0,0,0⟩),za7 x.rect) from rfl,decide_eq_true h])).2
theorem mkS_2 (x:Opr):mkS x 3=mkS x 2++if x.input=[] then [] else zcy x.input:=by
 by_cases h:x.input=[]
 ·rw [if_pos h,List.append_nil]
  exact (zb0 x 2 (zcy x.input) (by rw [show (oprF x)[2]?=some (decide (¬x.input=[]),zcy x.input) from rfl,decide_eq_false (by simpa using h)])).2
 rw [if_neg h]
 exact (zcq x 2 (zcy x.input) (by decide) (by rw [show (oprF x)[2]?=some (decide (¬x.input=[]),zcy x.input) from rfl,decide_eq_true h])).2
theorem mkS_3 (x:Opr):mkS x 4=mkS x 3++if x.rights=⟨0,0,0⟩ then [] else zcb x.rights:=by
 by_cases h:x.rights=⟨0,0,0⟩
 ·rw [if_pos h,List.append_nil]
  exact (zb0 x 3 (zcb x.rights) (by rw [show (oprF x)[3]?=some (decide (¬x.rights=⟨0,0,0⟩),zcb x.rights) from rfl,decide_eq_false (by simpa using h)])).2
 rw [if_neg h]
 exact (zcq x 3 (zcb x.rights) (by decide) (by rw [show (oprF x)[3]?=some (decide (¬x.rights=⟨0,0,0⟩),zcb x.rights) from rfl,decide_eq_true h])).2
theorem mkS_4 (x:Opr):mkS x 5=mkS x 4++if x.fns=0 then [] else numI x.fns:=by
 by_cases h:x.fns=0
 ·rw [if_pos h,List.append_nil]
  exact (zb0 x 4 (numI x.fns) (by rw [show (oprF x)[4]?=some (decide (¬x.fns=0),numI x.fns) from rfl,decide_eq_false (by simpa using h)])).2
 rw [if_neg h]
 exact (zcq x 4 (numI x.fns) (by decide) (by rw [show (oprF x)[4]?=some (decide (¬x.fns=0),numI x.fns) from rfl,decide_eq_true h])).2
theorem mkS_5 (x:Opr):mkS x 6=mkS x 5++if x.to_=0 then [] else numI x.to_:=by
 by_cases h:x.to_=0
 ·rw [if_pos h,List.append_nil]
  exact (zb0 x 5 (numI x.to_) (by rw [show (oprF x)[5]?=some (decide (¬x.to_=0),numI x.to_) from rfl,decide_eq_false (by simpa using h)])).2
 rw [if_neg h]
 exact (zcq x 5 (numI x.to_) (by decide) (by rw [show (oprF x)[5]?=some (decide (¬x.to_=0),numI x.to_) from rfl,decide_eq_true h])).2
theorem mkS_6 (x:Opr):mkS x 7=mkS x 6++if x.index=0 then [] else numI x.index:=by
 by_cases h:x.index=0
 ·rw [if_pos h,List.append_nil]
  exact (zb0 x 6 (numI x.index) (by rw [show (oprF x)[6]?=some (decide (¬x.index=0),numI x.index) from rfl,decide_eq_false (by simpa using h)])).2
 rw [if_neg h]
 exact (zcq x 6 (numI x.index) (by decide) (by rw [show (oprF x)[6]?=some (decide (¬x.index=0),numI x.index) from rfl,decide_eq_true h])).2
theorem rw_op (p:Nat) (v:Value) (l:zaa) (x:Opr) (W:World) (h:WrAt W p v l) (hx:OkOpr x) (hi:x.input.length≤1000000) (hl:l.length≤1000000000):
 Calls prog 30 #[.pointer (some ⟨p,0,none⟩),.agg #[.int .u8 x.kind,.int .i64 x.user,.int .i64 x.rect.c1,.int .i64 x.rect.r1,.int .i64 x.rect.c2,.int .i64 x.rect.r2,str x.input,.int .u64 x.rights.rd,.int .u64 x.rights.wr,.int .u64 x.rights.ow,.int .u8 x.fns,.int .u64 x.to_,.int .i64 x.index]] W fun u W'=>u=.returned (.tuple #[])∧∃v',WrAt W' p v' (l++oprB x)∧WTo p W v W' v':=by
 have HX:=Hd hx
 have HS0:=Hd (WS.start h 48 #[.int .u8 x.kind,.int .i64 x.user,.int .i64 x.rect.c1,.int .i64 x.rect.r1,.int .i64 x.rect.c2,.int .i64 x.rect.r2,str x.input,.int .u64 x.rights.rd,.int .u64 x.rights.wr,.int .u64 x.rights.ow,.int .u8 x.fns,.int .u64 x.to_,.int .i64 x.index])
 have hg0:=HS0.out.kb.lt
 have k0:=hx.kind.1
 have k1:=hx.kind.2
 have n0:=hx.fns.1
 have n1:=hx.fns.2
 have HM:=Hd (zfs x hi)
 have HE:=Hd (zyl x)
 have HA:=Hd (zvg x)
 have ml1:=zab x.kind
 have ml2:=zab (zc9 (oprF x))
 clear h hx
 go_enter func30,ntmps30
 go_wp2_with fail
 refine (r_mask x.kind x.user x.rect.c1 x.rect.r1 x.rect.c2 x.rect.r2 x.input x.rights.rd x.rights.wr x.rights.ow x.fns x.to_ x.index _).mono ?_
 rintro u w1 ⟨rfl,hb1⟩
 have HS1:=Hd (HS0.out.below hb1)
 have c0:=HS1.out.kb.cell 0
 have hg1:=HS1.out.kb.lt
 clear hb1 HS0
 rw [show (⟨x.kind,x.user,⟨x.rect.c1,x.rect.r1,x.rect.c2,x.rect.r2⟩,x.input,⟨x.rights.rd,x.rights.wr,x.rights.ow⟩,x.fns,x.to_,x.index⟩:Opr)=x from rfl]
 generalize zc9 (oprF x)=m at *
 go_wp2_with fail
 refine (zdo p _ _ x.kind _ k0 (by omega) HS1.out.wr (by omega)).mono ?_
 rintro u w2 ⟨rfl,v2,h2,t2⟩
 have HS2:=Hd (HS1.out.next h2 t2)
 have hg2:=HS2.out.kb.lt
 clear h2 t2 HS1
 try clear c0
 go_wp2_with fail
 refine (zbs p _ _ m _ HS2.out.wr (by rw [List.length_append];omega)).mono ?_
 rintro u w3 ⟨rfl,v3,h3,t3⟩
 have HS:=Hd (HS2.out.next h3 t3)
 have hgs:=HS.out.kb.lt
 clear h3 t3 HS2
 try clear c0
 try clear hg1
 try clear hg2
 rw [List.append_assoc] at HS
 obtain ⟨L,hL⟩:∃L,l++(numI x.kind++numI m)=L:=⟨_,rfl⟩
 have hLl:L.length≤1000000018:=by rw [← hL,List.length_append,List.length_append];omega
 rw [hL] at HS
 have HL:=Hd (show l++(numI x.kind++numI m++mkS x 7)=L++mkS x 7 by rw [← hL,List.append_assoc,List.append_assoc,List.append_assoc])
 clear hL
 rw [show L=L++mkS x 0 from (List.append_nil L).symm] at HS
 go_upto_if 17 with (fail)
 go_cut [4] from 5 (fun u4 wx=>u4=.int .i64 m∧∃v',WS W p v W.heap.size 48 #[.int .u8 x.kind,.int .i64 x.user,.int .i64 x.rect.c1,.int .i64 x.rect.r1,.int .i64 x.rect.c2,.int .i64 x.rect.r2,str x.input,.int .u64 x.rights.rd,.int .u64 x.rights.wr,.int .u64 x.rights.ow,.int .u8 x.fns,.int .u64 x.to_,.int .i64 x.index] wx v' (L++mkS x 1))
 case first=>
  have hml:=HM.out 0
  have hLm:(L++mkS x 0).length≤2000000000:=by rw [List.length_append];omega
  have hMS:=mkS_0 x
  by_cases hc:x.user=0
  ·have hbit:bits .and .i64 m 1=0:=by
    have e:=HA.out.1
    rw [e]
    simp [hc]
   rw [if_pos hc,List.append_nil] at hMS
   have HMS:=Hd hMS
   clear hMS hc
   go_wp2
   go_meet
   exact ⟨rfl,_,by rw [HMS.out];exact HS.out⟩
  have hbit:bits .and .i64 m 1=1:=by
   have e:=HA.out.1
   rw [e]
   simp [hc]
  rw [if_neg hc] at hMS
  have HMS:=Hd hMS
  clear hMS hc
  have c1:=HS.out.kb.cell 1
  go_wp2_with fail
  refine (zbs p _ _ x.user _ HS.out.wr (by omega)).mono ?_
  rintro u w4 ⟨rfl,v4,h4,t4⟩
  have HS4:=Hd (HS.out.next h4 t4)
  clear h4 t4
  rw [List.append_assoc,← HMS.out] at HS4
  go_wp2
  go_meet
  exact ⟨rfl,_,HS4.out⟩
 obtain ⟨rfl,v5,hs⟩:=hcut
 clear HS hgs
 have HS:=Hd hs
 have hgs:=HS.out.kb.lt
 clear hs
 go_upto_if 24 with (fail)
 go_cut [4] from 5 (fun u4 wx=>u4=.int .i64 m∧∃v',WS W p v W.heap.size 48 #[.int .u8 x.kind,.int .i64 x.user,.int .i64 x.rect.c1,.int .i64 x.rect.r1,.int .i64 x.rect.c2,.int .i64 x.rect.r2,str x.input,.int .u64 x.rights.rd,.int .u64 x.rights.wr,.int .u64 x.rights.ow,.int .u8 x.fns,.int .u64 x.to_,.int .i64 x.index] wx v' (L++mkS x 2))
 case first=>
  have hml:=HM.out 1
  have hLm:(L++mkS x 1).length≤2000000000:=by rw [List.length_append];omega
  have hMS:=mkS_1 x
  by_cases hc:x.rect=⟨0,0,0,0⟩
  ·have hbit:bits .and .i64 m 2=0:=by
    have e:=HA.out.2.1
    rw [e]
    simp [hc]
   rw [if_pos hc,List.append_nil] at hMS
   have HMS:=Hd hMS
   clear hMS hc
   go_wp2
   go_meet
   exact ⟨rfl,_,by rw [HMS.out];exact HS.out⟩
  have hbit:bits .and .i64 m 2=2:=by
   have e:=HA.out.2.1
   rw [e]
   simp [hc]
  rw [if_neg hc] at hMS
  have HMS:=Hd hMS
  clear hMS hc
  have c2:=HS.out.kb.cell 2
  have c3:=HS.out.kb.cell 3
  have c4:=HS.out.kb.cell 4
  have c5:=HS.out.kb.cell 5
  go_wp2_with fail
  refine (zhc p _ _ x.rect _ HS.out.wr (by omega)).mono ?_
  rintro u w4 ⟨rfl,v4,h4,t4⟩
  have HS4:=Hd (HS.out.next h4 t4)
  clear h4 t4
  rw [List.append_assoc,← HMS.out] at HS4
  go_wp2
  go_meet
  exact ⟨rfl,_,HS4.out⟩
 obtain ⟨rfl,v5,hs⟩:=hcut
 clear HS hgs
 have HS:=Hd hs
 have hgs:=HS.out.kb.lt
 clear hs
 go_upto_if 31 with (fail)
 go_cut [4] from 5 (fun u4 wx=>u4=.int .i64 m∧∃v',WS W p v W.heap.size 48 #[.int .u8 x.kind,.int .i64 x.user,.int .i64 x.rect.c1,.int .i64 x.rect.r1,.int .i64 x.rect.c2,.int .i64 x.rect.r2,str x.input,.int .u64 x.rights.rd,.int .u64 x.rights.wr,.int .u64 x.rights.ow,.int .u8 x.fns,.int .u64 x.to_,.int .i64 x.index] wx v' (L++mkS x 3))
 case first=>
  have hml:=HM.out 2
  have hLm:(L++mkS x 2).length≤2000000000:=by rw [List.length_append];omega
  have hMS:=mkS_2 x
  by_cases hc:x.input=[]
  ·have hbit:bits .and .i64 m 4=0:=by
    have e:=HA.out.2.2.1
    rw [e]
    simp [hc]
   rw [if_pos hc,List.append_nil] at hMS
   have HMS:=Hd hMS
   clear hMS hc
   go_wp2
   go_meet
   exact ⟨rfl,_,by rw [HMS.out];exact HS.out⟩
  have hbit:bits .and .i64 m 4=4:=by
   have e:=HA.out.2.2.1
   rw [e]
   simp [hc]
  rw [if_neg hc] at hMS
  have HMS:=Hd hMS
  clear hMS hc
  have c6:=HS.out.kb.cell 6
  go_wp2_with fail
  refine (zqv p _ _ x.input _ HS.out.wr (by omega) (by omega)).mono ?_
  rintro u w4 ⟨rfl,v4,h4,t4⟩
  have HS4:=Hd (HS.out.next h4 t4)
  clear h4 t4
  rw [List.append_assoc,← HMS.out] at HS4
  go_wp2
  go_meet
  exact ⟨rfl,_,HS4.out⟩
 obtain ⟨rfl,v5,hs⟩:=hcut
 clear HS hgs
 have HS:=Hd hs
 have hgs:=HS.out.kb.lt
 clear hs
 go_upto_if 38 with (fail)
 go_cut [4] from 5 (fun u4 wx=>u4=.int .i64 m∧∃v',WS W p v W.heap.size 48 #[.int .u8 x.kind,.int .i64 x.user,.int .i64 x.rect.c1,.int .i64 x.rect.r1,.int .i64 x.rect.c2,.int .i64 x.rect.r2,str x.input,.int .u64 x.rights.rd,.int .u64 x.rights.wr,.int .u64 x.rights.ow,.int .u8 x.fns,.int .u64 x.to_,.int .i64 x.index] wx v' (L++mkS x 4))
 case first=>
  have hml:=HM.out 3
  have hLm:(L++mkS x 3).length≤2000000000:=by rw [List.length_append];omega
  have hMS:=mkS_3 x
  by_cases hc:x.rights=⟨0,0,0⟩
  ·have hbit:bits .and .i64 m 8=0:=by
    have e:=HA.out.2.2.2.1
    rw [e]
    simp [hc]
   rw [if_pos hc,List.append_nil] at hMS
   have HMS:=Hd hMS
   clear hMS hc
   go_wp2
   go_meet
   exact ⟨rfl,_,by rw [HMS.out];exact HS.out⟩
  have hbit:bits .and .i64 m 8=8:=by
   have e:=HA.out.2.2.2.1
   rw [e]
   simp [hc]
  rw [if_neg hc] at hMS
  have HMS:=Hd hMS
  clear hMS hc
  have c7:=HS.out.kb.cell 7
  have c8:=HS.out.kb.cell 8
  have c9:=HS.out.kb.cell 9
  go_wp2_with fail
  refine (zks p _ _ x.rights ⟨HX.out.rights.rd.1,HX.out.rights.rd.2,HX.out.rights.wr.1,HX.out.rights.wr.2,HX.out.rights.ow.1,HX.out.rights.ow.2⟩ _ HS.out.wr (by omega)).mono ?_
  rintro u w4 ⟨rfl,v4,h4,t4⟩
  have HS4:=Hd (HS.out.next h4 t4)
  clear h4 t4
  rw [List.append_assoc,← HMS.out] at HS4
  go_wp2
  go_meet
  exact ⟨rfl,_,HS4.out⟩
 obtain ⟨rfl,v5,hs⟩:=hcut
 clear HS hgs
 have HS:=Hd hs
 have hgs:=HS.out.kb.lt
 clear hs
 go_upto_if 45 with (fail)
 go_cut [4] from 5 (fun u4 wx=>u4=.int .i64 m∧∃v',WS W p v W.heap.size 48 #[.int .u8 x.kind,.int .i64 x.user,.int .i64 x.rect.c1,.int .i64 x.rect.r1,.int .i64 x.rect.c2,.int .i64 x.rect.r2,str x.input,.int .u64 x.rights.rd,.int .u64 x.rights.wr,.int .u64 x.rights.ow,.int .u8 x.fns,.int .u64 x.to_,.int .i64 x.index] wx v' (L++mkS x 5))
 case first=>
  have hml:=HM.out 4
  have hLm:(L++mkS x 4).length≤2000000000:=by rw [List.length_append];omega
  have hMS:=mkS_4 x
  by_cases hc:x.fns=0
  ·have hbit:bits .and .i64 m 16=0:=by
    have e:=HA.out.2.2.2.2.1
    rw [e]
    simp [hc]
   rw [if_pos hc,List.append_nil] at hMS
   have HMS:=Hd hMS
   clear hMS hc
   go_wp2
   go_meet
   exact ⟨rfl,_,by rw [HMS.out];exact HS.out⟩
  have hbit:bits .and .i64 m 16=16:=by
   have e:=HA.out.2.2.2.2.1
   rw [e]
   simp [hc]
  rw [if_neg hc] at hMS
  have HMS:=Hd hMS
  clear hMS hc
  have c10:=HS.out.kb.cell 10
  go_wp2_with fail
  refine (zdo p _ _ x.fns _ (by omega) (by omega) HS.out.wr (by omega)).mono ?_
  rintro u w4 ⟨rfl,v4,h4,t4⟩
  have HS4:=Hd (HS.out.next h4 t4)
  clear h4 t4
  rw [List.append_assoc,← HMS.out] at HS4
  go_wp2
  go_meet
  exact ⟨rfl,_,HS4.out⟩
 obtain ⟨rfl,v5,hs⟩:=hcut
 clear HS hgs
 have HS:=Hd hs
 have hgs:=HS.out.kb.lt
 clear hs
 go_upto_if 53 with (fail)
 go_cut [4] from 5 (fun u4 wx=>u4=.int .i64 m∧∃v',WS W p v W.heap.size 48 #[.int .u8 x.kind,.int .i64 x.user,.int .i64 x.rect.c1,.int .i64 x.rect.r1,.int .i64 x.rect.c2,.int .i64 x.rect.r2,str x.input,.int .u64 x.rights.rd,.int .u64 x.rights.wr,.int .u64 x.rights.ow,.int .u8 x.fns,.int .u64 x.to_,.int .i64 x.index] wx v' (L++mkS x 6))
 case first=>
  have hml:=HM.out 5
  have hLm:(L++mkS x 5).length≤2000000000:=by rw [List.length_append];omega
  have hMS:=mkS_5 x
  by_cases hc:x.to_=0
  ·have hbit:bits .and .i64 m 32=0:=by
    have e:=HA.out.2.2.2.2.2.1
    rw [e]
    simp [hc]
   rw [if_pos hc,List.append_nil] at hMS
   have HMS:=Hd hMS
   clear hMS hc
   go_wp2
   go_meet
   exact ⟨rfl,_,by rw [HMS.out];exact HS.out⟩
  have hbit:bits .and .i64 m 32=32:=by
   have e:=HA.out.2.2.2.2.2.1
   rw [e]
   simp [hc]
  rw [if_neg hc] at hMS
  have HMS:=Hd hMS
  clear hMS hc
  have c11:=HS.out.kb.cell 11
  go_wp2_with fail
  refine (zdo p _ _ x.to_ _ HX.out.to_.1 HX.out.to_.2 HS.out.wr (by omega)).mono ?_
  rintro u w4 ⟨rfl,v4,h4,t4⟩
  have HS4:=Hd (HS.out.next h4 t4)
  clear h4 t4
  rw [List.append_assoc,← HMS.out] at HS4
  go_wp2
  go_meet
  exact ⟨rfl,_,HS4.out⟩
 obtain ⟨rfl,v5,hs⟩:=hcut
 clear HS hgs
 have HS:=Hd hs
 have hgs:=HS.out.kb.lt
 clear hs
 have hml:=HM.out 6
 have hLm:(L++mkS x 6).length≤2000000000:=by rw [List.length_append];omega
 have hMS:=mkS_6 x
 by_cases hc:x.index=0
 ·have hbit:bits .and .i64 m 64=0:=by
   have e:=HA.out.2.2.2.2.2.2
   rw [e]
   simp [hc]
  rw [if_pos hc,List.append_nil] at hMS
  have HMS:=Hd hMS
  clear hMS hc
  go_wp2
  refine bE ?_
  exact ⟨rfl,_,by rw [HE.out,HL.out,HMS.out];exact HS.out.wr,HS.out.to_⟩
 have hbit:bits .and .i64 m 64=64:=by
  have e:=HA.out.2.2.2.2.2.2
  rw [e]
  simp [hc]
 rw [if_neg hc] at hMS
 have HMS:=Hd hMS
 clear hMS hc
 have c12:=HS.out.kb.cell 12
 go_wp2_with fail
 refine (zbs p _ _ x.index _ HS.out.wr (by omega)).mono ?_
 rintro u w4 ⟨rfl,v4,h4,t4⟩
 have HS4:=Hd (HS.out.next h4 t4)
 clear h4 t4
 rw [List.append_assoc,← HMS.out] at HS4
 go_wp2
 refine bE ?_
 exact ⟨rfl,_,by rw [HE.out,HL.out];exact HS4.out.wr,HS4.out.to_⟩
theorem zjo (hc:zi7) (l:List Ent) (k:Nat) (y:Ent) (tv:Value) (B:Nat) (w:World) (hB:B≤w.heap.size) (ht:Sls cEnt w B tv l) (hl:l.length≤1000000) (hy:l[k]?=some y) (hin:y.input.length≤1000000):
 Calls prog 175 #[tv,.int .i64 k] w fun u w'=>u=.returned (.int .i64 (za6 (zbb l k) y))∧Below w.heap.size w w':=by
 obtain ⟨A,cap,rfl,hc1,hm1,ha1⟩:=id ht
 have HS:=Hd ht
 have HOF:=Hd (fun w=>ref_of hc y.input w hin)
 have hkl:k<l.length:=(List.getElem?_eq_some_iff.1 hy).1
 obtain ⟨b,o,hA,hb2,r⟩:=ht.get 3 zbw hy
 subst hA
 clear ht ha1 hc hin
 unfold maxLen at hm1
 have r0:w.cell? ⟨b,o+k*3,none⟩=some (.int .i64 y.at_.col):=r 0 _ rfl
 have r1:w.cell? ⟨b,o+k*3+1,none⟩=some (.int .i64 y.at_.row):=r 1 _ rfl
 have r2:w.cell? ⟨b,o+k*3+2,none⟩=some (str y.input):=r 2 _ rfl
 have hi0:(0:Int)≤(k:Int):=Int.natCast_nonneg _
 have hi1:(k:Int)<(l.length:Int):=by omega
 have hblt:b<w.heap.size:=by omega
 have RY:=Hd r
 clear r hy
 go_enter func175,ntmps175
 go_wp2_with fail
 refine (zhi _ _ _).mono ?_
 rintro u w2 ⟨rfl,hb2'⟩
 have HB2:=Hd hb2'
 have x2:w2.cell? ⟨b,o+k*3+2,none⟩=some (str y.input):=(hb2'.cell (p:=⟨b,o+k*3+2,none⟩) hblt).trans r2
 clear hb2' r0 r1 r2
 cases hv:za1 y.at_.col y.at_.row with
 | false=>
  have HY:=Hd (show za6 (zbb l k) y=3 by unfold za6;rw [if_pos hv])
  go_wp2
  go_ret
  exact ⟨by rw [HY.out];rfl,HB2.out⟩
 | true=>
 by_cases hk0:k=0
 ·subst hk0
  have HO:Hid (za6 (zbb l 0) y=if y.input=[] then 2 else ofE y.input):=Hd (by
   unfold za6
   rw [if_neg (by rw [hv];simp),if_neg (by simp [zbb])])
  have x2o:w2.cell? ⟨b,o+2,none⟩=some (str y.input):=by have:=x2;simpa using this
  go_wp2_with fail
  go_quiet (fail)
  have r2q:=(show (w2.drewN nq).cell? ⟨b,o+2,none⟩=some (str y.input) by have:=x2;simpa using this)
  by_cases hin:y.input=[]
  ·have HY:=Hd (HO.out.trans (if_pos hin))
   have bi:(y.input==([]:List UInt8))=true:=by simp [hin]
   clear hin
   go_wp2
   go_ret
   exact ⟨by rw [HY.out];rfl,(Below.drewN_ HB2.out _)⟩
  have bi:(y.input==([]:List UInt8))=false:=by simpa using hin
  have HY:=Hd (HO.out.trans (if_neg hin))
  clear hin
  go_wp2_with fail
  refine (HOF.out _).mono ?_
  rintro u w5 ⟨⟨b5,k5,n5,x5,A5,l5,c5,p5,rfl⟩,hb5⟩
  have HB5:=Hd (Below.next (Below.drewN_ HB2.out _) hb5 ((Below.drewN_ HB2.out _)).size)
  have HB6:=Hd (HB5.out.alloc HB5.out.size (.cells #[.bool b5,.int .u8 k5,.int .i64 n5,str x5,.slice A5 l5 c5] 192))
  clear hb5
  go_wp2
  go_ret
  exact ⟨by rw [HY.out];rfl,HB6.out⟩
 obtain ⟨m,hm⟩:∃m,k=m+1:=⟨k-1,by omega⟩
 obtain ⟨z,hz⟩:∃z,l[m]?=some z:=⟨_,List.getElem?_eq_getElem (by omega)⟩
 obtain ⟨b4,o4,hA4,hb4,r4⟩:=HS.out.get 3 zbw hz
 have HPR:=Hd (show zbb l k=some z by unfold zbb;rw [if_neg hk0,show k-1=m by omega];exact hz)
 injection hA4 with hA4
 injection hA4 with e1 e2
 subst e1 e2
 have HO:Hid (za6 (zbb l k) y=if zgb z.at_ y.at_=false then 12 else if y.input=[] then 2 else ofE y.input):=Hd (by
  unfold za6
  rw [if_neg (by rw [hv];simp),HPR.out]
  simp only [Option.map_some,Option.some.injEq])
 have RR:=Hd r4
 have LZ:=Hd (show ∀W:World,Below w2.heap.size w2 W→W.rangeAt b (o+m*3) [.int .i64 z.at_.col,.int .i64 z.at_.row] from fun W h=>by
  intro j v hj
  refine (h.cell (p:=⟨b,o+m*3+j,none⟩) (Nat.lt_of_lt_of_le hblt HB2.out.size)).trans ((HB2.out.cell (p:=⟨b,o+m*3+j,none⟩) hblt).trans (RR.out j v ?_))
  rcases j with _ | _ | j
  ·exact hj
  ·exact hj
  simp at hj)
 have LY:=Hd (show ∀W:World,Below w2.heap.size w2 W→W.rangeAt b (o+k*3) [.int .i64 y.at_.col,.int .i64 y.at_.row] from fun W h=>by
  intro j v hj
  refine (h.cell (p:=⟨b,o+k*3+j,none⟩) (Nat.lt_of_lt_of_le hblt HB2.out.size)).trans ((HB2.out.cell (p:=⟨b,o+k*3+j,none⟩) hblt).trans (RY.out j v ?_))
  rcases j with _ | _ | j
  ·exact hj
  ·exact hj
  simp at hj)
 have hm0:(0:Int)≤(m:Int):=Int.natCast_nonneg _
 have hm1':(m:Int)<(l.length:Int):=by omega
 have hkm:(k:Int)-1=(m:Int):=by omega
 have hkp:(0:Int)<(k:Int):=by omega
 have hkp2:0<k:=by omega
 have HM:=Hd hm
 clear r4 hz HPR hm
 go_upto_region 3 with (fail)
 refine wp_region_noPanic ?_
 refine wp_region_held_drew (S:=fun W=>Below w2.heap.size w2 W) (by kernel_rfl) (Below.refl _ _).drew (fun hHeld=>?_)
 refine tH 0 ⟨some 15,.move (.tmp 1),3,_,_,none⟩ (.int .i64 k) rfl hHeld ?_
 try go_frame
 refine tH 1 ⟨some 16,.binOp .gtr 3 (.tmp 15) (.const (.int .i64 0)) 3,4,_,_,none⟩ (.bool true) rfl hHeld ?_
 try go_frame
 refine tH 2 ⟨some 17,.move (.tmp 16),4,_,_,none⟩ (.bool true) rfl hHeld ?_
 try go_frame
 refine tH 3 ⟨some 18,.move (.tmp 0),22,_,_,some (2,true)⟩ (.slice (some ⟨b,o,none⟩) l.length cap) rfl hHeld ?_
 try go_frame
 refine tH 4 ⟨some 19,.move (.tmp 1),3,_,_,some (2,true)⟩ (.int .i64 k) rfl hHeld ?_
 try go_frame
 refine tH 5 ⟨some 20,.binOp .sub 3 (.tmp 19) (.const (.int .i64 1)) 3,3,_,_,some (2,true)⟩ (.int .i64 m) rfl hHeld ?_ (hy:=Or.inl ⟨by rfl,by intro W hW;go_simp;rw [IntKind.wrap_i64];omega⟩)
 try go_frame
 refine tH 6 ⟨some 21,.indexAddr 22 (.tmp 18) (.tmp 20),_,_,_,some (2,true)⟩ (.pointer (some ⟨b,o+m*3,none⟩)) rfl hHeld ?_
 try go_frame
 refine tH 7 ⟨some 22,.fieldAddr 58 (.tmp 21) 0,_,_,_,some (2,true)⟩ (.pointer (some ⟨b,o+m*3,none⟩)) rfl hHeld ?_
 try go_frame
 refine tH 8 ⟨some 23,.load 56 (.tmp 22),56,_,_,some (2,true)⟩ (.agg _) rfl hHeld ?_ (hy:=yieldsIf_load_mid rfl _ _ rfl (b) (o+m*3) rfl _ _ LZ.out rfl rfl (by kernel_rfl))
 try go_frame
 refine tH 9 ⟨some 24,.move (.tmp 0),22,_,_,some (2,true)⟩ (.slice (some ⟨b,o,none⟩) l.length cap) rfl hHeld ?_
 try go_frame
 refine tH 10 ⟨some 25,.move (.tmp 1),3,_,_,some (2,true)⟩ (.int .i64 k) rfl hHeld ?_
 try go_frame
 refine tH 11 ⟨some 26,.indexAddr 22 (.tmp 24) (.tmp 25),_,_,_,some (2,true)⟩ (.pointer (some ⟨b,o+k*3,none⟩)) rfl hHeld ?_
 try go_frame
 refine tH 12 ⟨some 27,.fieldAddr 58 (.tmp 26) 0,_,_,_,some (2,true)⟩ (.pointer (some ⟨b,o+k*3,none⟩)) rfl hHeld ?_
 try go_frame
 refine tH 13 ⟨some 28,.load 56 (.tmp 27),56,_,_,some (2,true)⟩ (.agg _) rfl hHeld ?_ (hy:=yieldsIf_load_mid rfl _ _ rfl (b) (o+k*3) rfl _ _ LY.out rfl rfl (by kernel_rfl))
 try go_frame
 refine tC 14 ⟨some 29,.call { callee:=.value (.func 137),args:=#[.tmp 23,.tmp 28],argTypes:=#[56,56] },4,_,_,some (2,true)⟩ rfl fun K hK=>?_
 go_simp
 go_at_call 137
 refine (zux _ _ _ _ _).mono ?_
 rintro u w3 ⟨rfl,hb3⟩
 refine hK.out _ _ (Below.next hHeld hb3 hHeld.size) (fun hHeld=>?_)
 clear hK K
 try go_frame
 cases hls:zgb z.at_ y.at_ with
 | false=>
  have HY:=Hd (show za6 (zbb l k) y=12 by rw [HO.out,if_pos hls])
  have hls':zgb ⟨z.at_.col,z.at_.row⟩ ⟨y.at_.col,y.at_.row⟩=false:=hls
  try rw [hls']
  refine tH 15 ⟨some 30,.unOp .not 4 (.tmp 29),4,_,_,some (2,true)⟩ (.bool true) rfl hHeld ?_
  try go_frame
  refine tH 16 ⟨some 31,.pick (.tmp 17) (.tmp 30) (.const (.bool false)),4,_,_,none⟩ (.bool true) rfl hHeld ?_
  try go_frame
  refine wpAnyH_done (by kernel_rfl) ?_ _
  refine NoPanic.normal ?_
  have HB3:=Hd (Below.next HB2.out hHeld HB2.out.size)
  clear hHeld
  go_wp2
  go_ret
  exact ⟨by rw [HY.out];rfl,HB3.out⟩
 | true=>
 have HO2:=Hd (HO.out.trans (if_neg (by rw [hls];simp)))
 have hls':zgb ⟨z.at_.col,z.at_.row⟩ ⟨y.at_.col,y.at_.row⟩=true:=hls
 try rw [hls']
 refine tH 15 ⟨some 30,.unOp .not 4 (.tmp 29),4,_,_,some (2,true)⟩ (.bool false) rfl hHeld ?_
 try go_frame
 refine tH 16 ⟨some 31,.pick (.tmp 17) (.tmp 30) (.const (.bool false)),4,_,_,none⟩ (.bool false) rfl hHeld ?_
 try go_frame
 refine wpAnyH_done (by kernel_rfl) ?_ _
 refine NoPanic.normal ?_
 have HB3:=Hd (Below.next HB2.out hHeld HB2.out.size)
 have x3:w3.cell? ⟨b,o+k*3+2,none⟩=some (str y.input):=(hHeld.cell (p:=⟨b,o+k*3+2,none⟩) (Nat.lt_of_lt_of_le hblt HB2.out.size)).trans x2
 clear hHeld LZ LY HO x2
 have r2q:=x3
 by_cases hin:y.input=[]
 ·have HY:=Hd (HO2.out.trans (if_pos hin))
  have bi:(y.input==([]:List UInt8))=true:=by simp [hin]
  clear hin
  go_wp2
  go_ret
  exact ⟨by rw [HY.out];rfl,HB3.out⟩
 have bi:(y.input==([]:List UInt8))=false:=by simpa using hin
 have HY:=Hd (HO2.out.trans (if_neg hin))
 clear hin
 go_wp2_with fail
 refine (HOF.out _).mono ?_
 rintro u w5 ⟨⟨b5,k5,n5,x5,A5,l5,c5,p5,rfl⟩,hb5⟩
 have HB5:=Hd (Below.next HB3.out hb5 (HB3.out).size)
 have HB6:=Hd (HB5.out.alloc HB5.out.size (.cells #[.bool b5,.int .u8 k5,.int .i64 n5,str x5,.slice A5 l5 c5] 192))
 clear hb5
 go_wp2
 go_ret
 exact ⟨by rw [HY.out];rfl,HB6.out⟩
def AtR (e:Int) (u:Ending):Prop:=∃p:Int,u=.returned (.tuple #[.int .i64 p,.int .i64 e])
theorem zjp (hc:zi7) (l:List Ent) (tv:Value) (B:Nat) (w:World) (hB:B≤w.heap.size) (ht:Sls cEnt w B tv l) (hl:l.length≤1000000) (hin:∀y∈l,y.input.length≤1000000):
 Calls prog 114 #[tv] w fun u w'=>AtR (entE none l) u∧Below w.heap.size w w':=by
 obtain ⟨A,cap,rfl,hc1,hm1,ha1⟩:=id ht
 have HS:=Hd ht
 have HC:=Hd hc
 have HIN:=Hd hin
 clear ht ha1 hc hin
 unfold maxLen at hm1
 go_enter func114,ntmps114
 go_wp2_with fail
 go_loopw [4] (fun iv wr=>∃k:Nat,k≤l.length∧iv=.int .i64 k∧entE none l=entE (zbb l k) (l.drop k)∧Below w.heap.size w wr) (fun iv _=>l.length-(intOf iv).toNat)
 case atStart=>exact ⟨0,by omega,rfl,by simp [zbb],Below.refl _ _⟩
 rename World=>wr
 obtain ⟨k,hk,rfl,hf,hbw⟩:=hrel
 have HF:=Hd hf
 have HBW:=Hd hbw
 clear hf hbw
 have hk0:(0:Int)≤(k:Int):=Int.natCast_nonneg _
 by_cases hlt:k<l.length
 rotate_left
 ·have hil:¬(k:Int)<(l.length:Int):=by omega
  have HE:=Hd (show entE none l=0 by rw [HF.out,List.drop_eq_nil_of_le (by omega)];rfl)
  clear HF
  go_wp2
  refine bodyPost_ret (v:=.tuple #[.int .i64 0,.int .i64 0]) (by simp (maxDischargeDepth:=9) [results,results114,go_sem]) rfl ?_
  exact ⟨⟨0,by rw [HE.out]⟩,HBW.out⟩
 have hil:(k:Int)<(l.length:Int):=by omega
 obtain ⟨y,hy⟩:∃y,l[k]?=some y:=⟨_,List.getElem?_eq_getElem hlt⟩
 have HD:=Hd (zlu l hy)
 have HFA:=Hd (zjo HC.out l k y _ B wr (Nat.le_trans hB HBW.out.size) (HS.out.below (HBW.out.mono hB)) hl hy (HIN.out y (List.mem_of_getElem? hy)))
 clear hy
 obtain ⟨e,he⟩:∃e,za6 (zbb l k) y=e:=⟨_,rfl⟩
 rw [he] at HD HFA
 clear he
 go_wp2_with fail
 refine HFA.out.mono ?_
 rintro u w2 ⟨rfl,hb2⟩
 have HB2:=Hd (Below.next HBW.out hb2 HBW.out.size)
 clear hb2
 by_cases h0:e=0
 ·have b0:(e != 0)=false:=by simpa using h0
  have HF2:=Hd (show entE none l=entE (zbb l (k+1)) (l.drop (k+1)) by rw [HF.out,HD.out,if_neg (by simpa using h0)])
  clear h0 HD HF
  go_wp2
  exact ⟨⟨k+1,by omega,by go_num,HF2.out,HB2.out⟩,by simp [intOf];omega⟩
 have b0:(e != 0)=true:=by simpa using h0
 have HE:=Hd (show entE none l=e by rw [HF.out,HD.out,if_pos (by simpa using h0)])
 clear h0 HD HF
 go_wp2
 refine bodyPost_ret (v:=.tuple #[.int .i64 k,.int .i64 e]) (by simp (maxDischargeDepth:=9) [results,results114,go_sem]) rfl ?_
 exact ⟨⟨k,by rw [HE.out]⟩,HB2.out⟩
theorem nI0G:numI 0=[0]:=by simp [numI,numB,beB]
theorem nI1G:numI 1=[1,1]:=by simp [numI,numB,beB]
theorem nI3G:numI 3=[1,3]:=by simp [numI,numB,beB]
theorem nI4G:numI 4=[1,4]:=by simp [numI,numB,beB]
theorem nI7G:numI 7=[1,7]:=by simp [numI,numB,beB]
theorem zyx:numI 1024=[2,4,0]:=by simp [numI,numB,beB]
theorem zml:(scpB za5).length=34:=by simp [scpB,za5,zap,entB,rulB,zbz,zcy,za7,zcb,nI0G,nI1G,nI3G,nI4G,nI7G,zyx]
theorem zgc:20<(scpB za5).length∧(scpB za5).length≤65536:=by rw [zml];exact ⟨by decide,by decide⟩
theorem zr9:scpE za5=0:=by decide+kernel
theorem zsc:encR za5=(scpB za5,0):=by
 unfold encR
 rw [zr9,if_neg (by decide),if_neg (by have:=zgc.2;omega)]
theorem zsb:FitS za5 where
 ok:=
  {
   book:=
   {
    users:=by constructor <;> decide
    entries:=fun x hx=>by
     simp [za5] at hx
     subst hx
     exact ⟨⟨by constructor <;> decide,by constructor <;> decide⟩,by unfold ztm;simp⟩
    rules:=fun x hx=>by
     simp [za5] at hx
     subst hx
     exact ⟨⟨by constructor <;> decide,by constructor <;> decide,by constructor <;> decide,by constructor <;> decide⟩,⟨by constructor <;> decide,by constructor <;> decide,by constructor <;> decide⟩⟩
    grants:=fun x hx=>by simp [za5] at hx
    log:=fun x hx=>by simp [za5] at hx
    releases:=fun x hx=>by simp [za5] at hx
    step:=by constructor <;> decide
    lens:=by simp [za5] }
   ops:=fun x hx=>by simp [za5] at hx
   len:=by simp [za5] }
 ents:=fun x hx=>by
  simp [za5] at hx
  subst hx
  simp
 oprs:=fun x hx=>by simp [za5] at hx
 size:=by have:=zgc.2;omega
theorem zmm (w:World):(convert 59 9 (.slice (some ⟨w.heap.size,0,none⟩) 11 11)).run prog (w.alloc (.cells #[.int .u8 2,.int .u8 7,.int .u8 7,.int .u8 7,.int .u8 0,.int .u8 1,.int .u8 2,.int .u8 3,.int .u8 1,.int .u8 9,.int .u8 0] 5))=.ok (str [2,7,7,7,0,1,2,3,1,9,0]) (w.alloc (.cells #[.int .u8 2,.int .u8 7,.int .u8 7,.int .u8 7,.int .u8 0,.int .u8 1,.int .u8 2,.int .u8 3,.int .u8 1,.int .u8 9,.int .u8 0] 5)):=by
 have hb:Blk (w.alloc (.cells #[.int .u8 2,.int .u8 7,.int .u8 7,.int .u8 7,.int .u8 0,.int .u8 1,.int .u8 2,.int .u8 3,.int .u8 1,.int .u8 9,.int .u8 0] 5)) w.heap.size 5 #[.int .u8 2,.int .u8 7,.int .u8 7,.int .u8 7,.int .u8 0,.int .u8 1,.int .u8 2,.int .u8 3,.int .u8 1,.int .u8 9,.int .u8 0]:=Blk.new w _ _
 refine run_convert_bytes_back (P:=prog) _ 59 9 5 ⟨w.heap.size,0,none⟩ 11 [2,7,7,7,0,1,2,3,1,9,0] underlying59 underlying5 underlying9 (fun j hj=>?_)
 rw [zf2,hb.cell j]
 match j,hj with
 | 0,_=>rfl
 | 1,_=>rfl
 | 2,_=>rfl
 | 3,_=>rfl
 | 4,_=>rfl
 | 5,_=>rfl
 | 6,_=>rfl
 | 7,_=>rfl
 | 8,_=>rfl
 | 9,_=>rfl
 | 10,_=>rfl
 | j+11,h=>simp at h;omega
theorem zsa (w:World) (hw:Words w):
 Calls prog 10 #[] w fun u w'=>u=.returned (.bool true)∧Below w.heap.size w w':=by
 have HW:=Hd hw
 clear hw
 have kc:=zmm
 have kl:(20:Int)<((scpB za5).length:Int):=by have:=zgc.1;omega
 go_enter func10,ntmps10
 go_wp2_with fail
 refine (zpy _).mono ?_
 rintro u w1 ⟨ve,vr,vg,vl,vx,vo,rfl,hb,hb1⟩
 obtain ⟨Ae,ce,rfl,_⟩:=id hb.book.ents
 obtain ⟨Ar,cr,rfl,_⟩:=id hb.book.ruls
 obtain ⟨Ag,cg,rfl,_⟩:=id hb.book.grts
 obtain ⟨Al,cl,rfl,_⟩:=id hb.book.evts
 obtain ⟨Ax,cx,rfl,_⟩:=id hb.book.rlss
 obtain ⟨Ao,co,rfl,_⟩:=id hb.ops
 have HB:=Hd hb
 have HB1:=Hd (show Below w.heap.size w w1 from nxt hb1)
 obtain ⟨be,oe,rfl,hbe,re⟩:=hb.book.ents.get 3 zbw (i:=0) rfl
 have hwb:Words w1:=(HW.out.below (by go_grown)).below hb1
 have KS:=Hd (Blk.new w1 31 #[.int .i64 za5.book.users,.slice (some ⟨be,oe,none⟩) za5.book.entries.length ce,.slice Ar za5.book.rules.length cr,.slice Ag za5.book.grants.length cg,.slice Al za5.book.log.length cl,.slice Ax za5.book.releases.length cx,.int .i64 za5.book.step,.slice Ao za5.ops.length co])
 have RE:=Hd re
 have HWB:=Hd hwb
 have HBE:=Hd hbe
 clear hb hb1 kc re hwb hbe
 go_wp2_with fail
 refine (zi3 za5 _ _ _ _ _ _ w1.heap.size _ (by simp) (HB.out.below (by go_grown)) (HWB.out.below (by go_grown)) zsb).mono ?_
 rintro u w2 ⟨rfl,hb2⟩
 rw [zsc]
 have KS2:=Hd (KS.out.below_ hb2)
 have hb3:Below w1.heap.size w1 w2:=Below.next_ (by go_grown) hb2
 have HB2:=Hd (Below.trans HB1.out (hb3.mono HB1.out.size))
 have e0:w2.cell? ⟨be,oe,none⟩=some (.int .i64 3):=(hb3.cell (p:=⟨be,oe,none⟩) HBE.out).trans (by have:=RE.out 0 _ rfl;simpa using this)
 have e1:w2.cell? ⟨be,oe+1,none⟩=some (.int .i64 4):=(hb3.cell (p:=⟨be,oe+1,none⟩) HBE.out).trans (by have:=RE.out 1 _ rfl;simpa using this)
 have e2:w2.cell? ⟨be,oe+2,none⟩=some (str [57]):=(hb3.cell (p:=⟨be,oe+2,none⟩) HBE.out).trans (by have:=RE.out 2 _ rfl;simpa using this)
 have ku:za5.book.users=3:=rfl
 have kn:(za5.book.entries.length:Int)=1:=rfl
 have kn2:za5.book.entries.length=1:=rfl
 have s0:=KS2.out.cell 0
 have s1:=KS2.out.cell 1
 clear hb2 hb3 KS HB1 HWB HB
 go_wp2_with fail
 go_ret
 exact ⟨rfl,HB2.out⟩
end Go.Proofs.YtamcgggmfghljaaGreatDoor
