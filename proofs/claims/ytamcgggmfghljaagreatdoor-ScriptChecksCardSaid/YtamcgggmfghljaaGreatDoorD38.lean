/- Layers 8, 9 (reference): how operators bind; how many arguments; which may be ranges (prin -/
import Derived.Test.YtamcgggmfghljaaGreatDoorD24
set_option maxRecDepth 100000
set_option maxHeartbeats 8000000
open Go.Proofs.Tryz
namespace Go.Proofs.YtamcgggmfghljaaGreatDoor
open Go.RowKit
theorem zud (op:Int) (W:World):Calls prog 318 #[.int .i64 op] W fun u W'=>(∃b,∃e:Int,u=.returned (.tuple #[.int .i64 (zbt op),.bool b,.int .i64 e]))∧W=W':=by
 by_cases h1:op=1
 ·subst h1
  go_enter func318,ntmps318
  go_wp2
  go_ret3
  exact ⟨⟨_,_,rfl⟩,rfl⟩
 by_cases h2:op=2
 ·subst h2
  go_enter func318,ntmps318
  go_wp2
  go_ret3
  exact ⟨⟨_,_,rfl⟩,rfl⟩
 by_cases h3:op=3
 ·subst h3
  go_enter func318,ntmps318
  go_wp2
  go_ret3
  exact ⟨⟨_,_,rfl⟩,rfl⟩
 by_cases h4:op=4
 ·subst h4
  go_enter func318,ntmps318
  go_wp2
  go_ret3
  exact ⟨⟨_,_,rfl⟩,rfl⟩
 by_cases h5:op=5
 ·subst h5
  go_enter func318,ntmps318
  go_wp2
  go_ret3
  exact ⟨⟨_,_,rfl⟩,rfl⟩
 by_cases h6:op=6
 ·subst h6
  go_enter func318,ntmps318
  go_wp2
  go_ret3
  exact ⟨⟨_,_,rfl⟩,rfl⟩
 by_cases h7:op=7
 ·subst h7
  go_enter func318,ntmps318
  go_wp2
  go_ret3
  exact ⟨⟨_,_,rfl⟩,rfl⟩
 by_cases h8:op=8
 ·subst h8
  go_enter func318,ntmps318
  go_wp2
  go_ret3
  exact ⟨⟨_,_,rfl⟩,rfl⟩
 by_cases h9:op=9
 ·subst h9
  go_enter func318,ntmps318
  go_wp2
  go_ret3
  exact ⟨⟨_,_,rfl⟩,rfl⟩
 by_cases h10:op=10
 ·subst h10
  go_enter func318,ntmps318
  go_wp2
  go_ret3
  exact ⟨⟨_,_,rfl⟩,rfl⟩
 by_cases h11:op=11
 ·subst h11
  go_enter func318,ntmps318
  go_wp2
  go_ret3
  exact ⟨⟨_,_,rfl⟩,rfl⟩
 by_cases h12:op=12
 ·subst h12
  go_enter func318,ntmps318
  go_wp2
  go_ret3
  exact ⟨⟨_,_,rfl⟩,rfl⟩
 by_cases h13:op=13
 ·subst h13
  go_enter func318,ntmps318
  go_wp2
  go_ret3
  exact ⟨⟨_,_,rfl⟩,rfl⟩
 have HE:=Hd (show zbt op=0 by
  unfold zbt
  rw [if_neg (by omega),if_neg (by omega),if_neg (by omega),if_neg (by omega),if_neg (by omega),if_neg (by omega)])
 have b1:(op==1)=false:=by simpa using h1
 have b2:(op==2)=false:=by simpa using h2
 have b3:(op==3)=false:=by simpa using h3
 have b4:(op==4)=false:=by simpa using h4
 have b5:(op==5)=false:=by simpa using h5
 have b6:(op==6)=false:=by simpa using h6
 have b7:(op==7)=false:=by simpa using h7
 have b8:(op==8)=false:=by simpa using h8
 have b9:(op==9)=false:=by simpa using h9
 have b10:(op==10)=false:=by simpa using h10
 have b11:(op==11)=false:=by simpa using h11
 have b12:(op==12)=false:=by simpa using h12
 have b13:(op==13)=false:=by simpa using h13
 clear h1 h2 h3 h4 h5 h6 h7 h8 h9 h10 h11 h12 h13
 go_enter func318,ntmps318
 go_wp2
 go_ret3
 exact ⟨⟨_,_,by rw [HE.out];rfl⟩,rfl⟩
theorem zjn (fn:Nat) (h1:1≤fn) (h2:fn≤50) (W:World):Calls prog 337 #[.int .u8 fn] W fun u W'=>u=.returned (.tuple #[.int .i64 (zam fn).1,.int .i64 (zam fn).2.1])∧W=W':=by
 rcases (by omega:fn=1∨fn=2∨fn=3∨fn=4∨fn=5∨fn=6∨fn=7∨fn=8∨fn=9∨fn=10∨fn=11∨fn=12∨fn=13∨fn=14∨fn=15∨fn=16∨fn=17∨fn=18∨fn=19∨fn=20∨fn=21∨fn=22∨fn=23∨fn=24∨fn=25∨fn=26∨fn=27∨fn=28∨fn=29∨fn=30∨fn=31∨fn=32∨fn=33∨fn=34∨fn=35∨fn=36∨fn=37∨fn=38∨fn=39∨fn=40∨fn=41∨fn=42∨fn=43∨fn=44∨fn=45∨fn=46∨fn=47∨fn=48∨fn=49∨fn=50) with rfl | rfl | rfl | rfl | rfl | rfl | rfl | rfl | rfl | rfl | rfl | rfl | rfl | rfl | rfl | rfl | rfl | rfl | rfl | rfl | rfl | rfl | rfl | rfl | rfl | rfl | rfl | rfl | rfl | rfl | rfl | rfl | rfl | rfl | rfl | rfl | rfl | rfl | rfl | rfl | rfl | rfl | rfl | rfl | rfl | rfl | rfl | rfl | rfl | rfl
 all_goals
  go_enter func337,ntmps337
  go_wp2
  go_ret2
  exact ⟨rfl,rfl⟩
theorem zqz (fn i:Nat) (h1:1≤fn) (h2:fn≤50) (hi:i≤2000) (W:World):
 Calls prog 352 #[.int .u8 fn,.int .i64 i] W fun u W'=>u=.returned (.bool (zb9 fn i).1)∧W=W':=by
 have ha:=zg0 fn h1 h2
 have HA:=Hd (zjn fn h1 h2 W)
 have i0:(0:Int)≤(i:Int):=by omega
 have HL:=Hd (zqg fn i ha i0)
 have HG:=Hd (zqh fn i ha)
 clear ha
 generalize zb9 fn i=w at HL HG ⊢
 generalize (zam fn).1=m0 at *
 generalize (zam fn).2.1=m1 at *
 by_cases hm:(i:Int)<m1
 rotate_left
 ·have HE:=Hd (HG.out (by omega))
  clear HL HG
  have hm':m1≤(i:Int):=by omega
  go_enter func352,ntmps352
  go_wp2_with fail
  refine HA.out.mono ?_
  rintro u w1 ⟨rfl,rfl⟩
  go_wp2
  go_ret
  exact ⟨by rw [HE.out];rfl,rfl⟩
 have HE:=Hd (HL.out hm)
 clear HL HG
 have hm':¬m1≤(i:Int):=by omega
 by_cases c9:fn=9
 ·subst c9
  have HE2:=Hd (HE.out.trans (by simp;rfl))
  clear HE
  go_enter func352,ntmps352
  go_wp2_with fail
  refine HA.out.mono ?_
  rintro u w1 ⟨rfl,rfl⟩
  go_wp2
  go_ret
  exact ⟨by rw [HE2.out];rfl,rfl⟩
 by_cases c10:fn=10
 ·subst c10
  have HE2:=Hd (HE.out.trans (by simp;rfl))
  clear HE
  go_enter func352,ntmps352
  go_wp2_with fail
  refine HA.out.mono ?_
  rintro u w1 ⟨rfl,rfl⟩
  go_wp2
  go_ret
  exact ⟨by rw [HE2.out];rfl,rfl⟩
 by_cases c11:fn=11
 ·subst c11
  have HE2:=Hd (HE.out.trans (by simp;rfl))
  clear HE
  go_enter func352,ntmps352
  go_wp2_with fail
  refine HA.out.mono ?_
  rintro u w1 ⟨rfl,rfl⟩
  go_wp2
  go_ret
  exact ⟨by rw [HE2.out];rfl,rfl⟩
 by_cases c12:fn=12
 ·subst c12
  have HE2:=Hd (HE.out.trans (by simp;rfl))
  clear HE
  go_enter func352,ntmps352
  go_wp2_with fail
  refine HA.out.mono ?_
  rintro u w1 ⟨rfl,rfl⟩
  go_wp2
  go_ret
  exact ⟨by rw [HE2.out];rfl,rfl⟩
 by_cases c14:fn=14
 ·subst c14
  have HE2:=Hd (HE.out.trans (by simp;rfl))
  clear HE
  go_enter func352,ntmps352
  go_wp2_with fail
  refine HA.out.mono ?_
  rintro u w1 ⟨rfl,rfl⟩
  go_wp2
  go_ret
  exact ⟨by rw [HE2.out];rfl,rfl⟩
 by_cases c15:fn=15
 ·subst c15
  have HE2:=Hd (HE.out.trans (by simp;rfl))
  clear HE
  go_enter func352,ntmps352
  go_wp2_with fail
  refine HA.out.mono ?_
  rintro u w1 ⟨rfl,rfl⟩
  go_wp2
  go_ret
  exact ⟨by rw [HE2.out];rfl,rfl⟩
 by_cases c16:fn=16
 ·subst c16
  have HE2:=Hd (HE.out.trans (by simp;rfl))
  clear HE
  go_enter func352,ntmps352
  go_wp2_with fail
  refine HA.out.mono ?_
  rintro u w1 ⟨rfl,rfl⟩
  go_wp2
  go_ret
  exact ⟨by rw [HE2.out];rfl,rfl⟩
 by_cases c17:fn=17
 ·subst c17
  have HE2:=Hd (HE.out.trans (by simp;rfl))
  clear HE
  go_enter func352,ntmps352
  go_wp2_with fail
  refine HA.out.mono ?_
  rintro u w1 ⟨rfl,rfl⟩
  go_wp2
  go_ret
  exact ⟨by rw [HE2.out];rfl,rfl⟩
 by_cases c44:fn=44
 ·subst c44
  have HE2:=Hd (HE.out.trans (by simp;rfl))
  clear HE
  go_enter func352,ntmps352
  go_wp2_with fail
  refine HA.out.mono ?_
  rintro u w1 ⟨rfl,rfl⟩
  go_wp2
  go_ret
  exact ⟨by rw [HE2.out];rfl,rfl⟩
 by_cases c18:fn=18
 ·subst c18
  have HE2:=Hd (HE.out.trans (show _=(decide ((i:Int)=0),(0:Int)) by simp))
  clear HE
  go_enter func352,ntmps352
  go_wp2_with fail
  refine HA.out.mono ?_
  rintro u w1 ⟨rfl,rfl⟩
  go_wp2
  go_ret
  exact ⟨by rw [HE2.out];rfl,rfl⟩
 by_cases c19:fn=19
 ·subst c19
  have HE2:=Hd (HE.out.trans (show _=(decide ((i:Int)=0),(0:Int)) by simp))
  clear HE
  go_enter func352,ntmps352
  go_wp2_with fail
  refine HA.out.mono ?_
  rintro u w1 ⟨rfl,rfl⟩
  go_wp2
  go_ret
  exact ⟨by rw [HE2.out];rfl,rfl⟩
 by_cases c45:fn=45
 ·subst c45
  have HE2:=Hd (HE.out.trans (show _=(decide ((i:Int)=0),(0:Int)) by simp))
  clear HE
  go_enter func352,ntmps352
  go_wp2_with fail
  refine HA.out.mono ?_
  rintro u w1 ⟨rfl,rfl⟩
  go_wp2
  go_ret
  exact ⟨by rw [HE2.out];rfl,rfl⟩
 by_cases c43:fn=43
 ·subst c43
  have HE2:=Hd (HE.out.trans (show _=(decide ((i:Int)=0),(0:Int)) by simp))
  clear HE
  go_enter func352,ntmps352
  go_wp2_with fail
  refine HA.out.mono ?_
  rintro u w1 ⟨rfl,rfl⟩
  go_wp2
  go_ret
  exact ⟨by rw [HE2.out];rfl,rfl⟩
 by_cases c13:fn=13
 ·subst c13
  have HE2:=Hd (HE.out.trans (show _=(decide ((i:Int)=0),(0:Int)) by simp))
  clear HE
  go_enter func352,ntmps352
  go_wp2_with fail
  refine HA.out.mono ?_
  rintro u w1 ⟨rfl,rfl⟩
  go_wp2
  go_ret
  exact ⟨by rw [HE2.out];rfl,rfl⟩
 have HE2:=Hd (HE.out.trans (show _=(relB fn,(0:Int)) by rw [if_neg (by omega),if_neg (by omega),if_neg (by omega)]))
 have HR:=Hd (show relB fn=(decide ((46:Int)≤fn)&&decide ((fn:Int)≤50)) from rfl)
 clear HE
 have b9:((fn:Int)==9)=false:=by simp;omega
 have b10:((fn:Int)==10)=false:=by simp;omega
 have b11:((fn:Int)==11)=false:=by simp;omega
 have b12:((fn:Int)==12)=false:=by simp;omega
 have b14:((fn:Int)==14)=false:=by simp;omega
 have b15:((fn:Int)==15)=false:=by simp;omega
 have b16:((fn:Int)==16)=false:=by simp;omega
 have b17:((fn:Int)==17)=false:=by simp;omega
 have b44:((fn:Int)==44)=false:=by simp;omega
 have b18:((fn:Int)==18)=false:=by simp;omega
 have b19:((fn:Int)==19)=false:=by simp;omega
 have b45:((fn:Int)==45)=false:=by simp;omega
 have b43:((fn:Int)==43)=false:=by simp;omega
 have b13:((fn:Int)==13)=false:=by simp;omega
 clear c9 c10 c11 c12 c14 c15 c16 c17 c44 c18 c19 c45 c43 c13
 by_cases g1:(46:Int)≤(fn:Int)
 ·have g2:(fn:Int)≤50:=by omega
  have HR2:=Hd (show relB fn=true by rw [HR.out];simp;omega)
  clear HR
  go_enter func352,ntmps352
  go_wp2_with fail
  refine HA.out.mono ?_
  rintro u w1 ⟨rfl,rfl⟩
  go_wp2
  go_ret
  exact ⟨by rw [HE2.out,HR2.out];rfl,rfl⟩
 have HR2:=Hd (show relB fn=false by rw [HR.out];simp;omega)
 clear HR
 go_enter func352,ntmps352
 go_wp2_with fail
 refine HA.out.mono ?_
 rintro u w1 ⟨rfl,rfl⟩
 go_wp2
 go_ret
 exact ⟨by rw [HE2.out,HR2.out];rfl,rfl⟩
theorem zx4 (p:Nat) (s:zaa) (L:List Tok) (ov:Value) (i:Nat) (T:List Nod) (a f k:Int) (W:World) (h:PR W p s L ov i T a f) (hn:L.length≤1000000):
 Calls prog 297 #[.pointer (some ⟨p,0,none⟩),.int .i64 k] W fun u W'=>u=.returned (.bool (decide ((zak s.length (L.drop i,T)).kind=8)&&decide (zbt (zak s.length (L.drop i,T)).num=k)))∧Below W.heap.size W W':=by
 have HH:=Hd h
 clear h
 obtain ⟨t,ht⟩:∃t,zak s.length (L.drop i,T)=t:=⟨_,rfl⟩
 rw [ht]
 have HT:=Hd ht
 clear ht
 obtain ⟨z,hz⟩:∃z,(decide (t.kind=8)&&decide (zbt t.num=k))=z:=⟨_,rfl⟩
 rw [hz]
 have HZ:=Hd hz
 clear hz
 go_enter func297,ntmps297
 go_wp2_with fail
 refine (zcl p s L ov i T a f _ HH.out hn).mono ?_
 rintro u w1 ⟨rfl,hb1⟩
 rw [HT.out]
 have HB2:=Hd (show Below W.heap.size W (w1.alloc (.cells (cTok t).toArray 239)) from hb1.alloc hb1.size _)
 have K2:=Hd (Blk.new w1 239 (cTok t).toArray)
 clear hb1
 rw [show (cTok t).toArray=#[.int .u8 t.kind,.int .i64 t.num,str t.text,.int .i64 t.rect.c1,.int .i64 t.rect.r1,.int .i64 t.rect.c2,.int .i64 t.rect.r2,.int .i64 t.at_] from rfl] at HB2 K2 ⊢
 go_wp2_with fail
 refine (zud t.num _).mono ?_
 rintro u w2 ⟨⟨b,e,rfl⟩,rfl⟩
 generalize zbt t.num=q at HZ ⊢
 by_cases hk:t.kind=8
 ·have hk':(t.kind==8)=true:=by simpa using hk
  have HD:=Hd (show (q==k)=z by rw [← HZ.out,decide_eq_true hk,Bool.true_and,Bool.eq_iff_iff];simp)
  clear hk
  go_wp2
  go_ret
  exact ⟨congrArg (fun x=>Ending.returned (.bool x)) HD.out,HB2.out⟩
 have hk':(t.kind==8)=false:=by simpa using hk
 have HD:=Hd (show false=z by rw [← HZ.out,decide_eq_false hk,Bool.false_and])
 clear hk
 go_wp2
 go_ret
 exact ⟨congrArg (fun x=>Ending.returned (.bool x)) HD.out,HB2.out⟩
theorem zeg {α:Type} {c:α→List Value} {e:TypeId} {k:Nat} {w:World} {v:Value} {l:List α} (h:Own c e k w v l):∃A cap,v=.slice A l.length cap∧l.length≤maxLen:=by
 rcases h.2 with ⟨rfl,he⟩ | ⟨g,cap,cur,rfl,_,_,h1,h2,_⟩
 ·exact ⟨none,0,by rw [he],by omega⟩
 exact ⟨_,cap,rfl,Nat.le_trans h1 h2⟩
theorem PR.putAt {W W' W9:World} {p:Nat} {s:zaa} {L:List Tok} {ov ov9:Value} {i:Nat} {T:List Nod} {a f:Int} {n:Nod} (h:PR W p s L ov i T a f) (hbW:Below W.heap.size W W')
 (o9:Own cNod 297 11 W9 ov9 (T++ [n])) (t9:OutTo W' ov W9 ov9):
 PR (W9.setCell ⟨p,3,none⟩ ov9) p s L ov9 i (T++ [n]) a f∧PTo p W ov (W9.setCell ⟨p,3,none⟩ ov9) ov9:=by
 obtain ⟨lv,hb,hs⟩:=h.bx
 have hlt:=h.lt
 have hne:=h.ne
 have hsz:=hbW.size
 have hne9:ov9.ownBlock≠some p:=fun e=>by
  rcases t9.own p e with e | e
  ·exact hne e
  omega
 have hb9:=(hb.below_ hbW).outTo t9 hne
 have hs9:Sls cTok W9 p lv L:=(hs.below (hbW.mono (Nat.le_of_lt hlt))).below (t9.old (by omega) (fun k hk=>by have:=h.ob k hk;omega))
 have hc:Chg (fun k=>k=p) W9 (W9.setCell ⟨p,3,none⟩ ov9):=(Chg.refl (fun k=>k=p) W9).setCell (p:=⟨p,3,none⟩) (.inl rfl) ov9
 have hlt9:p<W9.heap.size:=hb9.lt
 refine ⟨⟨⟨lv,?_,?_⟩,o9.chg hc (fun q hq e=>hne9 (by rw [hq,e])),fun k hk=>?_⟩,⟨?_,fun k hk=>?_⟩⟩
 ·exact hb9.set_ 3 ov9
 ·exact Sl.chg hs9 hc (Nat.le_of_lt hlt9) (fun k hk e=>by omega)
 ·rcases t9.own k hk with e | e
  ·exact h.ob k e
  omega
 ·have h1:Chg (fun k=>k=p∨ov.ownBlock=some k) W W9:=Chg.trans (Chg.of_below hbW _ (fun k hk _=>hk)) (t9.chg.mono (fun k _ e=>.inr e))
  exact h1.trans (hc.mono (fun k _ e=>.inl e))
 rcases t9.own k hk with e | e
 ·exact .inl e
 exact .inr (by omega)
theorem PR.step {W:World} {p:Nat} {s:zaa} {L:List Tok} {ov:Value} {i:Nat} {T:List Nod} {a f:Int} (h:PR W p s L ov i T a f):PR (W.setCell ⟨p,2,none⟩ (.int .i64 ((i:Int)+1))) p s L ov (i+1) T a f∧PTo p W ov (W.setCell ⟨p,2,none⟩ (.int .i64 ((i:Int)+1))) ov:=h.next (i+1)
theorem PR.slot {W W' W9:World} {p:Nat} {s:zaa} {L:List Tok} {ov ov9:Value} {i:Nat} {T:List Nod} {a f:Int} (h:PR W p s L ov i T a f) (hbW:Below W.heap.size W W') (t9:OutTo W' ov W9 ov9):
 W9.cell? ⟨p,3,none⟩=some ov∧W9.frozen? ⟨p,3,none⟩=false:=by
 obtain ⟨lv,hb,hs⟩:=h.bx
 have hb9:=(hb.below_ hbW).outTo t9 h.ne
 exact ⟨hb9.cell 3,hb9.frozen 3⟩
section
variable {w:World} {ops:Array Oper} {rest:List Oper} {o:Oper} {a:Act} {Q:Exit→Act→World→Prop}
theorem zbf (hgd:o.guard=none) (sx x:Operand) (ho:o.op=.call { callee:=.builtin .append,args:=#[sx,x],argTypes:=#[190,190] })
 (n:Nod) {ov:Value} {T:List Nod} {g:Nat} (hown:Own cNod 297 11 w ov T) (hb:Blk w g 297 (cNod n).toArray) (hs:a.eval sx=ov) (hx:a.eval x=.slice (some ⟨g,0,none⟩) 1 1)
 (hn:T.length≤100000)
 (h:∀A m cap w9,Own cNod 297 11 w9 (.slice A m cap) (T++ [n])→OutTo w ov w9 (.slice A m cap)→wpList prog ops Q rest (a.put o.dst (.slice A m cap)) w9):wpList prog ops Q (o::rest) a w:=by
 obtain ⟨it,i0,i1,i2,i3⟩:=zdz
 refine zbo cNod hgd sx x 190 ho 297 it _ 11 96 underlying190 i0 i1 i2 i3 rfl (by omega) ov T hs hown _ _ [n] hx (Sls.one (x:=n) hb rfl) zbq zd0 (by simp;omega) (by omega) ?_
 intro v9 w9 o9 t9
 obtain ⟨A,cap,e, -⟩:=zeg o9
 subst e
 exact h _ _ _ _ o9 t9
end
section
variable {p:Nat} {s:zaa} {L:List Tok} {ov:Value} {i:Nat} {T:List Nod} {a f K:Int}
theorem zez (W:World) (h:PR W p s L ov i T a f) (hn:L.length≤100000) (hK:K≠0) (hk:(zak s.length (L.drop i,T)).kind=K):
 Calls prog 348 #[.pointer (some ⟨p,0,none⟩),.int .u8 K] W fun u W'=>u=.returned (.tuple #[])∧i<L.length∧PR W' p s L ov (i+1) T a f∧PTo p W ov W' ov:=by
 have hlt:i<L.length:=zfk (e:=s.length) (T:=T) (by rw [hk];exact hK)
 have HH:=Hd h
 have hi0:(0:Int)≤(i:Int):=Int.natCast_nonneg _
 have hi1:(i:Int)≤100000:=by omega
 have HL:=Hd hlt
 clear h hlt
 go_enter func348,ntmps348
 go_wp2_with fail
 refine (zcl p s L ov i T a f _ HH.out (by omega)).mono ?_
 rintro u w1 ⟨rfl,hb1⟩
 have H1:=HH.out.below hb1
 obtain ⟨A,cap,c0,c1,c2,c3,c4,c5,cf,hs,hlt⟩:=H1.cells
 have HS:=Hd H1.step
 have HT:=Hd (PTo.below (PTo.refl p W ov) hb1)
 generalize zak s.length (L.drop i,T)=t at *
 have hf0:∀W,(Instr.field 239 (.agg #[.int .u8 t.kind,.int .i64 t.num,str t.text,.int .i64 t.rect.c1,.int .i64 t.rect.r1,.int .i64 t.rect.c2,.int .i64 t.rect.r2,.int .i64 t.at_]) 0).run prog W=.ok (.int .u8 t.kind) W:=fun _=>by rfl
 have hk':(t.kind != K)=false:=by simpa using hk
 clear hk hs hb1 c0 c1 c3 c4 c5 H1
 rw [show (cTok t).toArray=#[.int .u8 t.kind,.int .i64 t.num,str t.text,.int .i64 t.rect.c1,.int .i64 t.rect.r1,.int .i64 t.rect.c2,.int .i64 t.rect.r2,.int .i64 t.at_] from rfl]
 go_wp2
 refine bE ?_
 exact ⟨rfl,HL.out,HS.out.1,HT.out.trans HS.out.2⟩
theorem zim (W:World) (h:PR W p s L ov i T a 0) (hn:L.length≤100000) (hk:(zak s.length (L.drop i,T)).kind≠K):
 Calls prog 348 #[.pointer (some ⟨p,0,none⟩),.int .u8 K] W fun u W'=>u=.returned (.tuple #[])∧PR W' p s L ov i T (zak s.length (L.drop i,T)).at_ 4∧PTo p W ov W' ov:=by
 have HH:=Hd h
 clear h
 go_enter func348,ntmps348
 go_wp2_with fail
 refine (zcl p s L ov i T a 0 _ HH.out (by omega)).mono ?_
 rintro u w1 ⟨rfl,hb1⟩
 have H1:=Hd (HH.out.below hb1)
 have T1:=Hd (PTo.below (PTo.refl p W ov) hb1)
 have HC:=Hd (zcl p s L ov i T a 0 _ H1.out (by omega))
 obtain ⟨t,hgt⟩:∃t,zak s.length (L.drop i,T)=t:=⟨_,rfl⟩
 rw [hgt] at hk HC ⊢
 have HG:=Hd hgt
 clear hgt
 have hf0:∀W,(Instr.field 239 (.agg #[.int .u8 t.kind,.int .i64 t.num,str t.text,.int .i64 t.rect.c1,.int .i64 t.rect.r1,.int .i64 t.rect.c2,.int .i64 t.rect.r2,.int .i64 t.at_]) 0).run prog W=.ok (.int .u8 t.kind) W:=fun _=>by rfl
 have hf4:∀W,(Instr.field 239 (.agg #[.int .u8 t.kind,.int .i64 t.num,str t.text,.int .i64 t.rect.c1,.int .i64 t.rect.r1,.int .i64 t.rect.c2,.int .i64 t.rect.r2,.int .i64 t.at_]) 4).run prog W=.ok (.int .i64 t.at_) W:=fun _=>by rfl
 have hk':(t.kind != K)=true:=by simpa using hk
 clear hk hb1
 rw [show (cTok t).toArray=#[.int .u8 t.kind,.int .i64 t.num,str t.text,.int .i64 t.rect.c1,.int .i64 t.rect.r1,.int .i64 t.rect.c2,.int .i64 t.rect.r2,.int .i64 t.at_] from rfl] at HC ⊢
 go_wp2_with fail
 refine HC.out.mono ?_
 rintro u w2 ⟨rfl,hb2⟩
 have H2:=Hd (H1.out.below hb2)
 have T2:=Hd (PTo.below T1.out hb2)
 clear hb2
 go_wp2_with fail
 refine (zbp p s L ov i T a t.at_ 4 _ H2.out).mono ?_
 rintro u w3 ⟨rfl,h3,t3⟩
 have H3:=Hd h3
 have T3:=Hd (T2.out.trans t3)
 clear h3 t3
 go_wp2
 refine bR ?_
 exact ⟨rfl,by rw [HG.out];exact H3.out,T3.out⟩
theorem zkw (W:World) (h:PR W p s L ov i T a f) (hf:f≠0) (hK:K≠0) (hn:L.length≤100000) (hi:i≤L.length+1):
 Calls prog 348 #[.pointer (some ⟨p,0,none⟩),.int .u8 K] W fun u W'=>u=.returned (.tuple #[])∧(∃i',i'≤L.length+1∧PR W' p s L ov i' T a f)∧PTo p W ov W' ov:=by
 by_cases hk:(zak s.length (L.drop i,T)).kind=K
 ·refine (zez W h hn hK hk).mono ?_
  rintro u W' ⟨h1,h2,h3,h4⟩
  exact ⟨h1,⟨i+1,by omega,h3⟩,h4⟩
 have HH:=Hd h
 clear h
 go_enter func348,ntmps348
 go_wp2_with fail
 refine (zcl p s L ov i T a f _ HH.out (by omega)).mono ?_
 rintro u w1 ⟨rfl,hb1⟩
 have H1:=Hd (HH.out.below hb1)
 have T1:=Hd (PTo.below (PTo.refl p W ov) hb1)
 have HC:=Hd (zcl p s L ov i T a f _ H1.out (by omega))
 generalize zak s.length (L.drop i,T)=t at *
 have hf0:∀W,(Instr.field 239 (.agg #[.int .u8 t.kind,.int .i64 t.num,str t.text,.int .i64 t.rect.c1,.int .i64 t.rect.r1,.int .i64 t.rect.c2,.int .i64 t.rect.r2,.int .i64 t.at_]) 0).run prog W=.ok (.int .u8 t.kind) W:=fun _=>by rfl
 have hf4:∀W,(Instr.field 239 (.agg #[.int .u8 t.kind,.int .i64 t.num,str t.text,.int .i64 t.rect.c1,.int .i64 t.rect.r1,.int .i64 t.rect.c2,.int .i64 t.rect.r2,.int .i64 t.at_]) 4).run prog W=.ok (.int .i64 t.at_) W:=fun _=>by rfl
 have hk':(t.kind != K)=true:=by simpa using hk
 clear hk hb1
 rw [show (cTok t).toArray=#[.int .u8 t.kind,.int .i64 t.num,str t.text,.int .i64 t.rect.c1,.int .i64 t.rect.r1,.int .i64 t.rect.c2,.int .i64 t.rect.r2,.int .i64 t.at_] from rfl] at HC ⊢
 go_wp2_with fail
 refine HC.out.mono ?_
 rintro u w2 ⟨rfl,hb2⟩
 have H2:=Hd (H1.out.below hb2)
 have T2:=Hd (PTo.below T1.out hb2)
 clear hb2
 go_wp2_with fail
 refine (zdi p s L ov i T a f t.at_ 4 _ H2.out hf).mono ?_
 rintro u w3 ⟨rfl,rfl⟩
 go_wp2
 refine bR ?_
 exact ⟨rfl,⟨i,hi,H2.out⟩,T2.out⟩
end
def zki (p:Nat) (s:zaa) (L:List Tok) (W:World) (ov:Value) (a:Int) (m:Nat) (r:PRes) (u:Ending) (W':World):Prop:=
 u=.returned (.tuple #[])∧∃ov' i' T',PTo p W ov W' ov'∧match r with
  | .ok st'=>i'≤L.length∧st'=(L.drop i',T')∧PR W' p s L ov' i' T' a 0
  | .error x=>x.2≠0∧i'≤L.length+1∧T'.length≤m∧PR W' p s L ov' i' T' x.1 x.2
def RunR (fn:Nat) (args:Nat→Array Value) (s:zaa) (L:List Tok) (f:Nat) (g:Stg):Prop:=
 ∀(p:Nat) (ov:Value) (i:Nat) (T:List Nod) (a:Int) (W:World),PR W p s L ov i T a 0→i≤L.length→L.length-i+T.length≤2000→zbd g (L.length-i)≤f→f≤5000→
  Calls prog fn (args p) W (zki p s L W ov a (T.length+(L.length-i)+f) (parS s.length f g (L.drop i,T)))
section
variable {p:Nat} {s:zaa} {L:List Tok} {W W':World} {ov:Value} {a:Int} {m:Nat} {r:PRes} {u:Ending}
theorem zba (h:zki p s L W ov a m r u W'):
 (∃i' T' ov',r=.ok (L.drop i',T')∧i'≤L.length∧u=.returned (.tuple #[])∧PR W' p s L ov' i' T' a 0∧PTo p W ov W' ov')∨
 (∃x er i' T' ov',r=.error (x,er)∧er≠0∧i'≤L.length+1∧T'.length≤m∧u=.returned (.tuple #[])∧PR W' p s L ov' i' T' x er∧PTo p W ov W' ov'):=by
 obtain ⟨hu,ov',i',T',ht,h⟩:=h
 cases r with
 | error x=>exact .inr ⟨x.1,x.2,i',T',ov',rfl,h.1,h.2.1,h.2.2.1,hu,h.2.2.2,ht⟩
 | ok st'=>exact .inl ⟨i',T',ov',by rw [h.2.1],h.1,hu,h.2.2,ht⟩
theorem zbl {i':Nat} {T':List Nod} {ov':Value} (hr:r=.ok (L.drop i',T')) (hi:i'≤L.length) (h1:PR W' p s L ov' i' T' a 0) (h2:PTo p W ov W' ov'):zki p s L W ov a m r (.returned (.tuple #[])) W':=by
 subst hr
 exact ⟨rfl,ov',i',T',h2,hi,rfl,h1⟩
theorem za3 {x er:Int} {i':Nat} {T':List Nod} {ov':Value} (hr:r=.error (x,er)) (he:er≠0) (hi:i'≤L.length+1) (hm:T'.length≤m) (h1:PR W' p s L ov' i' T' x er) (h2:PTo p W ov W' ov'):zki p s L W ov a m r (.returned (.tuple #[])) W':=by
 subst hr
 exact ⟨rfl,ov',i',T',h2,he,hi,hm,h1⟩
end
theorem zjy {e:Int} {f:Nat} {g:Stg} {L:List Tok} {i i':Nat} {T T':List Nod} (h:parS e f g (L.drop i,T)=.ok (L.drop i',T')) (hi:i≤L.length) (hi':i'≤L.length):
 i+zay g≤i'∧L.length-i'+T'.length≤L.length-i+T.length:=by
 have:=za0 e f g _ _ h
 simp only [List.length_drop] at this
 omega
theorem zzf (n:Int):zbt n=7↔n=13:=by
 unfold zbt
 repeat' split
 all_goals omega
theorem zzg (n:Int):zbt n=6↔n=5:=by
 unfold zbt
 repeat' split
 all_goals omega
theorem zx2 (s:zaa) (L:List Tok) (hL:L.length≤1000) (f:Nat) (hs:RunR 296 one1 s L f .sign) (hp:RunR 317 one1 s L f .pct):RunR 296 one1 s L (f+1) .sign:=by
 intro p ov i T a W h hi hn hf hf5
 have HS:=Hd hs
 have HPC:=Hd hp
 have HH:=Hd h
 simp only [zbd] at hf
 have HR:Hid (parS s.length (f+1) .sign (L.drop i,T)=if zcj s.length (L.drop i,T) 2 then thenS (parS s.length f .sign (zan (L.drop i,T))) fun st=>.ok (putS (nod0 4) st) else thenS (parS s.length f .pct (L.drop i,T)) fun st=>if zcj s.length st 5 then thenS (parS s.length f .sign (zan st)) fun st=>.ok (putS { nod0 6 with op:=5 } st) else .ok st):=Hd rfl
 generalize parS s.length (f+1) .sign (L.drop i,T)=R at HR ⊢
 have HHL:Hid ((zak s.length (L.drop i,T)).kind≠0→i<L.length):=Hd zfk
 have HI:Hid (zcj s.length (L.drop i,T) 2=(decide ((zak s.length (L.drop i,T)).kind=8)&&decide ((zak s.length (L.drop i,T)).num=2))):=Hd rfl
 have hi0:(0:Int)≤(i:Int):=Int.natCast_nonneg _
 have hi9:(i:Int)≤1000:=by omega
 clear hs hp h
 unfold one1
 go_enter func296,ntmps296
 go_wp2_with fail
 refine (zcl p s L ov i T a 0 _ HH.out (by omega)).mono ?_
 rintro u w1 ⟨rfl,hb1⟩
 generalize zak s.length (L.drop i,T)=t at *
 have KT1:=Hd (Blk.new w1 239 (cTok t).toArray)
 have HB1:=Hd (show Below W.heap.size W (w1.alloc (.cells (cTok t).toArray 239)) from hb1.alloc hb1.size _)
 have HH1:=Hd (HH.out.below HB1.out)
 have P1:=Hd (PTo.below (PTo.refl p W ov) HB1.out)
 have HS1:=Hd hb1.size
 clear hb1
 obtain ⟨V1,hV1⟩:∃V,w1.alloc (.cells (cTok t).toArray 239)=V:=⟨_,rfl⟩
 rw [hV1] at KT1 HB1 HH1 P1
 rw [show (cTok t).toArray=#[.int .u8 t.kind,.int .i64 t.num,str t.text,.int .i64 t.rect.c1,.int .i64 t.rect.r1,.int .i64 t.rect.c2,.int .i64 t.rect.r2,.int .i64 t.at_] from rfl] at hV1 ⊢
 obtain ⟨g1,hg1⟩:∃g,g=w1.heap.size:=⟨_,rfl⟩
 rw [← hg1] at KT1 HS1
 go_upto_region 1 with (fail)
 rw [← hg1]
 clear hV1 hg1
 have x0:V1.cell? ⟨g1,0,none⟩=some (.int .u8 t.kind):=KT1.out.cell 0
 have x1:V1.cell? ⟨g1,1,none⟩=some (.int .i64 t.num):=KT1.out.cell 1
 by_cases h82:t.kind=8∧t.num=2
 ·obtain ⟨h8,h2⟩:=h82
  have b8:(t.kind==8)=true:=by simpa using h8
  have b2:(t.num==2)=true:=by simpa using h2
  have HR2:=Hd (HR.out.trans (if_pos (by rw [HI.out,h8,h2];rfl)))
  have hil:i<L.length:=HHL.out (by omega)
  obtain ⟨_,_, -, -,c2, -, -, -,cf, -,dl⟩:=HH1.out.cells
  have H2:=Hd HH1.out.step
  clear h8 h2 HR HI HHL
  go_wp2_with fail
  refine (HS.out p ov (i+1) T a _ H2.out.1 (by omega) (by omega) (by simp only [zbd];omega) (by omega)).mono ?_
  intro u w3 hw
  clear c2 cf dl x0 x1
  have P2:=Hd (P1.out.trans H2.out.2)
  rcases zba hw with ⟨i3,T3,ov3,hr,hi3,rfl,ha,ht⟩ | ⟨x,er,i3,T3,ov3,hr,he,hi3,hm,rfl,ha,ht⟩
  ·have HL3:=Hd (zjy hr (by omega) hi3)
   have HR3:=Hd (show R=.ok (L.drop i3,T3++ [(nod0 4)]) by rw [HR2.out,zaz,hr];rfl)
   have H3:=Hd ha
   have P3:=Hd (P2.out.trans ht)
   have hT3:T3.length≤2000:=by have:=HL3.out;omega
   clear ha ht hr hw
   have KN4:=Hd (Blk.new w3 297 (cNod (nod0 4)).toArray)
   have HN4:=Hd (H3.out.ow.alloc (.cells (cNod (nod0 4)).toArray 297))
   have HW4:=Hd (show Below w3.heap.size w3 (w3.alloc (.cells (cNod (nod0 4)).toArray 297)) by go_grown)
   obtain ⟨_,_, -, -, -,d3, -, -,df, -,dl⟩:=H3.out.cells
   go_wp2_with (at_builtin;refine RowKit.Hid.out ?_)
   refine Hd ?_
   refine zbf rfl _ _ rfl (nod0 4) HN4.out KN4.out rfl rfl (by omega) ?_
   intro A4 m4 cp4 y4 o4 q4
   have HF4:=Hd (H3.out.putAt HW4.out o4 q4)
   obtain ⟨e3,e3f⟩:=H3.out.slot HW4.out q4
   clear o4 q4 d3 df dl
   go_wp2
   refine bR ?_
   exact zbl HR3.out (by omega) HF4.out.1 (P3.out.trans HF4.out.2)
  have HR3:=Hd (show R=.error (x,er) by rw [HR2.out,zaz,hr];rfl)
  have H3:=Hd ha
  have P3:=Hd (P2.out.trans ht)
  have hT3:T3.length≤9000:=by omega
  clear ha ht hr hw
  have KN4:=Hd (Blk.new w3 297 (cNod (nod0 4)).toArray)
  have HN4:=Hd (H3.out.ow.alloc (.cells (cNod (nod0 4)).toArray 297))
  have HW4:=Hd (show Below w3.heap.size w3 (w3.alloc (.cells (cNod (nod0 4)).toArray 297)) by go_grown)
  obtain ⟨_,_, -, -, -,d3, -, -,df, -,dl⟩:=H3.out.cells
  go_wp2_with (at_builtin;refine RowKit.Hid.out ?_)
  refine Hd ?_
  refine zbf rfl _ _ rfl (nod0 4) HN4.out KN4.out rfl rfl (by omega) ?_
  intro A4 m4 cp4 y4 o4 q4
  have HF4:=Hd (H3.out.putAt HW4.out o4 q4)
  obtain ⟨e3,e3f⟩:=H3.out.slot HW4.out q4
  clear o4 q4 d3 df dl
  go_wp2
  refine bR ?_
  exact za3 HR3.out he hi3 (by simp;omega) HF4.out.1 (P3.out.trans HF4.out.2)
 have HR2:=Hd (HR.out.trans (if_neg (by rw [HI.out,Bool.and_eq_true,decide_eq_true_eq,decide_eq_true_eq];exact h82)))
 have HC:=Hd (HPC.out p ov i T a V1 HH1.out hi hn (by simp only [zbd];omega) (by omega))
 clear HR HI HHL
 by_cases h8:t.kind=8
 case' pos=>
  have b8:(t.kind==8)=true:=by simpa using h8
  have b2:(t.num==2)=false:=by simp only [beq_eq_false_iff_ne,ne_eq];exact fun e=>h82 ⟨h8,e⟩
 case' neg=>
  have b8:(t.kind==8)=false:=by simpa using h8
 all_goals
  clear h82 h8
  go_wp2_with fail
  refine HC.out.mono ?_
  intro u w2 hw
  clear x0 x1
  rcases zba hw with ⟨i2,T2,ov2,hr,hi2,rfl,ha,ht⟩ | ⟨x,er,i2,T2,ov2,hr,he,hi2,hm,rfl,ha,ht⟩
  ·have HL2:=Hd (zjy hr (by omega) hi2)
   have HR3:=Hd (show R=if zcj s.length (L.drop i2,T2) 5 then thenS (parS s.length f .sign (zan (L.drop i2,T2))) fun st=>.ok (putS { nod0 6 with op:=5 } st) else .ok (L.drop i2,T2) by rw [HR2.out,hr];rfl)
   have H2:=Hd ha
   have P2:=Hd (P1.out.trans ht)
   have hT2:L.length-i2+T2.length≤2000:=by have:=HL2.out;omega
   have hT2':i+1≤i2:=by have:=HL2.out;simp only [zay] at this;omega
   have HO:=Hd (zx4 p s L ov2 i2 T2 a 0 6)
   have HE:Hid (zcj s.length (L.drop i2,T2) 5=(decide ((zak s.length (L.drop i2,T2)).kind=8)&&decide (zbt (zak s.length (L.drop i2,T2)).num=6))):=Hd (by unfold zcj;simp only [zzg])
   have HHL:Hid (zcj s.length (L.drop i2,T2) 5=true→i2<L.length):=Hd (fun h=>by have:=zcr h;simp only [List.length_drop] at this;omega)
   have hi02:(0:Int)≤(i2:Int):=Int.natCast_nonneg _
   have hi92:(i2:Int)≤1000:=by omega
   clear ha ht hr hw HR2
   obtain ⟨_,_, -, -, -, -, -,c5, -, -,dl⟩:=H2.out.cells
   go_wp2_with fail
   refine (HO.out _ H2.out (by omega)).mono ?_
   rintro u w3 ⟨rfl,hb3⟩
   rw [← HE.out]
   have H3:=Hd (H2.out.below hb3)
   have P3:=Hd (PTo.below P2.out hb3)
   clear hb3 c5 dl
   cases hq:zcj s.length (L.drop i2,T2) 5
   ·have HR4:=Hd (show R=.ok (L.drop i2,T2) by rw [HR3.out,hq];rfl)
    clear hq
    go_wp2
    refine bE ?_
    exact zbl HR4.out hi2 H3.out P3.out
   have HR4:=Hd (show R=thenS (parS s.length f .sign (zan (L.drop i2,T2))) fun st=>.ok (putS { nod0 6 with op:=5 } st) by rw [HR3.out,hq];rfl)
   have hil:i2<L.length:=HHL.out hq
   clear hq HHL HR3
   obtain ⟨_,_, -, -,c2, -, -, -,cf, -,dl⟩:=H3.out.cells
   have H4:=Hd H3.out.step
   go_wp2_with fail
   refine (HS.out p ov2 (i2+1) T2 a _ H4.out.1 (by omega) (by omega) (by simp only [zbd];omega) (by omega)).mono ?_
   intro u w3 hw
   clear c2 cf dl
   have P4:=Hd (P3.out.trans H4.out.2)
   rcases zba hw with ⟨i3,T3,ov3,hr,hi3,rfl,ha,ht⟩ | ⟨x,er,i3,T3,ov3,hr,he,hi3,hm,rfl,ha,ht⟩
   ·have HL3:=Hd (zjy hr (by omega) hi3)
    have HR3:=Hd (show R=.ok (L.drop i3,T3++ [{ nod0 6 with op:=5 }]) by rw [HR4.out,zaz,hr];rfl)
    have H3:=Hd ha
    have P3:=Hd (P4.out.trans ht)
    have hT3:T3.length≤2000:=by have:=HL3.out;omega
    clear ha ht hr hw
    have KN4:=Hd (Blk.new w3 297 (cNod { nod0 6 with op:=5 }).toArray)
    have HN4:=Hd (H3.out.ow.alloc (.cells (cNod { nod0 6 with op:=5 }).toArray 297))
    have HW4:=Hd (show Below w3.heap.size w3 (w3.alloc (.cells (cNod { nod0 6 with op:=5 }).toArray 297)) by go_grown)
    obtain ⟨_,_, -, -, -,d3, -, -,df, -,dl⟩:=H3.out.cells
    go_wp2_with (at_builtin;refine RowKit.Hid.out ?_)
    refine Hd ?_
    refine zbf rfl _ _ rfl { nod0 6 with op:=5 } HN4.out KN4.out rfl rfl (by omega) ?_
    intro A4 m4 cp4 y4 o4 q4
    have HF4:=Hd (H3.out.putAt HW4.out o4 q4)
    obtain ⟨e3,e3f⟩:=H3.out.slot HW4.out q4
    clear o4 q4 d3 df dl
    go_wp2
    refine bE ?_
    exact zbl HR3.out (by omega) HF4.out.1 (P3.out.trans HF4.out.2)
   have HR3:=Hd (show R=.error (x,er) by rw [HR4.out,zaz,hr];rfl)
   have H3:=Hd ha
   have P3:=Hd (P4.out.trans ht)
   have hT3:T3.length≤9000:=by omega
   clear ha ht hr hw
   have KN4:=Hd (Blk.new w3 297 (cNod { nod0 6 with op:=5 }).toArray)
   have HN4:=Hd (H3.out.ow.alloc (.cells (cNod { nod0 6 with op:=5 }).toArray 297))
   have HW4:=Hd (show Below w3.heap.size w3 (w3.alloc (.cells (cNod { nod0 6 with op:=5 }).toArray 297)) by go_grown)
   obtain ⟨_,_, -, -, -,d3, -, -,df, -,dl⟩:=H3.out.cells
   go_wp2_with (at_builtin;refine RowKit.Hid.out ?_)
   refine Hd ?_
   refine zbf rfl _ _ rfl { nod0 6 with op:=5 } HN4.out KN4.out rfl rfl (by omega) ?_
   intro A4 m4 cp4 y4 o4 q4
   have HF4:=Hd (H3.out.putAt HW4.out o4 q4)
   obtain ⟨e3,e3f⟩:=H3.out.slot HW4.out q4
   clear o4 q4 d3 df dl
   go_wp2
   refine bE ?_
   exact za3 HR3.out he hi3 (by have:=HL2.out;simp;omega) HF4.out.1 (P3.out.trans HF4.out.2)
  have HR3:=Hd (show R=.error (x,er) by rw [HR2.out,hr];rfl)
  have H2:=Hd ha
  have P2:=Hd (P1.out.trans ht)
  clear ha ht hr hw HR2
  obtain ⟨_,_, -, -, -, -, -,c5, -, -,dl⟩:=H2.out.cells
  have e5:(er==0)=false:=by simpa using he
  go_wp2
  refine bE ?_
  exact za3 HR3.out he hi2 (by omega) H2.out P2.out
def PcR (p:Nat) (s:zaa) (L:List Tok) (W:World) (ov:Value) (a:Int) (n m f:Nat) (R:PRes) (wr:World):Prop:=
 (∃f' i' T' ov',R=parS s.length f' .pctl (L.drop i',T')∧i'≤L.length∧10*(L.length-i')+2≤f'∧f'≤f∧L.length-i'+T'.length≤n∧PR wr p s L ov' i' T' a 0∧PTo p W ov wr ov')∨
 (∃x er i' T' ov',R=.error (x,er)∧er≠0∧i'≤L.length+1∧T'.length≤m∧PR wr p s L ov' i' T' x er∧PTo p W ov wr ov')
def zjv (p n:Nat) (w:World):Nat:=match w.cell? ⟨p,5,none⟩,w.cell? ⟨p,2,none⟩ with
 | some (.int _ f),some (.int _ i)=>if f=0 then n+1-i.toNat else 0
 | _,_=>0
section
variable {W:World} {p:Nat} {s:zaa} {L:List Tok} {ov:Value} {i:Nat} {T:List Nod} {a f:Int}
theorem ze1 (h:PR W p s L ov i T a 0) (n:Nat):zjv p n W=n+1-i:=by
 obtain ⟨_,_, -, -,c2, -, -,c5, -⟩:=h.cells
 unfold zjv
 rw [c2,c5]
 simp
theorem zlg (h:PR W p s L ov i T a f) (hf:f≠0) (n:Nat):zjv p n W=0:=by
 obtain ⟨_,_, -, -,c2, -, -,c5, -⟩:=h.cells
 unfold zjv
 rw [c2,c5]
 simp [hf]
end
theorem zow (s:zaa) (L:List Tok) (hL:L.length≤1000) (f:Nat) (hl:RunR 334 one1 s L f .prim):RunR 317 one1 s L (f+1) .pct:=by
 intro p ov i T a W h hi hn hf hf5
 have HL:=Hd hl
 have HH:=Hd h
 simp only [zbd] at hf
 have HR:Hid (parS s.length (f+1) .pct (L.drop i,T)=thenS (parS s.length f .prim (L.drop i,T)) (parS s.length f .pctl)):=Hd rfl
 have HLP:Hid (∀f st,parS s.length (f+1) .pctl st=if zcj s.length st 13 then parS s.length f .pctl (putS (nod0 5) (zan st)) else .ok st):=Hd (fun f st=>rfl)
 generalize parS s.length (f+1) .pct (L.drop i,T)=R at HR ⊢
 clear hl h
 unfold one1
 go_enter func317,ntmps317
 go_wp2_with fail
 refine (HL.out p ov i T a W HH.out hi hn (by simp only [zbd];omega) (by omega)).mono ?_
 intro u w3 hw
 have HLP0:Hid (u=.returned (.tuple #[])∧PcR p s L W ov a (L.length-i+T.length) (T.length+(L.length-i)+(f+1)) f R w3):=Hd (by
  rcases zba hw with ⟨i3,T3,ov3,hr,hi3,rfl,ha,ht⟩ | ⟨x,er,i3,T3,ov3,hr,he,hi3,hm,rfl,ha,ht⟩
  ·have hl3:=zjy hr hi hi3
   simp only [zay] at hl3
   exact ⟨rfl,.inl ⟨f,i3,T3,ov3,by rw [HR.out,hr];rfl,hi3,by omega,Nat.le_refl _,by omega,ha,ht⟩⟩
  exact ⟨rfl,.inr ⟨x,er,i3,T3,ov3,by rw [HR.out,hr];rfl,he,hi3,by omega,ha,ht⟩⟩)
 clear hw
 obtain rfl:=HLP0.out.1
 go_wp2_with fail
 go_loopw [4] (fun _ wr=>PcR p s L W ov a (L.length-i+T.length) (T.length+(L.length-i)+(f+1)) f R wr) (fun _ wr=>zjv p L.length wr)
 case atStart=>exact HLP0.out.2
 rcases hrel with ⟨f',i',T',ov',hr,hi',hf',hff,hn',ha,ht⟩ | ⟨x,er,i',T',ov',hr,he,hi',hm,ha,ht⟩
 ·obtain ⟨f2,rfl⟩:∃f2,f'=f2+1:=⟨f'-1,by omega⟩
  have HR2:=Hd (hr.trans (HLP.out f2 (L.drop i',T')))
  have HM:=Hd (ze1 ha L.length)
  have H4:=Hd ha
  have P4:=Hd ht
  have HO:=Hd (zx4 p s L ov' i' T' a 0 7)
  have HE:Hid (zcj s.length (L.drop i',T') 13=(decide ((zak s.length (L.drop i',T')).kind=8)&&decide (zbt (zak s.length (L.drop i',T')).num=7))):=Hd (by unfold zcj;simp only [zzf])
  have HHL:Hid (zcj s.length (L.drop i',T') 13=true→i'<L.length):=Hd (fun h=>by have:=zcr h;simp only [List.length_drop] at this;omega)
  obtain ⟨_,_, -, -, -, -, -,c5, -, -,dl⟩:=ha.cells
  have hi0:(0:Int)≤(i':Int):=Int.natCast_nonneg _
  have hi9:(i':Int)≤1000:=by omega
  have hT':T'.length≤3000:=by omega
  clear hr ha ht HLP0
  go_wp2_with fail
  refine (HO.out _ H4.out (by omega)).mono ?_
  rintro u w5 ⟨rfl,hb5⟩
  rw [← HE.out]
  have H5:=Hd (H4.out.below hb5)
  have P5:=Hd (PTo.below P4.out hb5)
  clear hb5 c5 dl HO HE
  cases hq:zcj s.length (L.drop i',T') 13
  ·have HR3:=Hd (show R=.ok (L.drop i',T') by rw [HR2.out,hq];rfl)
   clear hq HR2 HHL
   go_wp2
   refine bE ?_
   exact zbl HR3.out hi' H5.out P5.out
  have hil:i'<L.length:=HHL.out hq
  have HR3:=Hd (show R=parS s.length f2 .pctl (L.drop (i'+1),T'++ [nod0 5]) by rw [HR2.out,hq,zaz];rfl)
  clear hq HR2 HHL
  obtain ⟨_,_, -, -,c2, -, -, -,cf, -,dl⟩:=H5.out.cells
  have H7':=Hd H5.out.step
  go_upto_region 3 with (fail)
  obtain ⟨W7,hW7⟩:∃V,w5.setCell ⟨p,2,none⟩ (.int .i64 ((i':Int)+1))=V:=⟨_,rfl⟩
  rw [hW7] at H7' ⊢
  clear hW7 c2 cf dl
  have H7:=Hd H7'.out.1
  have P7:=Hd (P5.out.trans H7'.out.2)
  clear H7'
  have KN9:=Hd (Blk.new W7 297 (cNod (nod0 5)).toArray)
  have HN9:=Hd (H7.out.ow.alloc (.cells (cNod (nod0 5)).toArray 297))
  have HW9:=Hd (show Below W7.heap.size W7 (W7.alloc (.cells (cNod (nod0 5)).toArray 297)) by go_grown)
  obtain ⟨_,_, -, -, -,d3, -, -,df, -,dl⟩:=H7.out.cells
  go_wp2_with (at_builtin;refine RowKit.Hid.out ?_)
  refine Hd ?_
  refine zbf rfl _ _ rfl (nod0 5) HN9.out KN9.out rfl rfl (by omega) ?_
  intro A9 m9 cp9 y9 o9 q9
  have HF9:=Hd (H7.out.putAt HW9.out o9 q9)
  obtain ⟨e3,e3f⟩:=H7.out.slot HW9.out q9
  clear o9 q9 d3 df dl
  go_wp2
  refine ⟨.inl ⟨f2,i'+1,_,_,HR3.out,by omega,by omega,by omega,by simp;omega,HF9.out.1,P7.out.trans HF9.out.2⟩,?_⟩
  rw [ze1 HF9.out.1,HM.out]
  omega
 have H4:=Hd ha
 have P4:=Hd ht
 have HR3:=Hd hr
 obtain ⟨_,_, -, -, -, -, -,c5, -, -,dl⟩:=ha.cells
 have e5:(er==0)=false:=by simpa using he
 clear hr ha ht HLP0
 go_wp2
 refine bE ?_
 exact za3 HR3.out he hi' hm H4.out P4.out
def nxtS (k:Nat):Stg:=if k<4 then .level (k+1) else .sign
theorem zpi (k:Nat) (hk:k≤4) (m:Nat):zbd (nxtS k) m≤10*m+2*(5-k)+2:=by
 unfold nxtS
 split
 ·simp only [zbd];omega
 simp only [zbd];omega
theorem zrp (k:Nat):zay (nxtS k)=1:=by
 unfold nxtS
 split <;> rfl
def LpR (p:Nat) (s:zaa) (L:List Tok) (W:World) (ov:Value) (a:Int) (n m f k:Nat) (R:PRes) (wr:World):Prop:=
 (∃f' i' T' ov',R=parS s.length f' (.loop k) (L.drop i',T')∧i'≤L.length∧10*(L.length-i')+2*(5-k)+2≤f'∧f'≤f∧L.length-i'+T'.length≤n∧PR wr p s L ov' i' T' a 0∧PTo p W ov wr ov')∨
 (∃x er i' T' ov',R=.error (x,er)∧er≠0∧i'≤L.length+1∧T'.length≤m∧PR wr p s L ov' i' T' x er∧PTo p W ov wr ov')
theorem zq1 (s:zaa) (L:List Tok) (f:Nat) (hs:RunR 296 one1 s L f .sign):RunR 261 (lev1 5) s L f .sign:=by
 intro p ov i T a W h hi hn hf hf5
 have HC:=Hd (hs p ov i T a W h hi hn hf hf5)
 clear hs h
 generalize parS s.length f .sign (L.drop i,T)=R at HC ⊢
 unfold lev1
 unfold one1 at HC
 go_enter func261,ntmps261
 go_wp2_with fail
 refine HC.out.mono ?_
 intro u w1 hw
 have HW:=Hd hw
 obtain rfl:=hw.1
 clear hw
 go_wp2
 refine bR ?_
 exact HW.out
theorem zuc (s:zaa) (L:List Tok) (hL:L.length≤1000) (k:Nat) (hk1:1≤k) (hk4:k≤4) (f:Nat) (hl:∀f',f'≤f→RunR 261 (lev1 (k+1)) s L f' (nxtS k)):RunR 261 (lev1 k) s L (f+1) (.level k):=by
 intro p ov i T a W h hi hn hf hf5
 have HL:Hid (∀f',f'≤f→RunR 261 (fun p=>#[.pointer (some ⟨p,0,none⟩),.int .i64 ((k:Int)+1)]) s L f' (nxtS k)):=Hd hl
 have HH:=Hd h
 simp only [zbd] at hf
 have HR:Hid (parS s.length (f+1) (.level k) (L.drop i,T)=thenS (parS s.length f (nxtS k) (L.drop i,T)) (parS s.length f (.loop k))):=Hd rfl
 have HLP:Hid (∀f st,parS s.length (f+1) (.loop k) st=if (zak s.length st).kind≠8∨zbt (zak s.length st).num≠k then .ok st else thenS (parS s.length f (nxtS k) (zan st)) fun st'=>parS s.length f (.loop k) (putS { nod0 6 with op:=(zak s.length st).num } st')):=Hd (fun f st=>rfl)
 have HND:=Hd (zpi k hk4)
 have HUS:=Hd (zrp k)
 generalize nxtS k=G at *
 generalize parS s.length (f+1) (.level k) (L.drop i,T)=R at HR ⊢
 have k0:(0:Int)≤(k:Int):=by omega
 have k4:(k:Int)≤4:=by omega
 have k5:((k:Int)==5)=false:=by simp only [beq_eq_false_iff_ne,ne_eq];omega
 have hno:zbd G (L.length-i)≤f:=by have:=HND.out (L.length-i);omega
 clear hl h
 unfold lev1
 go_enter func261,ntmps261
 go_wp2_with fail
 refine (HL.out f (Nat.le_refl _) p ov i T a W HH.out hi hn hno (by omega)).mono ?_
 intro u w3 hw
 have HLP0:Hid (u=.returned (.tuple #[])∧LpR p s L W ov a (L.length-i+T.length) (T.length+(L.length-i)+(f+1)) f k R w3):=Hd (by
  rcases zba hw with ⟨i3,T3,ov3,hr,hi3,rfl,ha,ht⟩ | ⟨x,er,i3,T3,ov3,hr,he,hi3,hm,rfl,ha,ht⟩
  ·have hl3:=zjy hr hi hi3
   rw [HUS.out] at hl3
   exact ⟨rfl,.inl ⟨f,i3,T3,ov3,by rw [HR.out,hr];rfl,hi3,by omega,Nat.le_refl _,by omega,ha,ht⟩⟩
  exact ⟨rfl,.inr ⟨x,er,i3,T3,ov3,by rw [HR.out,hr];rfl,he,hi3,by omega,ha,ht⟩⟩)
 clear hw
 obtain rfl:=HLP0.out.1
 go_wp2_with fail
 go_loopw [4] (fun _ wr=>LpR p s L W ov a (L.length-i+T.length) (T.length+(L.length-i)+(f+1)) f k R wr) (fun _ wr=>zjv p L.length wr)
 case atStart=>exact HLP0.out.2
 rcases hrel with ⟨f',i',T',ov',hr,hi',hf',hff,hn',ha,ht⟩ | ⟨x,er,i',T',ov',hr,he,hi',hm,ha,ht⟩
 ·obtain ⟨f2,rfl⟩:∃f2,f'=f2+1:=⟨f'-1,by omega⟩
  have HR2:=Hd (hr.trans (HLP.out f2 (L.drop i',T')))
  have HM:=Hd (ze1 ha L.length)
  have H4:=Hd ha
  have P4:=Hd ht
  have HHL:Hid ((zak s.length (L.drop i',T')).kind≠0→i'<L.length):=Hd zfk
  have HO:=Hd (zx4 p s L ov' i' T' a 0 k)
  have HN2:=Hd (zcl p s L ov' i' T' a 0)
  obtain ⟨_,_, -, -, -, -, -,c5, -, -,dl⟩:=ha.cells
  have hi0:(0:Int)≤(i':Int):=Int.natCast_nonneg _
  have hi9:(i':Int)≤1000:=by omega
  clear hr ha ht HLP0
  generalize zak s.length (L.drop i',T')=t at *
  go_wp2_with fail
  refine (HO.out _ H4.out (by omega)).mono ?_
  rintro u w5 ⟨rfl,hb5⟩
  have H5:=Hd (H4.out.below hb5)
  have P5:=Hd (PTo.below P4.out hb5)
  clear hb5 c5 dl HO
  by_cases hq:t.kind=8∧zbt t.num=k
  rotate_left
  ·have HR3:=Hd (HR2.out.trans (if_pos (Classical.byCases (fun h8:t.kind=8=>.inr (fun h2=>hq ⟨h8,h2⟩)) (fun h8=>.inl h8))))
   rw [show (decide (t.kind=8)&&decide (zbt t.num=(k:Int)))=false by rw [← Bool.not_eq_true,Bool.and_eq_true,decide_eq_true_eq,decide_eq_true_eq];exact hq]
   clear hq HR2 HHL
   go_wp2
   refine bE ?_
   exact zbl HR3.out hi' H5.out P5.out
  have hil:i'<L.length:=HHL.out (by omega)
  have HR3:=Hd (HR2.out.trans (if_neg (by rw [not_or];exact ⟨fun h=>h hq.1,fun h=>h hq.2⟩)))
  rw [show (decide (t.kind=8)&&decide (zbt t.num=(k:Int)))=true by rw [hq.1,hq.2];simp]
  clear hq HR2 HHL
  go_wp2_with fail
  refine (HN2.out _ H5.out (by omega)).mono ?_
  rintro u w6 ⟨rfl,hb6⟩
  have H6:=Hd (H5.out.below hb6)
  have P6:=Hd (PTo.below P5.out hb6)
  obtain ⟨_,_, -, -,c2, -, -, -,cf, -,dl⟩:=H6.out.cells
  have H7:=Hd H6.out.step
  clear hb6 HN2
  have hf1:∀W,(Instr.field 239 (.agg #[.int .u8 t.kind,.int .i64 t.num,str t.text,.int .i64 t.rect.c1,.int .i64 t.rect.r1,.int .i64 t.rect.c2,.int .i64 t.rect.r2,.int .i64 t.at_]) 1).run prog W=.ok (.int .i64 t.num) W:=fun _=>by rfl
  rw [show (cTok t).toArray=#[.int .u8 t.kind,.int .i64 t.num,str t.text,.int .i64 t.rect.c1,.int .i64 t.rect.r1,.int .i64 t.rect.c2,.int .i64 t.rect.r2,.int .i64 t.at_] from rfl]
  go_wp2_with fail
  refine (HL.out f2 (by omega) p ov' (i'+1) T' a _ H7.out.1 (by omega) (by omega) (by have:=HND.out (L.length-(i'+1));omega) (by omega)).mono ?_
  intro u w8 hw
  clear c2 cf dl
  have P7:=Hd (P6.out.trans H7.out.2)
  rcases zba hw with ⟨i8,T8,ov8,hr,hi8,rfl,ha,ht⟩ | ⟨x,er,i8,T8,ov8,hr,he,hi8,hm,rfl,ha,ht⟩
  ·have hl8:=zjy hr (by omega) hi8
   rw [HUS.out] at hl8
   have HL8:=Hd hl8
   have HR4:=Hd (show R=parS s.length f2 (.loop k) (L.drop i8,T8++ [{ nod0 6 with op:=t.num }]) by rw [HR3.out,zaz,hr];rfl)
   have H8:=Hd ha
   have P8:=Hd (P7.out.trans ht)
   have hT8:T8.length≤3000:=by have:=HL8.out;omega
   clear ha ht hr hw hl8
   have KN9:=Hd (Blk.new w8 297 (cNod { nod0 6 with op:=t.num }).toArray)
   have HN9:=Hd (H8.out.ow.alloc (.cells (cNod { nod0 6 with op:=t.num }).toArray 297))
   have HW9:=Hd (show Below w8.heap.size w8 (w8.alloc (.cells (cNod { nod0 6 with op:=t.num }).toArray 297)) by go_grown)
   obtain ⟨_,_, -, -, -,d3, -, -,df, -,dl⟩:=H8.out.cells
   go_wp2_with (at_builtin;refine RowKit.Hid.out ?_)
   refine Hd ?_
   refine zbf rfl _ _ rfl { nod0 6 with op:=t.num } HN9.out KN9.out rfl rfl (by omega) ?_
   intro A9 m9 cp9 y9 o9 q9
   have HF9:=Hd (H8.out.putAt HW9.out o9 q9)
   obtain ⟨e3,e3f⟩:=H8.out.slot HW9.out q9
   clear o9 q9 d3 df dl
   go_wp2
   refine ⟨.inl ⟨f2,i8,_,_,HR4.out,hi8,by have:=HL8.out;omega,by omega,by have:=HL8.out;simp;omega,HF9.out.1,P8.out.trans HF9.out.2⟩,?_⟩
   rw [ze1 HF9.out.1,HM.out]
   have:=HL8.out
   omega
  have HR4:=Hd (show R=.error (x,er) by rw [HR3.out,zaz,hr];rfl)
  have H8:=Hd ha
  have P8:=Hd (P7.out.trans ht)
  have hT8:T8.length≤9000:=by omega
  clear ha ht hr hw
  have KN9:=Hd (Blk.new w8 297 (cNod { nod0 6 with op:=t.num }).toArray)
  have HN9:=Hd (H8.out.ow.alloc (.cells (cNod { nod0 6 with op:=t.num }).toArray 297))
  have HW9:=Hd (show Below w8.heap.size w8 (w8.alloc (.cells (cNod { nod0 6 with op:=t.num }).toArray 297)) by go_grown)
  obtain ⟨_,_, -, -, -,d3, -, -,df, -,dl⟩:=H8.out.cells
  go_wp2_with (at_builtin;refine RowKit.Hid.out ?_)
  refine Hd ?_
  refine zbf rfl _ _ rfl { nod0 6 with op:=t.num } HN9.out KN9.out rfl rfl (by omega) ?_
  intro A9 m9 cp9 y9 o9 q9
  have HF9:=Hd (H8.out.putAt HW9.out o9 q9)
  obtain ⟨e3,e3f⟩:=H8.out.slot HW9.out q9
  clear o9 q9 d3 df dl
  go_wp2
  refine ⟨.inr ⟨x,er,i8,_,_,HR4.out,he,hi8,by simp;omega,HF9.out.1,P8.out.trans HF9.out.2⟩,?_⟩
  rw [zlg HF9.out.1 he,HM.out]
  omega
 have H4:=Hd ha
 have P4:=Hd ht
 have HR3:=Hd hr
 obtain ⟨_,_, -, -, -, -, -,c5, -, -,dl⟩:=ha.cells
 have e5:(er==0)=false:=by simpa using he
 clear hr ha ht HLP0
 go_wp2
 refine bE ?_
 exact za3 HR3.out he hi' hm H4.out P4.out
end Go.Proofs.YtamcgggmfghljaaGreatDoor
