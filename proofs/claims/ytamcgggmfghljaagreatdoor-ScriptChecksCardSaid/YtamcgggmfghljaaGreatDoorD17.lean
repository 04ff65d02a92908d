/- Layer 41 (reference): the writer writes integers, flags, texts, ranges, sets (printed by t -/
import Derived.Test.YtamcgggmfghljaaGreatDoorD13
import Derived.Test.YtamcgggmfghljaaGreatDoorD16
set_option maxRecDepth 100000
set_option maxHeartbeats 8000000
open Go.Proofs.Tryz
namespace Go.Proofs.YtamcgggmfghljaaGreatDoor
open Go.RowKit
theorem WTo.ne {p g:Nat} {W W1:World} {v v1:Value} (t:WTo p W v W1 v1) (hg:g<W.heap.size) (h:v.ownBlock≠some g):v1.ownBlock≠some g:=fun e=>by
 rcases t.own g e with e | e
 ·exact h e
 omega
theorem WTo.before {p:Nat} {W W0 W1:World} {v v1:Value} (t:WTo p W0 v W1 v1) (hb:Below W.heap.size W W0):WTo p W v W1 v1:=
 ⟨(Chg.of_below hb _ (fun _k hk _=>hk)).trans t.chg,fun k hk=>(t.own k hk).elim .inl (fun e=>.inr (Nat.le_trans hb.size e))⟩
structure WS (W0:World) (p:Nat) (v0:Value) (g:Nat) (T:TypeId) (cs:Array Value) (W:World) (v:Value) (l:zaa):Prop where
 wr:WrAt W p v l
 to_:WTo p W0 v0 W v
 kb:Blk W g T cs
 ne:v.ownBlock≠some g
 gp:g≠p
section
variable {W0 W W1:World} {p g:Nat} {v0 v v1:Value} {T:TypeId} {cs:Array Value} {l l1:zaa}
theorem WS.next (h:WS W0 p v0 g T cs W v l) (h1:WrAt W1 p v1 l1) (t:WTo p W v W1 v1):WS W0 p v0 g T cs W1 v1 l1:=
 ⟨h1,h.to_.trans t,t.blk h.kb h.gp h.ne,t.ne h.kb.lt h.ne,h.gp⟩
theorem WS.start (h:WrAt W p v l) (T:TypeId) (cs:Array Value):WS W p v W.heap.size T cs (W.alloc (.cells cs T)) v l:=
 ⟨h.below (by go_grown),(WTo.refl p W v).below (by go_grown),Blk.new W T cs,fun e=>by have:=h.ow.lt _ e;omega,by have:=h.lt;omega⟩
end
theorem zbs (p:Nat) (v:Value) (l:zaa) (n:Int) (W:World) (h:WrAt W p v l) (hl:l.length≤100000000000):
 Calls prog 29 #[.pointer (some ⟨p,0,none⟩),.int .i64 n] W fun u W'=>u=.returned (.tuple #[])∧∃v',WrAt W' p v' (l++numI n)∧WTo p W v W' v':=by
 have HC:=Hd (zdo p v l (IntKind.u64.wrap n) W (by rw [IntKind.wrap_u64];omega) (by rw [IntKind.wrap_u64];omega) h hl)
 have HE:=Hd (show numI (IntKind.u64.wrap n)=numI n by unfold numI;rw [IntKind.wrap_u64];congr 1;omega)
 rw [HE.out] at HC
 clear h
 go_enter func29,ntmps29
 go_wp2_with fail
 refine HC.out.mono ?_
 rintro u w1 ⟨rfl,hk⟩
 have HK:=Hd hk
 clear hk
 go_wp2
 refine bE ?_
 exact ⟨rfl,HK.out⟩
theorem zqw (p:Nat) (v:Value) (l:zaa) (b:Bool) (W:World) (h:WrAt W p v l) (hl:l.length≤100000000000):
 Calls prog 108 #[.pointer (some ⟨p,0,none⟩),.bool b] W fun u W'=>u=.returned (.tuple #[])∧∃v',WrAt W' p v' (l++zhz b)∧WTo p W v W' v':=by
 cases b with
 | true=>
  have HC:=Hd (show _ from zdo p v l 1 W (by omega) (by omega) h hl)
  have HE:=Hd (show zhz true=numI 1 from rfl)
  rw [HE.out]
  clear h
  go_enter func108,ntmps108
  go_wp2_with fail
  refine HC.out.mono ?_
  rintro u w1 ⟨rfl,hk⟩
  have HK:=Hd hk
  clear hk
  go_wp2
  refine bE ?_
  exact ⟨rfl,HK.out⟩
 | false=>
  have HC:=Hd (show _ from zdo p v l 0 W (by omega) (by omega) h hl)
  have HE:=Hd (show zhz false=numI 0 from rfl)
  rw [HE.out]
  clear h
  go_enter func108,ntmps108
  go_wp2_with fail
  refine HC.out.mono ?_
  rintro u w1 ⟨rfl,hk⟩
  have HK:=Hd hk
  clear hk
  go_wp2
  refine bE ?_
  exact ⟨rfl,HK.out⟩
theorem zqv (p:Nat) (v:Value) (l:zaa) (s:zaa) (W:World) (h:WrAt W p v l) (hl:l.length≤10000000000) (hs:s.length≤10000000000):
 Calls prog 104 #[.pointer (some ⟨p,0,none⟩),str s] W fun u W'=>u=.returned (.tuple #[])∧∃v',WrAt W' p v' (l++zcy s)∧WTo p W v W' v':=by
 obtain ⟨i0,hi0,hz0,hz1,hz2⟩:=info_parts (show (prog.info? 5).map (fun i=>(i.zero,i.size,i.bytes))=some (some (.int .u8 0),1,1) by kernel_rfl)
 have HC:=Hd (zbs p v l s.length W h (by omega))
 have HE:=Hd (show l++zcy s=(l++numI s.length)++s by unfold zcy;rw [List.append_assoc])
 have HL:=Hd (show (l++numI s.length).length≤1000000000000 by rw [List.length_append];have:=zab s.length;omega)
 rw [HE.out]
 generalize l++numI s.length=l1 at *
 clear h
 go_enter func104,ntmps104
 go_wp2_with fail
 refine HC.out.mono ?_
 rintro u w1 ⟨rfl,v1,h1,t1⟩
 have H1:=Hd h1
 have T1:=Hd t1
 have c0:w1.cell? ⟨p,0,none⟩=some v1:=h1.bx.cell 0
 have hlt:=h1.lt
 clear h1 t1
 go_wp2_with (at_builtin;refine RowKit.Hid.out ?_)
 refine Hd ?_
 refine zen rfl _ _ 59 9 rfl i0 underlying59 underlying9 hi0 hz0 hz1 hz2 v1 l1 s rfl H1.out.ow rfl HL.out (by omega) ?_
 intro v2 w2 o2 t2
 obtain ⟨A2,n2,cap2,e2⟩:=zf8 o2
 subst e2
 have HP:=Hd (H1.out.put o2 t2)
 have fz:w2.frozen? ⟨p,0,none⟩=false:=(H1.out.bx.outTo t2 H1.out.ne).frozen 0
 have c1:w2.cell? ⟨p,0,none⟩=some v1:=(H1.out.bx.outTo t2 H1.out.ne).cell 0
 clear o2 t2 c0
 go_wp2
 refine bE ?_
 exact ⟨rfl,_,HP.out.1,T1.out.trans HP.out.2⟩
theorem zhc (p:Nat) (v:Value) (l:zaa) (x:Rct) (W:World) (h:WrAt W p v l) (hl:l.length≤10000000000):
 Calls prog 105 #[.pointer (some ⟨p,0,none⟩),.agg #[.int .i64 x.c1,.int .i64 x.r1,.int .i64 x.c2,.int .i64 x.r2]] W fun u W'=>u=.returned (.tuple #[])∧∃v',WrAt W' p v' (l++za7 x)∧WTo p W v W' v':=by
 have HS0:=Hd (WS.start h 43 #[.int .i64 x.c1,.int .i64 x.r1,.int .i64 x.c2,.int .i64 x.r2])
 have hL0:=Hd hl
 clear h hl
 go_enter func105,ntmps105
 have c0:World.cell? _ ⟨W.heap.size,0,none⟩=some (.int .i64 x.c1):=HS0.out.kb.cell 0
 have g0:=HS0.out.kb.lt
 go_wp2_with fail
 refine (zbs p _ (l) x.c1 _ HS0.out.wr (by have:=hL0.out;omega)).mono ?_
 rintro u W1 ⟨rfl,v1,h1,t1⟩
 have HS1:=Hd (HS0.out.next h1 t1)
 have hL1:=Hd (show (l++numI x.c1).length≤10000000000+9 by rw [List.length_append];have:=zab x.c1;have:=hL0.out;omega)
 clear h1 t1 c0 g0
 have c1:World.cell? _ ⟨W.heap.size,1,none⟩=some (.int .i64 x.r1):=HS1.out.kb.cell 1
 have g1:=HS1.out.kb.lt
 go_wp2_with fail
 refine (zbs p _ (l++numI x.c1) x.r1 _ HS1.out.wr (by have:=hL1.out;omega)).mono ?_
 rintro u W2 ⟨rfl,v2,h2,t2⟩
 have HS2:=Hd (HS1.out.next h2 t2)
 have hL2:=Hd (show (l++numI x.c1++numI x.r1).length≤10000000000+18 by rw [List.length_append];have:=zab x.r1;have:=hL1.out;omega)
 clear h2 t2 c1 g1
 have c2:World.cell? _ ⟨W.heap.size,2,none⟩=some (.int .i64 x.c2):=HS2.out.kb.cell 2
 have g2:=HS2.out.kb.lt
 go_wp2_with fail
 refine (zbs p _ (l++numI x.c1++numI x.r1) x.c2 _ HS2.out.wr (by have:=hL2.out;omega)).mono ?_
 rintro u W3 ⟨rfl,v3,h3,t3⟩
 have HS3:=Hd (HS2.out.next h3 t3)
 have hL3:=Hd (show (l++numI x.c1++numI x.r1++numI x.c2).length≤10000000000+27 by rw [List.length_append];have:=zab x.c2;have:=hL2.out;omega)
 clear h3 t3 c2 g2
 have c3:World.cell? _ ⟨W.heap.size,3,none⟩=some (.int .i64 x.r2):=HS3.out.kb.cell 3
 have g3:=HS3.out.kb.lt
 go_wp2_with fail
 refine (zbs p _ (l++numI x.c1++numI x.r1++numI x.c2) x.r2 _ HS3.out.wr (by have:=hL3.out;omega)).mono ?_
 rintro u W4 ⟨rfl,v4,h4,t4⟩
 have HS4:=Hd (HS3.out.next h4 t4)
 clear h4 t4 c3 g3
 go_wp2
 refine bE ?_
 refine ⟨rfl,_,?_,HS4.out.to_⟩
 have:=HS4.out.wr
 simpa [za7,List.append_assoc] using this
theorem zks (p:Nat) (v:Value) (l:zaa) (x:Rts) (hu:0≤x.rd∧x.rd<18446744073709551616∧0≤x.wr∧x.wr<18446744073709551616∧0≤x.ow∧x.ow<18446744073709551616) (W:World) (h:WrAt W p v l) (hl:l.length≤10000000000):
 Calls prog 106 #[.pointer (some ⟨p,0,none⟩),.agg #[.int .u64 x.rd,.int .u64 x.wr,.int .u64 x.ow]] W fun u W'=>u=.returned (.tuple #[])∧∃v',WrAt W' p v' (l++zcb x)∧WTo p W v W' v':=by
 have HS0:=Hd (WS.start h 46 #[.int .u64 x.rd,.int .u64 x.wr,.int .u64 x.ow])
 have hL0:=Hd hl
 clear h hl
 go_enter func106,ntmps106
 have c0:World.cell? _ ⟨W.heap.size,0,none⟩=some (.int .u64 x.rd):=HS0.out.kb.cell 0
 have g0:=HS0.out.kb.lt
 go_wp2_with fail
 refine (zdo p _ (l) x.rd _ hu.1 hu.2.1 HS0.out.wr (by have:=hL0.out;omega)).mono ?_
 rintro u W1 ⟨rfl,v1,h1,t1⟩
 have HS1:=Hd (HS0.out.next h1 t1)
 have hL1:=Hd (show (l++numI x.rd).length≤10000000000+9 by rw [List.length_append];have:=zab x.rd;have:=hL0.out;omega)
 clear h1 t1 c0 g0
 have c1:World.cell? _ ⟨W.heap.size,1,none⟩=some (.int .u64 x.wr):=HS1.out.kb.cell 1
 have g1:=HS1.out.kb.lt
 go_wp2_with fail
 refine (zdo p _ (l++numI x.rd) x.wr _ hu.2.2.1 hu.2.2.2.1 HS1.out.wr (by have:=hL1.out;omega)).mono ?_
 rintro u W2 ⟨rfl,v2,h2,t2⟩
 have HS2:=Hd (HS1.out.next h2 t2)
 have hL2:=Hd (show (l++numI x.rd++numI x.wr).length≤10000000000+18 by rw [List.length_append];have:=zab x.wr;have:=hL1.out;omega)
 clear h2 t2 c1 g1
 have c2:World.cell? _ ⟨W.heap.size,2,none⟩=some (.int .u64 x.ow):=HS2.out.kb.cell 2
 have g2:=HS2.out.kb.lt
 go_wp2_with fail
 refine (zdo p _ (l++numI x.rd++numI x.wr) x.ow _ hu.2.2.2.2.1 hu.2.2.2.2.2 HS2.out.wr (by have:=hL2.out;omega)).mono ?_
 rintro u W3 ⟨rfl,v3,h3,t3⟩
 have HS3:=Hd (HS2.out.next h3 t3)
 clear h3 t3 c2 g2
 go_wp2
 refine bE ?_
 refine ⟨rfl,_,?_,HS3.out.to_⟩
 have:=HS3.out.wr
 simpa [zcb,List.append_assoc] using this
theorem zmj (c:Nat) (w:World) (h1:1≤c) (h7:c≤7):
 Calls prog 280 #[.int .i64 c] w fun u w'=>u=.returned (.bool (decide (c≤5)))∧w=w':=by
 have e1:1≤(c:Int):=by omega
 by_cases h:c≤5
 ·have e2:(c:Int)≤5:=by omega
  have HD:=Hd (show decide (c≤5)=true by simpa using h)
  clear h
  go_enter func280,ntmps280
  go_wp2
  go_ret
  exact ⟨by rw [HD.out];rfl,rfl⟩
 have e2:¬(c:Int)≤5:=by omega
 have HD:=Hd (show decide (c≤5)=false by simpa using h)
 clear h
 go_enter func280,ntmps280
 go_wp2
 go_ret
 exact ⟨by rw [HD.out];rfl,rfl⟩
theorem zy8 (c:Nat) (h1:1≤c) (h5:c≤5):∃x,zg3[c]?=some x∧zfw.drop (c-1)=x::zfw.drop c∧x.length≤7:=by
 rcases (by omega:c=1∨c=2∨c=3∨c=4∨c=5) with rfl | rfl | rfl | rfl | rfl <;> exact ⟨_,rfl,rfl,by decide⟩
theorem zvu (g:Nat) (s:zaa) (i:Nat) (w:World) (hs:s.length≤1000000) (hi:i≤s.length) (hg:Blk w g 263 #[str s]) (hw:Words w):
 Calls prog 249 #[.pointer (some ⟨g,0,none⟩),.int .i64 i] w fun u w'=>u=.returned (.tuple #[.agg (cTok (zc6 s i).1).toArray,.int .i64 (zc6 s i).2])∧Below w.heap.size w w':=by
 have HW:=Hd hw
 clear hw
 have HG0:=Hd (hg.alloc (.cells #[.int .u8 0,.int .i64 0,str [],.int .i64 0,.int .i64 0,.int .i64 0,.int .i64 0,.int .i64 0] 239))
 have hgl:=hg.lt
 clear hg
 have hi0:(0:Int)≤(i:Int):=Int.natCast_nonneg _
 have hi1:(i:Int)≤(s.length:Int):=by omega
 have KZ0:=Hd (show TokZ _ w.heap.size from Blk.new w 239 #[.int .u8 0,.int .i64 0,str [],.int .i64 0,.int .i64 0,.int .i64 0,.int .i64 0,.int .i64 0])
 have HB0:=Hd (show Below w.heap.size w (w.alloc (.cells #[.int .u8 0,.int .i64 0,str [],.int .i64 0,.int .i64 0,.int .i64 0,.int .i64 0,.int .i64 0] 239)) from by go_grown)
 go_enter func249,ntmps249
 go_wp2_with fail
 go_loopw [6] (fun v wr=>∃c:Nat,1≤c∧c≤6∧v=.int .i64 c∧zc6 s i=zdd s i c (zfw.drop (c-1))∧Blk wr g 263 #[str s]∧TokZ wr w.heap.size∧Below w.heap.size w wr) (fun v _=>7-(intOf v).toNat)
 case atStart=>exact ⟨1,by omega,by omega,rfl,rfl,HG0.out,KZ0.out,HB0.out⟩
 obtain ⟨c,hc1,hc6,rfl,hfl,hgw,hkz,hbw⟩:=hrel
 have HFL:=Hd hfl
 have HGW:=Hd hgw
 have HKZ:=Hd hkz
 have HBW:=Hd hbw
 clear hfl hgw hkz hbw
 have c0:(0:Int)≤(c:Int):=by omega
 have c7:(c:Int)≤7:=by omega
 go_wp2_with fail
 refine (zmj c _ hc1 (by omega)).mono ?_
 rintro u w1 ⟨rfl,rfl⟩
 by_cases h5:c≤5
 rotate_left
 ·have hd:decide (c≤5)=false:=by simpa using h5
  have HE:=Hd (show zc6 s i=(tok0,0) by rw [HFL.out,show c=6 by omega];rfl)
  rw [hd]
  obtain ⟨q0,q1,q2,q3,q4,q5,q6,q7,qf⟩:=zac HKZ.out
  go_wp2
  refine bodyPost_ret (v:=.tuple #[.agg (cTok tok0).toArray,.int .i64 0]) (by simp (maxDischargeDepth:=9) [results,results249,go_sem,q0,q1,q2,q3,q4,q5,q6,q7,cTok,z4,tok0]) rfl ?_
  rw [HE.out]
  exact ⟨rfl,zal HBW.out (Nat.le_refl _) _ _ _ _ _ _ _ _⟩
 have hd:decide (c≤5)=true:=by simpa using h5
 rw [hd]
 obtain ⟨x,hx,hdr,hxl⟩:=zy8 c hc1 h5
 have HDR:=Hd hdr
 have HX:=Hd hx
 clear hd hdr hx
 go_wp2_with fail
 refine (zsq c _ (by omega) (by omega)).mono ?_
 rintro u w1 ⟨rfl,hb⟩
 have HB1:=Hd (show Below w.heap.size w w1 from Below.next HBW.out hb HBW.out.size)
 have HG1:=Hd (HGW.out.below_ hb)
 have KZ1:=Hd (HKZ.out.below_ hb)
 clear hb
 go_wp2_with fail
 refine (zt4 c x _ hc1 h5 HX.out (HW.out.below HB1.out)).mono ?_
 rintro u w2 ⟨rfl,hb⟩
 have HB2:=Hd (show Below w.heap.size w w2 from Below.next HB1.out hb HB1.out.size)
 have HG2:=Hd (HG1.out.below_ hb)
 have KZ2:=Hd (KZ1.out.below_ hb)
 clear hb
 have hgc:w2.cell? ⟨g,0,none⟩=some (str s):=HG2.out.cell 0
 have hx7:(x.length:Int)≤7:=by omega
 by_cases hfit:i+x.length≤s.length
 rotate_left
 ·have hf1:¬(i:Int)+(x.length:Int)≤(s.length:Int):=by omega
  have HN:=Hd (show zc6 s i=zdd s i ((c+1:Nat):Int) (zfw.drop (c+1-1)) by
   rw [HFL.out,HDR.out]
   conv=>lhs;unfold zdd
   rw [if_neg (fun h=>hfit h.1)]
   rfl)
  go_wp2
  exact ⟨⟨c+1,by omega,by omega,by go_num,HN.out,HG2.out,KZ2.out,HB2.out⟩,by simp [intOf];omega⟩
 have hf1:(i:Int)+(x.length:Int)≤(s.length:Int):=by omega
 have hf2:(i:Int)≤(i:Int)+(x.length:Int):=by omega
 go_wp2_with fail
 rw [zcs]
 refine (zd7 _ _ (by simp;omega)).mono ?_
 rintro u w3 ⟨rfl,hb⟩
 have HB3:=Hd (show Below w.heap.size w w3 from Below.next HB2.out hb HB2.out.size)
 have HG3:=Hd (HG2.out.below_ hb)
 have KZ3:=Hd (KZ2.out.below_ hb)
 clear hb hgc
 rw [show upB ((s.drop i).take x.length)=((s.drop i).take x.length).map upU from rfl]
 by_cases heq:((s.drop i).take x.length).map upU=x
 ·have HE:=Hd (show zc6 s i=(⟨4,c,[],z4,i⟩,x.length) by rw [HFL.out,HDR.out];unfold zdd;rw [if_pos ⟨hfit,heq⟩])
  have heq2:(((s.drop i).take x.length).map upU==x)=true:=by simpa using heq
  generalize ((s.drop i).take x.length).map upU=y at heq2 ⊢
  clear heq
  obtain ⟨q0,q1,q2,q3,q4,q5,q6,q7,qf⟩:=zac KZ3.out
  go_wp2
  refine bodyPost_ret (v:=.tuple #[.agg (cTok ⟨4,c,[],z4,i⟩).toArray,.int .i64 x.length]) (by simp (maxDischargeDepth:=9) [results,results249,go_sem,q0,q1,q2,q3,q4,q5,q6,q7,cTok,z4]) rfl ?_
  rw [HE.out]
  exact ⟨rfl,zal HB3.out (Nat.le_refl _) _ _ _ _ _ _ _ _⟩
 have HN:=Hd (show zc6 s i=zdd s i ((c+1:Nat):Int) (zfw.drop (c+1-1)) by
  rw [HFL.out,HDR.out]
  conv=>lhs;unfold zdd
  rw [if_neg (fun h=>heq h.2)]
  rfl)
 have heq2:(((s.drop i).take x.length).map upU==x)=false:=by simpa using heq
 generalize ((s.drop i).take x.length).map upU=y at heq2 ⊢
 clear heq
 go_wp2
 exact ⟨⟨c+1,by omega,by omega,by go_num,HN.out,HG3.out,KZ3.out,HB3.out⟩,by simp [intOf];omega⟩
theorem zjq (w:World):Calls prog 255 #[.bool true] w fun u w'=>u=.returned (.agg #[.int .u8 2,.int .i64 1,str []])∧Below w.heap.size w w':=by
 go_enter func255,ntmps255
 go_wp2
 refine bodyPost_ret (v:=.agg #[.int .u8 2,.int .i64 1,str []]) (by simp (maxDischargeDepth:=9) [results,results255,go_sem]) rfl ?_
 exact ⟨rfl,by go_grown⟩
theorem zk5 (w:World):Calls prog 255 #[.bool false] w fun u w'=>u=.returned (.agg #[.int .u8 2,.int .i64 0,str []])∧Below w.heap.size w w':=by
 go_enter func255,ntmps255
 go_wp2
 refine bodyPost_ret (v:=.agg #[.int .u8 2,.int .i64 0,str []]) (by simp (maxDischargeDepth:=9) [results,results255,go_sem]) rfl ?_
 exact ⟨rfl,by go_grown⟩
theorem zjr (n:Int) (h1:1≤n) (h7:n≤7) (w:World):Calls prog 257 #[.int .i64 n] w fun u w'=>u=.returned (.agg #[.int .u8 4,.int .i64 n,str []])∧Below w.heap.size w w':=by
 have e1:¬n<1:=by omega
 have e2:¬7<n:=by omega
 go_enter func257,ntmps257
 go_wp2
 refine bodyPost_ret (v:=.agg #[.int .u8 4,.int .i64 n,str []]) (by simp (maxDischargeDepth:=9) [results,results257,go_sem]) rfl ?_
 exact ⟨rfl,by go_grown⟩
theorem OpTo.rd {p g:Nat} {W W1 W2:World} {r1 r2:Rd} {x:Opr} (h:RdTo p W W1 r1) (k:OpTo p g W1 W2 r2 x) (hg:W.heap.size≤g):RdTo p W W2 r2:=
 ⟨k.blk,⟨k.chg.os.trans h.chg.os,k.chg.tape.trans h.chg.tape,k.chg.output.trans h.chg.output,Nat.le_trans h.chg.size k.chg.size,fun i hi hs=>
  (k.chg.block i (Nat.lt_of_lt_of_le hi h.chg.size) (by rintro (e | e);exact hs e;omega)).trans (h.chg.block i hi hs)⟩⟩
theorem OpTo.trans {p g:Nat} {W W1 W2:World} {r1 r2:Rd} {x1 x2:Opr} (h:OpTo p g W W1 r1 x1) (k:OpTo p g W1 W2 r2 x2):OpTo p g W W2 r2 x2:=⟨k.blk,k.op,h.chg.trans k.chg⟩
end Go.Proofs.YtamcgggmfghljaaGreatDoor
