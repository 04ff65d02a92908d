/- walk -/
import Derived.ChangeMaps4
import Derived.Test.YtamcgggmfghljaaGreatDoorE7
import Derived.Test.YtamcgggmfghljaaGreatDoorE8
set_option maxRecDepth 100000
set_option maxHeartbeats 8000000
open Go.Proofs.Tryz
namespace Go.Proofs.YtamcgggmfghljaaGreatDoor
open Go.RowKit
variable {P:Program} {c:UInt8} {v:Value} {w w':World}
def zi2:List zaa:=[[],[35,68,73,86,47,48,33],[35,86,65,76,85,69,33],[35,78,85,77,33],[35,78,47,65],[35,82,69,70,33],[35,67,89,67,76,69,33],[35,68,69,78,73,69,68]]
def Words (w:World):Prop:=(∀(j:Nat) (s:zaa),zi2[j]?=some s->w.cell? (0,j)=some (str s))/\0<w.heap.size
theorem Words.below (h:Words w) (hb:Below w w w'):Words w':=⟨λj s hj=>(hb.cell (p:=⟨0,j,none⟩) h.2).trans (h.1 j s hj),jG h.2 hb.size⟩
theorem z0o (s:zaa) (w:World) (hl:s.length<=1000000) (hw:Words w):
 Calls prog 217 #[str s] w λu w'=>∃c e:Int,u=.returned (.tuple #[.int .i64 c,.int .i64 e])/\Below w w w':=by
 have HW:=Hd hw;clear hw;have x0:∀W:World,(Instr.index 257 (.agg #[str [],str [35,68,73,86,47,48,33],str [35,86,65,76,85,69,33],str [35,78,85,77,33],str [35,78,47,65],str [35,82,69,70,33],str [35,67,89,67,76,69,33],str [35,68,69,78,73,69,68]]) (.int .i64 0)).run prog W=.ok (str []) W:=λW=>by rfl
 have x1:∀W:World,(Instr.index 257 (.agg #[str [],str [35,68,73,86,47,48,33],str [35,86,65,76,85,69,33],str [35,78,85,77,33],str [35,78,47,65],str [35,82,69,70,33],str [35,67,89,67,76,69,33],str [35,68,69,78,73,69,68]]) (.int .i64 1)).run prog W=.ok (str [35,68,73,86,47,48,33]) W:=λW=>by rfl
 have x2:∀W:World,(Instr.index 257 (.agg #[str [],str [35,68,73,86,47,48,33],str [35,86,65,76,85,69,33],str [35,78,85,77,33],str [35,78,47,65],str [35,82,69,70,33],str [35,67,89,67,76,69,33],str [35,68,69,78,73,69,68]]) (.int .i64 2)).run prog W=.ok (str [35,86,65,76,85,69,33]) W:=λW=>by rfl
 have x3:∀W:World,(Instr.index 257 (.agg #[str [],str [35,68,73,86,47,48,33],str [35,86,65,76,85,69,33],str [35,78,85,77,33],str [35,78,47,65],str [35,82,69,70,33],str [35,67,89,67,76,69,33],str [35,68,69,78,73,69,68]]) (.int .i64 3)).run prog W=.ok (str [35,78,85,77,33]) W:=λW=>by rfl
 have x4:∀W:World,(Instr.index 257 (.agg #[str [],str [35,68,73,86,47,48,33],str [35,86,65,76,85,69,33],str [35,78,85,77,33],str [35,78,47,65],str [35,82,69,70,33],str [35,67,89,67,76,69,33],str [35,68,69,78,73,69,68]]) (.int .i64 4)).run prog W=.ok (str [35,78,47,65]) W:=λW=>by rfl
 have x5:∀W:World,(Instr.index 257 (.agg #[str [],str [35,68,73,86,47,48,33],str [35,86,65,76,85,69,33],str [35,78,85,77,33],str [35,78,47,65],str [35,82,69,70,33],str [35,67,89,67,76,69,33],str [35,68,69,78,73,69,68]]) (.int .i64 5)).run prog W=.ok (str [35,82,69,70,33]) W:=λW=>by rfl
 have x6:∀W:World,(Instr.index 257 (.agg #[str [],str [35,68,73,86,47,48,33],str [35,86,65,76,85,69,33],str [35,78,85,77,33],str [35,78,47,65],str [35,82,69,70,33],str [35,67,89,67,76,69,33],str [35,68,69,78,73,69,68]]) (.int .i64 6)).run prog W=.ok (str [35,67,89,67,76,69,33]) W:=λW=>by rfl
 have x7:∀W:World,(Instr.index 257 (.agg #[str [],str [35,68,73,86,47,48,33],str [35,86,65,76,85,69,33],str [35,78,85,77,33],str [35,78,47,65],str [35,82,69,70,33],str [35,67,89,67,76,69,33],str [35,68,69,78,73,69,68]]) (.int .i64 7)).run prog W=.ok (str [35,68,69,78,73,69,68]) W:=λW=>by rfl
 go_enter func217,ntmps217;go_wp2_with fail;refine (ze5 s _ hl).mono ?_;rintro e w1 ⟨rfl,hb⟩;have HB:=Hd hb;have W1:=HW.o.below hb;have e0:=W1.1 0 _ rfl;have e1:=W1.1 1 _ rfl;have e2:=W1.1 2 _ rfl;have e3:=W1.1 3 _ rfl;have e4:=W1.1 4 _ rfl;have e5:=W1.1 5 _ rfl;have e6:=W1.1 6 _ rfl;have e7:=W1.1 7 _ rfl;clear hb W1;go_wp2;clear e0 e1 e2 e3 e4 e5 e6 e7;go_loopw [9] (λi wr=>∃k:Int,0<=k/\k<=8/\i=.int .i64 k/\w1=wr) (λi _=>8-(intOf i).toNat)
 case atStart=>exact ⟨0,by omega,by omega,rfl,rfl⟩
 obtain ⟨k,h0,hk,rfl,rfl⟩:=hrel;have e:k=0\/k=1\/k=2\/k=3\/k=4\/k=5\/k=6\/k=7\/k=8:=by omega
 rcases e with rfl|rfl|rfl|rfl|rfl|rfl|rfl|rfl|rfl
 ·go_wp2;exact ⟨⟨1,by omega,by omega,rfl,trivial⟩,by simp[intOf]⟩
 ·cases hq:([35,68,73,86,47,48,33]==upB s)
  ·go_wp2;exact ⟨⟨2,by omega,by omega,rfl,trivial⟩,by simp[intOf]⟩
  go_wp2;go_ret2;exact ⟨1,0,rfl,HB.o⟩
 ·cases hq:([35,86,65,76,85,69,33]==upB s)
  ·go_wp2;exact ⟨⟨3,by omega,by omega,rfl,trivial⟩,by simp[intOf]⟩
  go_wp2;go_ret2;exact ⟨2,0,rfl,HB.o⟩
 ·cases hq:([35,78,85,77,33]==upB s)
  ·go_wp2;exact ⟨⟨4,by omega,by omega,rfl,trivial⟩,by simp[intOf]⟩
  go_wp2;go_ret2;exact ⟨3,0,rfl,HB.o⟩
 ·cases hq:([35,78,47,65]==upB s)
  ·go_wp2;exact ⟨⟨5,by omega,by omega,rfl,trivial⟩,by simp[intOf]⟩
  go_wp2;go_ret2;exact ⟨4,0,rfl,HB.o⟩
 ·cases hq:([35,82,69,70,33]==upB s)
  ·go_wp2;exact ⟨⟨6,by omega,by omega,rfl,trivial⟩,by simp[intOf]⟩
  go_wp2;go_ret2;exact ⟨5,0,rfl,HB.o⟩
 ·cases hq:([35,67,89,67,76,69,33]==upB s)
  ·go_wp2;exact ⟨⟨7,by omega,by omega,rfl,trivial⟩,by simp[intOf]⟩
  go_wp2;go_ret2;exact ⟨6,0,rfl,HB.o⟩
 ·cases hq:([35,68,69,78,73,69,68]==upB s)
  ·go_wp2;exact ⟨⟨8,by omega,by omega,rfl,trivial⟩,by simp[intOf]⟩
  go_wp2;go_ret2;exact ⟨7,0,rfl,HB.o⟩
 go_wp2;go_ret2;exact ⟨0,4,rfl,HB.o⟩
theorem dig_at (n:Nat) (h:n<10):(⟨#[48,49,50,51,52,53,54,55,56,57,97,98,99,100,101,102,103,104,105,106,107,108,109,110,111,112,113,114,115,116,117,118,119,120,121,122]⟩:ByteArray).extract n (n+1)=⟨[dig n].toArray⟩:=by
 have e:n=0\/n=1\/n=2\/n=3\/n=4\/n=5\/n=6\/n=7\/n=8\/n=9:=by omega
 rcases e with rfl|rfl|rfl|rfl|rfl|rfl|rfl|rfl|rfl|rfl <;> rfl
theorem zup (n:Nat) (h:n<10) (w:World):
 Calls prog 233 #[.int .i64 n] w λu w'=>u=.returned (str [dig n])/\w=w':=by
 have H:=Hd (dig_at n h);go_enter func233,ntmps233;go_wp2;go_ret;exact ⟨by rw[H.o];rfl,rfl⟩
theorem zto (n:Nat) (h:n<10) (w:World):
 Calls prog 129 #[.int .i64 n] w λu w'=>u=.returned (str [dig n])/\w=w':=by
 go_enter func129,ntmps129;go_wp2_with (first | (go_at_call 233;refine (zup n h _).mono ?_;rintro e w1 ⟨rfl,rfl⟩) | go_in);go_ret;exact ⟨rfl,rfl⟩
structure WritesS (s:Scp):Prop where
 ents:∀x∈s.book.entries,zfu cEnt entB 86 x
 ruls:∀x∈s.book.rules,zfu cRul rulB 90 x
 grts:∀x∈s.book.grants,zfu cGrt grtB 94 x
 evts:∀x∈s.book.log,zfu cEvt evtB 99 x
 rlss:∀x∈s.book.releases,zfu cRls rlsB 101 x
 oprs:∀x∈s.ops,zfu cOpr oprB 103 x
theorem zgz (s:Scp) (e r g l x o:Value) (B:Nat) (w:World) (hB:B<=w.heap.size) (hb:RdScp w B s e r g l x o) (hs:WritesS s) (hl:(scpB s).length<=100000000):
 Calls prog 27 #[vScp s e r g l x o] w λu w'=>∃v',u=.returned v'/\Out w' v' (scpB s)/\OutTo w (.slice none 0 0) w' v':=by
 obtain ⟨Ae,ce,rfl,_⟩:=id hb.book.ents;obtain ⟨Ar,cr,rfl,_⟩:=id hb.book.ruls;obtain ⟨Ag,cg,rfl,_⟩:=id hb.book.grts;obtain ⟨Al,cl,rfl,_⟩:=id hb.book.evts;obtain ⟨Ax,cx,rfl,_⟩:=id hb.book.rlss;obtain ⟨Ao,co,rfl,_⟩:=id hb.ops;have HB:=Hd hb;clear hb;have hl2:(numI s.book.users).length+(zar entB s.book.entries).length+(zar rulB s.book.rules).length+(zar grtB s.book.grants).length+(zar evtB s.book.log).length+(zar rlsB s.book.releases).length+(numI s.book.step).length+(zar oprB s.ops).length<=100000000:=by simpa [scpB,Nat.add_assoc] using hl
 clear hl;go_enter func27,ntmps27;go_wp2_with fail;have kA:Blk ((w.alloc (.cells #[s.book.users,.slice Ae s.book.entries.length ce,.slice Ar s.book.rules.length cr,.slice Ag s.book.grants.length cg,.slice Al s.book.log.length cl,.slice Ax s.book.releases.length cx,s.book.step,.slice Ao s.ops.length co] 31)).alloc (.cells (aG s.book Ae Ar Ag Al Ax ce cr cg cl cx) 28)) w.heap.size 31 #[.int .i64 s.book.users,.slice Ae s.book.entries.length ce,.slice Ar s.book.rules.length cr,.slice Ag s.book.grants.length cg,.slice Al s.book.log.length cl,.slice Ax s.book.releases.length cx,.int .i64 s.book.step,.slice Ao s.ops.length co]:=(je w _ _).alloc _;have kB:Blk ((w.alloc (.cells #[s.book.users,.slice Ae s.book.entries.length ce,.slice Ar s.book.rules.length cr,.slice Ag s.book.grants.length cg,.slice Al s.book.log.length cl,.slice Ax s.book.releases.length cx,s.book.step,.slice Ao s.ops.length co] 31)).alloc (.cells (aG s.book Ae Ar Ag Al Ax ce cr cg cl cx) 28)) (w.heap.size+1) 28 #[.int .i64 s.book.users,.slice Ae s.book.entries.length ce,.slice Ar s.book.rules.length cr,.slice Ag s.book.grants.length cg,.slice Al s.book.log.length cl,.slice Ax s.book.releases.length cx,.int .i64 s.book.step]:=by have:=je (w.alloc (.cells #[s.book.users,.slice Ae s.book.entries.length ce,.slice Ar s.book.rules.length cr,.slice Ag s.book.grants.length cg,.slice Al s.book.log.length cl,.slice Ax s.book.releases.length cx,s.book.step,.slice Ao s.ops.length co] 31)) 28 #[.int .i64 s.book.users,.slice Ae s.book.entries.length ce,.slice Ar s.book.rules.length cr,.slice Ag s.book.grants.length cg,.slice Al s.book.log.length cl,.slice Ax s.book.releases.length cx,.int .i64 s.book.step];simpa using this
 have tt:OutTo w (.slice none 0 0) ((w.alloc (.cells #[s.book.users,.slice Ae s.book.entries.length ce,.slice Ar s.book.rules.length cr,.slice Ag s.book.grants.length cg,.slice Al s.book.log.length cl,.slice Ax s.book.releases.length cx,s.book.step,.slice Ao s.ops.length co] 31)).alloc (.cells (aG s.book Ae Ar Ag Al Ax ce cr cg cl cx) 28)) (.slice none 0 0):=((OutTo.refl w _).alloc _).alloc _;have hA:(Value.slice none 0 0).ownBlock≠some w.heap.size:=by simp[Value.ownBlock]
 have hB2:(Value.slice none 0 0).ownBlock≠some (w.heap.size+1):=by simp[Value.ownBlock]
 have KA:=Hd kA;have KB:=Hd kB;have TT:=Hd tt;clear kA kB tt;refine (zb6 _ [] _ _ (Out.nil _) (by simp)).mono ?_;rintro e w1 ⟨v1,rfl,o1,t1⟩;have KA1:=Hd (KA.o.outTo t1 hA);have KB1:=Hd (KB.o.outTo t1 hB2);have hA:=t1.ne KA.o.lt hA;have hB2:=t1.ne KB.o.lt hB2;have TT1:=Hd (TT.o.trans t1);have OO:=Hd o1;clear KA KB TT;have KA:=KA1;have KB:=KB1;have TT:=TT1;have hz:=TT.o.chg.size;clear o1 t1 KA1 KB1 TT1;obtain ⟨q0,q1,q2,q3⟩:=KB.o.c4 0 1 2 3;obtain ⟨q4,q5,q6⟩:=KB.o.c3 4 5 6;go_wp2_with fail;refine (zzz _ _ _ _ B _ OO.o (by omega) (TT.o.newer hB (by simp[Value.ownBlock])) ((HB.o.book.ents).below (TT.o.old hB (by simp[Value.ownBlock]))) hs.ents (by (try simp);omega)).mono ?_;rintro e w2 ⟨v2,rfl,o2,t2⟩;clear q0 q1 q2 q3 q4 q5 q6;have KA2:=Hd (KA.o.outTo t2 hA);have KB2:=Hd (KB.o.outTo t2 hB2);have hA:=t2.ne KA.o.lt hA;have hB2:=t2.ne KB.o.lt hB2;have TT2:=Hd (TT.o.trans t2);have OO:=Hd o2;clear KA KB TT;have KA:=KA2;have KB:=KB2;have TT:=TT2;have hz:=TT.o.chg.size;clear o2 t2 KA2 KB2 TT2;obtain ⟨q0,q1,q2,q3⟩:=KB.o.c4 0 1 2 3;obtain ⟨q4,q5,q6⟩:=KB.o.c3 4 5 6;go_wp2_with fail;refine (zzu _ _ _ _ B _ OO.o (by omega) (TT.o.newer hB (by simp[Value.ownBlock])) ((HB.o.book.ruls).below (TT.o.old hB (by simp[Value.ownBlock]))) hs.ruls (by (try simp);omega)).mono ?_;rintro e w3 ⟨v3,rfl,o3,t3⟩;clear q0 q1 q2 q3 q4 q5 q6;have KA3:=Hd (KA.o.outTo t3 hA);have KB3:=Hd (KB.o.outTo t3 hB2);have hA:=t3.ne KA.o.lt hA;have hB2:=t3.ne KB.o.lt hB2;have TT3:=Hd (TT.o.trans t3);have OO:=Hd o3;clear KA KB TT;have KA:=KA3;have KB:=KB3;have TT:=TT3;have hz:=TT.o.chg.size;clear o3 t3 KA3 KB3 TT3;obtain ⟨q0,q1,q2,q3⟩:=KB.o.c4 0 1 2 3;obtain ⟨q4,q5,q6⟩:=KB.o.c3 4 5 6;go_wp2_with fail;refine (zzx _ _ _ _ B _ OO.o (by omega) (TT.o.newer hB (by simp[Value.ownBlock])) ((HB.o.book.grts).below (TT.o.old hB (by simp[Value.ownBlock]))) hs.grts (by (try simp);omega)).mono ?_;rintro e w4 ⟨v4,rfl,o4,t4⟩;clear q0 q1 q2 q3 q4 q5 q6;have KA4:=Hd (KA.o.outTo t4 hA);have KB4:=Hd (KB.o.outTo t4 hB2);have hA:=t4.ne KA.o.lt hA;have hB2:=t4.ne KB.o.lt hB2;have TT4:=Hd (TT.o.trans t4);have OO:=Hd o4;clear KA KB TT;have KA:=KA4;have KB:=KB4;have TT:=TT4;have hz:=TT.o.chg.size;clear o4 t4 KA4 KB4 TT4;obtain ⟨q0,q1,q2,q3⟩:=KB.o.c4 0 1 2 3;obtain ⟨q4,q5,q6⟩:=KB.o.c3 4 5 6;go_wp2_with fail;refine (zzy _ _ _ _ B _ OO.o (by omega) (TT.o.newer hB (by simp[Value.ownBlock])) ((HB.o.book.evts).below (TT.o.old hB (by simp[Value.ownBlock]))) hs.evts (by (try simp);omega)).mono ?_;rintro e w5 ⟨v5,rfl,o5,t5⟩;clear q0 q1 q2 q3 q4 q5 q6;have KA5:=Hd (KA.o.outTo t5 hA);have KB5:=Hd (KB.o.outTo t5 hB2);have hA:=t5.ne KA.o.lt hA;have hB2:=t5.ne KB.o.lt hB2;have TT5:=Hd (TT.o.trans t5);have OO:=Hd o5;clear KA KB TT;have KA:=KA5;have KB:=KB5;have TT:=TT5;have hz:=TT.o.chg.size;clear o5 t5 KA5 KB5 TT5;obtain ⟨q0,q1,q2,q3⟩:=KB.o.c4 0 1 2 3;obtain ⟨q4,q5,q6⟩:=KB.o.c3 4 5 6;go_wp2_with fail;refine (zzv _ _ _ _ B _ OO.o (by omega) (TT.o.newer hB (by simp[Value.ownBlock])) ((HB.o.book.rlss).below (TT.o.old hB (by simp[Value.ownBlock]))) hs.rlss (by (try simp);omega)).mono ?_;rintro e w6 ⟨v6,rfl,o6,t6⟩;clear q0 q1 q2 q3 q4 q5 q6;have KA6:=Hd (KA.o.outTo t6 hA);have KB6:=Hd (KB.o.outTo t6 hB2);have hA:=t6.ne KA.o.lt hA;have hB2:=t6.ne KB.o.lt hB2;have TT6:=Hd (TT.o.trans t6);have OO:=Hd o6;clear KA KB TT;have KA:=KA6;have KB:=KB6;have TT:=TT6;have hz:=TT.o.chg.size;clear o6 t6 KA6 KB6 TT6;obtain ⟨q0,q1,q2,q3⟩:=KB.o.c4 0 1 2 3;obtain ⟨q4,q5,q6⟩:=KB.o.c3 4 5 6;clear q0 q1 q2 q3 q4 q5;go_wp2_with fail;have q7:=KA.o.cell 7;have oo:=OO.o.drew;have kA:=KA.o.drew;have kB:=KB.o.drew;have tt:=TT.o.drew;clear OO KA KB TT
 go_region_held3 (λW:World=>W.cell? ⟨w.heap.size+1,6,none⟩=some (.int .i64 s.book.step)/\W.cell? ⟨w.heap.size,7,none⟩=some (.slice Ao s.ops.length co))
  (first
   | exact ⟨kB.cell 6,kA.cell 7⟩)
  (first
   | (go_at_call 84;refine (zb6 _ _ _ _ oo (by (try simp);omega)).mono ?_;rintro e w7 ⟨v7,rfl,oo,t7⟩;have hA':=t7.ne kA.lt hA;have hB':=t7.ne kB.lt hB2;have kA:=kA.outTo t7 hA;have kB:=kB.outTo t7 hB2;have tt:=tt.trans t7;clear t7)
   | (go_at_call 102;refine (zzw _ _ _ _ B _ oo (by have:=tt.chg.size;omega) (tt.newer hB (by simp[Value.ownBlock])) (HB.o.ops.below (tt.old hB (by simp[Value.ownBlock]))) hs.oprs (by (try simp);omega)).mono ?_;rintro e w8 ⟨v8,rfl,oo,t8⟩;have kA:=kA.outTo t8 hA';have kB:=kB.outTo t8 hB';have tt:=tt.trans t8;clear t8))
 go_wp2;go_ret;exact ⟨_,rfl,by simpa [scpB] using oo,tt⟩
theorem zjm {l:zaa} (h:Out w v l) (hp:0<l.length):∃g cap,v=.slice (some ⟨g,0,none⟩) l.length cap/\(convert 59 9 (.slice (some ⟨g,0,none⟩) l.length cap)).run prog w=.ok (str l) w:=by
 obtain ⟨g,cap,rfl,_,hlt⟩:=World.ownsRow.form h hp;refine ⟨g,cap,rfl,run_convert_bytes_back (P:=prog) w 59 9 5 ⟨g,0,none⟩ cap l underlying59 underlying5 underlying9 (λj hj=>?_)⟩;exact World.ownsRow.cells h (g:=g) rfl j _ (by simp[u8s,jz hj])
def cTok (t:Tok):List Value:=[.int .u8 t.kind,.int .i64 t.num,str t.text,.int .i64 t.rect.c1,.int .i64 t.rect.r1,.int .i64 t.rect.c2,.int .i64 t.rect.r2,.int .i64 t.at_]
theorem zd7 (t:Tok):(cTok t).length=8:=rfl
theorem zg4 (p:UInt8->Bool) (s:zaa) (i:Nat):lenB p s i<=s.length-i:=by
 have h:=zwi p (s.drop i);unfold lenB at h ⊢;rw[List.drop_zero,jp] at h;exact h
theorem zdc (l:zaa) (i n:Nat):(⟨l.toArray⟩:ByteArray).extract i (i+n)=⟨((l.drop i).take n).toArray⟩:=by
 apply ByteArray.ext;simp
theorem za3 (l:zaa) (k:Nat) (h:k<(⟨l.toArray⟩:ByteArray).size):(⟨l.toArray⟩:ByteArray)[k]=l.getD k 0:=by
 have h2:k<l.length:=by rw[zae] at h;exact h
 rw[jL,jz h2];rfl
theorem zz3 (g:Nat) (s:zaa) (i:Nat) (w:World) (hg:Blk w g 263 #[str s]):
 Calls prog 278 #[(aA g),.int .i64 i] w λu w'=>u=.returned (.int .u8 (ub s i))/\w=w':=by
 have hc:=hg.cell 0;clear hg;have hi0:(0:Int)<=(i:Int):=jw _;by_cases hlt:i<s.length
 ·have hi1:(i:Int)<(s.length:Int):=by omega
  have hx:=za3 s i (by rw[zae];exact hlt);have HE:=jM (ub s i=(s.getD i 0).toNat) rfl;generalize s.getD i 0=c at *;go_enter func278,ntmps278;go_wp2;go_ret;exact ⟨by rw[HE.o];rfl,rfl⟩
 have hi1:¬(i:Int)<(s.length:Int):=by omega
 have HE:=jM (ub s i=0) (by unfold ub;rw[jL,List.getElem?_eq_none (by omega)];rfl);go_enter func278,ntmps278;go_wp2;go_ret;exact ⟨by rw[HE.o];rfl,rfl⟩
theorem zwg (g:Nat) (s:zaa) (i:Nat) (w:World) (hs:s.length<=1000000) (hi:i<=s.length) (hg:Blk w g 263 #[str s]):
 Calls prog 277 #[(aA g),.int .i64 i] w λu w'=>u=.returned (str (zag s i))/\Below w w w':=by
 have hc:=hg.cell 0;have HG:=Hd hg;clear hg;have hi0:(0:Int)<=(i:Int):=jw _;have hi1:(i:Int)<=(s.length:Int):=by omega
 go_enter func277,ntmps277;go_wp2_with fail;refine (ztk ⟨s.toArray⟩ i _ (by rw[zae];exact hs) (by rw[zae];exact hi)).mono ?_;rintro u w1 ⟨rfl,hb1⟩;rw[show lenB alnB (⟨s.toArray⟩:ByteArray).data.toList i=lenB alnB s i from rfl];have hm:=zg4 alnB s i;have HE:=jM (zag s i=((s.drop i).take (lenB alnB s i)).map upU) rfl;generalize lenB alnB s i=m at *;have hc1:w1.cell? (g,0)=some (str s):=(HG.o.below_ hb1).cell 0;have HB1:=Hd hb1;have hm0:(0:Int)<=(m:Int):=by omega
 have hm1:(i:Int)+(m:Int)<=(s.length:Int):=by omega
 have hm2:(i:Int)<=(i:Int)+(m:Int):=by omega
 clear hb1 hm;go_wp2_with fail;rw[zdc];refine (ze5 _ _ (by simp;omega)).mono ?_;rintro u w2 ⟨rfl,hb2⟩;go_wp2;go_ret;refine ⟨by rw[HE.o];rfl,Below.next_ HB1.o hb2⟩
def cutB (a b:zaa):zaa:=if b.isPrefixOf a=true then a.drop b.length else a
theorem zp2 {a b:zaa} (h:b.isPrefixOf a=true):cutB a b=a.drop b.length:=jb h
theorem z1c {a b:zaa} (h:b.isPrefixOf a=false):cutB a b=a:=ja (by rw[h];simp)
theorem zze (a b:zaa) (_h:b.length<=a.length):b.isPrefixOf a=(a.take b.length==b):=by
 rw[Bool.eq_iff_iff,List.isPrefixOf_iff_prefix,List.prefix_iff_eq_take,beq_iff_eq];exact eq_comm
theorem zns (a b:zaa) (h:a.length<b.length):b.isPrefixOf a=false:=by
 rw[<- Bool.not_eq_true,List.isPrefixOf_iff_prefix];intro hp;have:=hp.length_le;omega
theorem zjt (a b:zaa) (w:World) (_ha:a.length<=1000000) (hb:b.length<=1000000):
 Calls prog 237 #[str a,str b] w λu w'=>u=.returned (.bool (b.isPrefixOf a))/\w=w':=by
 by_cases hl:b.length<=a.length
 ·have h1:(b.length:Int)<=(a.length:Int):=by omega
  have h0:(0:Int)<=(b.length:Int):=by omega
  have HE:=jM (b.isPrefixOf a=(((⟨a.toArray⟩:ByteArray).extract 0 b.length).toList==b)) (by rw[zze a b hl,zj3,ByteArray.toList_eq]);go_enter func237,ntmps237;go_wp2;go_ret;exact ⟨by rw[HE.o];rfl,rfl⟩
 have h1:¬(b.length:Int)<=(a.length:Int):=by omega
 have HE:=Hd (zns a b (by omega));go_enter func237,ntmps237;go_wp2;go_ret;exact ⟨by rw[HE.o];rfl,rfl⟩
theorem ztq (a b:zaa) (w:World) (ha:a.length<=1000000) (hb:b.length<=1000000):
 Calls prog 283 #[str a,str b] w λu w'=>u=.returned (.bool (b.isPrefixOf a))/\w=w':=by
 go_enter func283,ntmps283;go_wp2_with fail;refine (zjt a b _ ha hb).mono ?_;rintro u w1 ⟨rfl,rfl⟩;go_wp2;go_ret;exact ⟨rfl,rfl⟩
theorem zzt (a b:zaa) (w:World) (ha:a.length<=1000000) (hb:b.length<=1000000):
 Calls prog 211 #[str a,str b] w λu w'=>u=.returned (.tuple #[str (cutB a b),.bool (b.isPrefixOf a)])/\w=w':=by
 go_enter func211,ntmps211;go_wp2_with fail;refine (zjt a b _ ha hb).mono ?_;rintro u w1 ⟨rfl,rfl⟩;by_cases hp:b.isPrefixOf a=true
 ·have hl:b.length<=a.length:=by
   rcases Nat.lt_or_ge a.length b.length with h | h
   ·rw[zns a b h] at hp;cases hp
   exact h
  have h1:(b.length:Int)<=(a.length:Int):=by omega
  have h0:(0:Int)<=(b.length:Int):=by omega
  have HP:=Hd hp;have HC:=Hd (zp2 hp);rw[hp];clear hp;go_wp2;rw[zev _ _ _ rfl];go_ret2;exact ⟨by rw[HC.o,HP.o];rfl,rfl⟩
 have hp':b.isPrefixOf a=false:=eq_false_of_ne_true hp;have HP:=Hd hp';have HC:=Hd (z1c hp');rw[hp'];clear hp hp';go_wp2;go_ret2;exact ⟨by rw[HC.o,HP.o];rfl,rfl⟩
theorem zlc (a b:zaa) (w:World) (ha:a.length<=1000000) (hb:b.length<=1000000):
 Calls prog 195 #[str a,str b] w λu w'=>u=.returned (.tuple #[str (cutB a b),.bool (b.isPrefixOf a)])/\w=w':=by
 go_enter func195,ntmps195;go_wp2_with fail;refine (zzt a b _ ha hb).mono ?_;rintro u w1 ⟨rfl,rfl⟩;by_cases hp:b.isPrefixOf a=true
 ·have HP:=Hd hp;have HC:=Hd (zp2 hp);rw[hp];clear hp;rw[HC.o];go_wp2;go_ret2;exact ⟨by rw[HC.o,HP.o];rfl,rfl⟩
 have hp':b.isPrefixOf a=false:=eq_false_of_ne_true hp;have HP:=Hd hp';have HC:=Hd (z1c hp');rw[hp'];clear hp hp';rw[HC.o];go_wp2;go_ret2;exact ⟨by rw[HC.o,HP.o];rfl,rfl⟩
abbrev vVal (k n:Int) (s:zaa):Value:=.agg #[.int .u8 k,.int .i64 n,str s]
def z3m (k:Int) (es:Array MapEntry):Bool:=es.toList.all λx=>match x.key with
 | .int .u8 a=>!decide (k=a)
 | _=>false
theorem zid (k:Int):∀(l:List MapEntry) (i:Nat),(l.all λx=>match x.key with | .int .u8 a=>!decide (k=a) | _=>false)=true->Instr.findNow (.int .u8) (.int .u8 k) l i=some none
 | [],_,_=>rfl
 | x::l,i,h=>by
  rw[List.all_cons,ji] at h;obtain ⟨h1,h2⟩:=h;obtain ⟨key,val,born⟩:=x;have ih:=zid k l (i+1) h2
  match key,h1 with
  | .int .u8 a,h1=>
   have hne:(k==a)=false:=by simpa using h1
   simp[Instr.findNow,Instr.sameNow,hne,ih]
theorem zcp (t kt e:TypeId) (ht:P.underlying t=some (.map kt e)) (hk:P.underlying kt=some (.int .u8)) (W:World) (n:Nat) (hn:n=W.heap.size) (es:Array MapEntry) (c:Nat) (k:Int) (v:Value) (h:z3m k es=true):
 (Instr.mapUpdate t (.map (some n)) (.int .u8 k) v).run P (W.alloc (.map es c))=.ok () (W.alloc (.map (es.push ⟨.int .u8 k,v,c⟩) (c+1))):=by
 subst hn;have hf:=zid k es.toList 0 h;have hb:(W.alloc (.map es c)).heap[W.heap.size]?=some (.map es c):=heap_alloc_new W _;have hs:∀o:Obj,({ W.alloc (.map es c) with heap:=(W.alloc (.map es c)).heap.setIfInBounds W.heap.size o }:World)=W.alloc o:=λo=>by
  have he:(W.heap.push (.map es c)).setIfInBounds W.heap.size o=W.heap.push o:=by apply Array.ext';simp[Array.setIfInBounds,Array.toList_push]
  exact congrArg (λH=>World.mk H W.tape W.drawn W.os W.output) he
 have hkey:MapKept.IsKey (.int .u8) (.int .u8 k):=rfl;simp[Instr.mapUpdate,run_underlying ht,MapKept.run_getObj_map hb,MapKept.run_checkKey hk hkey,MapKept.run_findKey hk hf,MapKept.run_setObj_map _ hb,Result.andThen];exact hs _
theorem zo7 (t kt e:TypeId) (ht:P.underlying t=some (.map kt e)) (hk:P.underlying kt=some (.int .u8)) (W:World) (n:Nat) (es:Array MapEntry) (c:Nat) (k:Int) (i:Nat) (v:Value) (hb:W.heap[n]?=some (.map es c))
 (hf:Instr.findNow (.int .u8) (.int .u8 k) es.toList 0=some (some (i,v))):
 (Instr.lookup t (.map (some n)) (.int .u8 k) true).run P W=.ok (.tuple #[v,.bool true]) W:=by
 have hkey:MapKept.IsKey (.int .u8) (.int .u8 k):=rfl;simp[Instr.lookup,run_underlying ht,MapKept.run_getObj_map hb,MapKept.run_checkKey hk hkey,MapKept.run_findKey hk hf,Result.andThen]
theorem zm1 (s:zaa) (w:World) (hs:txtE s=0) (hl:s.length<=1000000):
 Calls prog 270 #[vVal 3 0 s] w λu w'=>u=.returned (.int .i64 0)/\Below w w w':=by
 have HS:=Hd hs;clear hs;go_enter func270,ntmps270;go_wp2_with fail;refine (zjz s _ (by omega)).mono ?_;rintro e w1 ⟨rfl,hb⟩;rw[HS.o];have HB:=jM (Below w w w1) (nxt hb);clear hb;go_wp2;go_ret;exact ⟨rfl,HB.o⟩
def zp3 (s:zaa):Array MapEntry:=#[⟨.int .u8 0,.func (.func 240) #[vVal 3 0 s] #[],0⟩,⟨.int .u8 1,.func (.func 240) #[vVal 3 0 s] #[],1⟩,⟨.int .u8 2,.func (.func 241) #[vVal 3 0 s] #[],2⟩,⟨.int .u8 3,.func (.func 242) #[vVal 3 0 s] #[],3⟩,⟨.int .u8 4,.func (.func 241) #[vVal 3 0 s] #[],4⟩]
theorem zyb (s:zaa) (w:World):
 Calls prog 239 #[vVal 3 0 s] w λu w'=>∃n,u=.returned (.map (some n))/\w'.heap[n]?=some (.map (zp3 s) 5)/\Below w w w':=by
 have hmk:∀w:World,(Instr.makeMap 253 none).run prog w=.ok (.map (some w.heap.size)) (w.alloc (.map #[] 0)):=λw=>by rfl
 have hw:(w.alloc (.cells #[.int .u8 3,.int .i64 0,str s] 252)).heap.size=w.heap.size+1:=by simp
 have s0:(Instr.mapUpdate 253 (.map (some (w.heap.size+1))) (.int .u8 0) (.func (.func 240) #[vVal 3 0 s] #[])).run prog ((w.alloc (.cells #[.int .u8 3,.int .i64 0,str s] 252)).alloc (.map #[] 0))=.ok () ((w.alloc (.cells #[.int .u8 3,.int .i64 0,str s] 252)).alloc (.map #[⟨.int .u8 0,.func (.func 240) #[vVal 3 0 s] #[],0⟩] 1)):=
  zcp _ _ _ underlying253 underlying5 _ _ hw.symm _ _ _ _ rfl
 have s1:(Instr.mapUpdate 253 (.map (some (w.heap.size+1))) (.int .u8 1) (.func (.func 240) #[vVal 3 0 s] #[])).run prog ((w.alloc (.cells #[.int .u8 3,.int .i64 0,str s] 252)).alloc (.map #[⟨.int .u8 0,.func (.func 240) #[vVal 3 0 s] #[],0⟩] 1))=.ok () ((w.alloc (.cells #[.int .u8 3,.int .i64 0,str s] 252)).alloc (.map #[⟨.int .u8 0,.func (.func 240) #[vVal 3 0 s] #[],0⟩,⟨.int .u8 1,.func (.func 240) #[vVal 3 0 s] #[],1⟩] 2)):=
  zcp _ _ _ underlying253 underlying5 _ _ hw.symm _ _ _ _ rfl
 have s2:(Instr.mapUpdate 253 (.map (some (w.heap.size+1))) (.int .u8 2) (.func (.func 241) #[vVal 3 0 s] #[])).run prog ((w.alloc (.cells #[.int .u8 3,.int .i64 0,str s] 252)).alloc (.map #[⟨.int .u8 0,.func (.func 240) #[vVal 3 0 s] #[],0⟩,⟨.int .u8 1,.func (.func 240) #[vVal 3 0 s] #[],1⟩] 2))=.ok () ((w.alloc (.cells #[.int .u8 3,.int .i64 0,str s] 252)).alloc (.map #[⟨.int .u8 0,.func (.func 240) #[vVal 3 0 s] #[],0⟩,⟨.int .u8 1,.func (.func 240) #[vVal 3 0 s] #[],1⟩,⟨.int .u8 2,.func (.func 241) #[vVal 3 0 s] #[],2⟩] 3)):=
  zcp _ _ _ underlying253 underlying5 _ _ hw.symm _ _ _ _ rfl
 have s3:(Instr.mapUpdate 253 (.map (some (w.heap.size+1))) (.int .u8 3) (.func (.func 242) #[vVal 3 0 s] #[])).run prog ((w.alloc (.cells #[.int .u8 3,.int .i64 0,str s] 252)).alloc (.map #[⟨.int .u8 0,.func (.func 240) #[vVal 3 0 s] #[],0⟩,⟨.int .u8 1,.func (.func 240) #[vVal 3 0 s] #[],1⟩,⟨.int .u8 2,.func (.func 241) #[vVal 3 0 s] #[],2⟩] 3))=.ok () ((w.alloc (.cells #[.int .u8 3,.int .i64 0,str s] 252)).alloc (.map #[⟨.int .u8 0,.func (.func 240) #[vVal 3 0 s] #[],0⟩,⟨.int .u8 1,.func (.func 240) #[vVal 3 0 s] #[],1⟩,⟨.int .u8 2,.func (.func 241) #[vVal 3 0 s] #[],2⟩,⟨.int .u8 3,.func (.func 242) #[vVal 3 0 s] #[],3⟩] 4)):=
  zcp _ _ _ underlying253 underlying5 _ _ hw.symm _ _ _ _ rfl
 have s4:(Instr.mapUpdate 253 (.map (some (w.heap.size+1))) (.int .u8 4) (.func (.func 241) #[vVal 3 0 s] #[])).run prog ((w.alloc (.cells #[.int .u8 3,.int .i64 0,str s] 252)).alloc (.map #[⟨.int .u8 0,.func (.func 240) #[vVal 3 0 s] #[],0⟩,⟨.int .u8 1,.func (.func 240) #[vVal 3 0 s] #[],1⟩,⟨.int .u8 2,.func (.func 241) #[vVal 3 0 s] #[],2⟩,⟨.int .u8 3,.func (.func 242) #[vVal 3 0 s] #[],3⟩] 4))=.ok () ((w.alloc (.cells #[.int .u8 3,.int .i64 0,str s] 252)).alloc (.map #[⟨.int .u8 0,.func (.func 240) #[vVal 3 0 s] #[],0⟩,⟨.int .u8 1,.func (.func 240) #[vVal 3 0 s] #[],1⟩,⟨.int .u8 2,.func (.func 241) #[vVal 3 0 s] #[],2⟩,⟨.int .u8 3,.func (.func 242) #[vVal 3 0 s] #[],3⟩,⟨.int .u8 4,.func (.func 241) #[vVal 3 0 s] #[],4⟩] 5)):=
  zcp _ _ _ underlying253 underlying5 _ _ hw.symm _ _ _ _ rfl
 go_enter func239,ntmps239;go_wp2;go_ret;refine ⟨_,rfl,?_,by go_grown⟩;have:=heap_alloc_new (w.alloc (.cells #[.int .u8 3,.int .i64 0,str s] 252)) (.map (zp3 s) 5);rw[hw] at this;exact this
def tT:zaa:=[84,82,85,69]
def tF:zaa:=[70,65,76,83,69]
def zj8 (s:zaa):Value:=if upB s=tT then vVal 2 1 [] else if upB s=tF then vVal 2 0 [] else vVal 4 2 []
theorem zv5 (s:zaa) (w:World) (hl:s.length<=1000000):
 Calls prog 242 #[vVal 3 0 s] w λu w'=>u=.returned (zj8 s)/\Below w w w':=by
 by_cases c1:upB s=tT
 ·have H:=jM (zj8 s=vVal 2 1 []) (by unfold zj8;rw[jb c1]);have t1:(upB s== [84,82,85,69])=true:=by rw[c1];rfl
  clear c1;go_enter func242,ntmps242;go_wp2_with fail;refine (ze5 s _ hl).mono ?_;rintro e w1 ⟨rfl,hb1⟩;have hz1:=hb1.size
  try simp at hz1
  have hB1:Below w w w1:=nxt hb1;obtain ⟨hc1_0,hl1_0,hm1_0,hn1_0,ho1_0,hf1_0⟩:=oldB (g:=w) hb1;obtain ⟨hc1_1,hl1_1,hm1_1,hn1_1,ho1_1,hf1_1⟩:=oldB (g:=w.heap.size+1) hb1;go_wp2;refine jO results242 (v:=.agg #[.int .u8 2,.int .i64 1,str []]) ?_ (by simp (maxDischargeDepth:=9) [jQ,go_sem,hc1_1,hl1_1]);exact ⟨by rw[H.o],by go_grown⟩
 have t1:(upB s== [84,82,85,69])=false:=by rw[jI];exact c1
 by_cases c2:upB s=tF
 ·have H:=jM (zj8 s=vVal 2 0 []) (by unfold zj8;rw[ja c1,jb c2]);have t2:(upB s== [70,65,76,83,69])=true:=by rw[c2];rfl
  clear c1 c2;go_enter func242,ntmps242;go_wp2_with fail;refine (ze5 s _ hl).mono ?_;rintro e w1 ⟨rfl,hb1⟩;have hz1:=hb1.size
  try simp at hz1
  have hB1:Below w w w1:=nxt hb1;obtain ⟨hc1_0,hl1_0,hm1_0,hn1_0,ho1_0,hf1_0⟩:=oldB (g:=w) hb1;obtain ⟨hc1_1,hl1_1,hm1_1,hn1_1,ho1_1,hf1_1⟩:=oldB (g:=w.heap.size+1) hb1;go_wp2;refine jO results242 (v:=.agg #[.int .u8 2,.int .i64 0,str []]) ?_ (by simp (maxDischargeDepth:=9) [jQ,go_sem,hc1_1,hl1_1]);exact ⟨by rw[H.o],by go_grown⟩
 have H:=jM (zj8 s=vVal 4 2 []) (by unfold zj8;rw[ja c1,ja c2]);have t2:(upB s== [70,65,76,83,69])=false:=by rw[jI];exact c2
 clear c1 c2;go_enter func242,ntmps242;go_wp2_with fail;refine (ze5 s _ hl).mono ?_;rintro e w1 ⟨rfl,hb1⟩;have hz1:=hb1.size
 try simp at hz1
 have hB1:Below w w w1:=nxt hb1;obtain ⟨hc1_0,hl1_0,hm1_0,hn1_0,ho1_0,hf1_0⟩:=oldB (g:=w) hb1;obtain ⟨hc1_1,hl1_1,hm1_1,hn1_1,ho1_1,hf1_1⟩:=oldB (g:=w.heap.size+1) hb1;go_wp2;refine jO results242 (v:=.agg #[.int .u8 4,.int .i64 2,str []]) ?_ (by simp (maxDischargeDepth:=9) [jQ,go_sem,hc1_1,hl1_1]);exact ⟨by rw[H.o],by go_grown⟩
def zem (s:zaa) (i:Nat) (x:zaa):Bool:=decide (i+x.length<=s.length)&&decide (((s.drop i).take x.length).map upU=x)
def zm8 (s:zaa) (i:Nat):Tok × Nat:=
 if digB (s.getD i 0) then zii s i else if ub s i=34 then zfy s i else if letB (s.getD i 0) then zbq s i else if 0<(zdo s i).2 then zdo s i else zdl s i
theorem zh5 (s:zaa) (i:Nat) (h:i<s.length):s.drop i=s.getD i 0::s.drop (i+1):=by
 rw[jo h]
 congr 1
 rw[jL,jz h];rfl
theorem zrp (s:zaa) (i:Nat) (c:UInt8) (t:zaa) (h:s.drop i=c::t) (hc:upU c≠35):∀(l:List zaa) (code:Int),(∀x∈l,x.head?=some 35)->zd0 s i code l=(tok0,0)
 | [],_,_=>rfl
 | x::l,code,hl=>by
  unfold zd0;have hx:=hl x (by simp);have hn:¬(i+x.length<=s.length/\((s.drop i).take x.length).map upU=x):=by
   rintro ⟨_,q⟩
   cases x with
   | nil=>cases hx
   | cons a x=>
    simp only[List.head?_cons,jl] at hx;rw[h,jk,jr,List.map_cons] at q;injection q with q _
    exact hc (q.trans hx)
  rw[ja hn];exact zrp s i c t h hc l _ (λy hy=>hl y (by simp[hy]))
theorem ziy (s:zaa) (i:Nat) (c:UInt8) (t:zaa) (h:s.drop i=c::t) (hc:upU c≠35):zdo s i=(tok0,0):=zrp s i c t h hc zhn 1 (by decide)
def zh2:List UInt8:=[60,62,43,45,42,47,94,38,61,37]
theorem zpf (s:zaa) (i:Nat) (c:UInt8) (t:zaa) (h:s.drop i=c::t) (hc:c ∉ zh2):∀(l:List (zaa × Int)),(∀x∈l,∃a y,x.1=a::y/\a∈zh2)->opsL s i l=none
 | [],_=>rfl
 | (x,n)::l,hl=>by
  obtain ⟨a,y,e,ha⟩:=hl (x,n) (by simp);simp only at e;unfold opsL;have hn:x.isPrefixOf (s.drop i)=false:=by
   rw[h,e,List.isPrefixOf_cons_cons];have:(a==c)=false:=by rw[jI];rintro rfl;exact hc ha
   rw[this];rfl
  rw[hn];exact zpf s i c t h hc l (λz hz=>hl z (by simp[hz]))
theorem zk0:∀x∈opsW,∃a y,x.1=a::y/\a∈zh2:=by
 intro x hx;simp only[opsW,List.mem_cons,List.not_mem_nil,or_false] at hx;rcases hx with rfl|rfl|rfl|rfl|rfl|rfl|rfl|rfl|rfl|rfl|rfl|rfl|rfl <;> exact ⟨_,_,rfl,by decide⟩
theorem zlr (s:zaa) (i:Nat) (c:UInt8) (t:zaa) (h:s.drop i=c::t) (hc:c ∉ zh2) (h40:c.toNat≠40) (h41:c.toNat≠41) (h44:c.toNat≠44):zdl s i=(tok0,0):=by
 have hu:=(zx7 s i c t h).2.1;unfold zdl;rw[zpf s i c t h hc opsW zk0];simp only;rw[hu,ja h40,ja h41,ja h44]
theorem zjr (h:c∈zh2):c.toNat=60\/c.toNat=62\/c.toNat=43\/c.toNat=45\/c.toNat=42\/c.toNat=47\/c.toNat=94\/c.toNat=38\/c.toNat=61\/c.toNat=37:=by
 simp only[zh2,List.mem_cons,List.not_mem_nil,or_false] at h;rcases h with rfl|rfl|rfl|rfl|rfl|rfl|rfl|rfl|rfl|rfl <;> simp
theorem zx5 (h:c.toNat≠35):upU c≠35:=by
 unfold upU;split
 ·intro q;have:=congrArg UInt8.toNat q;simp at this;omega
 intro q;exact h (by rw[q];rfl)
theorem zlp (s:zaa) (i:Nat) (h:ub s i≠34):zdk s i=(tok0,0):=by unfold zdk;rw[jb h]
theorem zil (s:zaa) (i:Nat) (h:letB (s.getD i 0)=false):zbq s i=(tok0,0):=by unfold zbq;rw[jb h]
theorem zk1 (s:zaa) (i:Nat) (h:digB (s.getD i 0)=false):zaq s i=(tok0,0):=by
 unfold zaq;rw[jb];rw[zdy]
 cases hq:s.drop i with
 | nil=>rfl
 | cons c t=>rw[zj0,hq] at h;simp only[List.head?_cons,Option.getD_some] at h;simp[lenB,h]
theorem zr8 (s:zaa) (i:Nat) (h:(zbq s i).2=0) (hl:letB (s.getD i 0)=true):zbq s i=(tok0,0):=by
 have hp:0<(zag s i).length:=by
  unfold zag;rw[List.length_map,zgj,zdy];rw[zj0] at hl
  cases hq:s.drop i with
  | nil=>rw[hq] at hl;simp[letB] at hl
  | cons c t=>rw[hq] at hl;simp only[List.head?_cons,Option.getD_some] at hl;simp[lenB,alnB,hl]
 unfold zbq at *;rw[hl] at h ⊢;rw[ja (by decide)] at h ⊢
 repeat' split at h
 all_goals first | (simp only at h;omega) | skip
 rename_i h1 h2 h3 h4;rw[ja h1,ja h2,ja h3,jb h4]
theorem zym (s:zaa) (i:Nat) (hl:s.length<=256) (hp:pltB s=true) (hi:i<s.length):zc4 s i=zm8 s i:=by
 have hd:=zh5 s i hi;have hu:=(zx7 s i _ _ hd).2.1;unfold zc4 zm8;generalize hc:s.getD i 0=c at *;by_cases h1:digB c=true
 ·rw[jb h1];have h1':=(zdq c).1 h1;have hlen:0<lenB digB s i:=by
   rw[zdy,hd];simp[lenB,h1]
  rw[z22 s i hlen];by_cases h0:0<(zii s i).2
  ·rw[jb h0]
  rw[ja h0,zlp s i (by omega),zil s i (by rw[hc,Bool.eq_false_iff,Ne,zfn];omega),ziy s i c _ hd (zx5 (by omega)),ja (by simp),ja (by simp),ja (by simp)];rw[zlr s i c _ hd (λq=>by have:=zjr q;omega) (by omega) (by omega) (by omega)];unfold zii at h0 ⊢;split
  ·rfl
  rename_i h4;rw[ja h4] at h0;split
  ·rfl
  rename_i n hn;rw[hn] at h0;simp only[zbj] at h0;split at h0 <;> omega
 have h1':digB c=false:=by simpa using h1
 rw[zk1 s i (by rw[hc];exact h1'),ja (by simp),ja h1];by_cases h2:ub s i=34
 ·rw[jb h2,zyc s i hl hp h2];by_cases h0:0<(zfy s i).2
  ·rw[jb h0]
  have hcn:c.toNat=34:=by rw[<- hu];exact h2
  rw[ja h0,zil s i (by rw[hc,Bool.eq_false_iff,Ne,zfn];omega),ziy s i c _ hd (zx5 (by omega)),ja (by simp),ja (by simp)];rw[zlr s i c _ hd (λq=>by have:=zjr q;omega) (by omega) (by omega) (by omega)];unfold zfy at h0 ⊢;split
  ·rfl
  rename_i r hr;rw[hr] at h0;simp only at h0;omega
 rw[ja h2,zlp s i h2,ja (by simp)];by_cases h3:letB c=true
 ·rw[jb h3];have h3':=(zfn c).1 h3;by_cases h0:0<(zbq s i).2
  ·rw[jb h0]
  rw[ja h0,ziy s i c _ hd (zx5 (by omega)),ja (by simp)];rw[zlr s i c _ hd (λq=>by have:=zjr q;omega) (by omega) (by omega) (by omega)];rw[zr8 s i (by omega) (by rw[hc];exact h3)]
 rw[ja h3,zil s i (by rw[hc];simpa using h3),ja (by simp)]
theorem zxk (s:zaa) (i:Nat) (x:zaa) (hi:i<=s.length) (hx:∀c∈x,¬(65<=c.toNat/\c.toNat<=90)/\¬(97<=c.toNat/\c.toNat<=122)):zem s i x=x.isPrefixOf (s.drop i):=by
 have hup:∀(c a:UInt8),(¬(65<=a.toNat/\a.toNat<=90)/\¬(97<=a.toNat/\a.toNat<=122))->(upU c=a↔c=a):=by
  intro c a ha;unfold upU;split
  ·constructor
   ·intro q;have:=congrArg UInt8.toNat q;simp at this;omega
   rintro rfl;omega
  exact Iff.rfl
 have hmap:∀(l x:zaa),(∀c∈x,¬(65<=c.toNat/\c.toNat<=90)/\¬(97<=c.toNat/\c.toNat<=122))->(l.map upU=x↔l=x):=by
  intro l
  induction l with
  | nil=>intro x _;exact Iff.rfl
  | cons c l ih=>
   intro x hx
   cases x with
   | nil=>simp
   | cons a x=>simp only[List.map_cons,List.cons.injEq];rw[hup c a (hx a (by simp)),ih x (λd hd=>hx d (by simp[hd]))]
 unfold zem;rw[Bool.eq_iff_iff,ji,decide_eq_true_eq,decide_eq_true_eq,hmap _ x hx,List.isPrefixOf_iff_prefix,List.prefix_iff_eq_take];constructor
 ·rintro ⟨_,q⟩;exact q.symm
 intro q;refine ⟨?_,q.symm⟩;have:=congrArg List.length q;rw[List.length_take,jp] at this;omega
end Go.Proofs.YtamcgggmfghljaaGreatDoor
