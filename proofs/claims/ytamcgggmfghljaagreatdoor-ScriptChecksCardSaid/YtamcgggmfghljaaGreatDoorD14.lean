/- Words for memory: a struct variable is stored, loaded and returned as one row. No program  -/
import Derived.Laws.Tables
import Derived.Laws.Rows
import Derived.Test.YtamcgggmfghljaaGreatDoorD11
import Derived.Test.YtamcgggmfghljaaGreatDoorD12
import Derived.Test.YtamcgggmfghljaaGreatDoorD13
set_option maxRecDepth 100000
set_option maxHeartbeats 8000000
open Go.Proofs.Tryz
namespace Go.Proofs.YtamcgggmfghljaaGreatDoor
open Go.RowKit
section
variable {w w' W:World} {g k:Nat} {t T:TypeId} {cs old:Array Value}
theorem Blk.row (h:Blk w g t old) (cs:Array Value):Blk (w.setRow g cs) g t cs:=setRow_heap w g old cs t (0,0) h
theorem Chg.setRow {S:Nat→Prop} (h:Chg S W w) (hg:S g∨W.heap.size≤g) (cs:Array Value):Chg S W (w.setRow g cs):=
 ⟨h.os,h.tape,h.output,by simpa using h.size,fun k hk hs=>(setRow_other w g k cs (by rintro rfl;exact hg.elim hs (fun h=>by omega))).trans (h.block k hk hs)⟩
theorem Below.setRow {B:Nat} (h:Below B W w) (hg:B≤g) (cs:Array Value):Below B W (w.setRow g cs):=
 ⟨h.os,h.tape,h.output,by simpa using h.size,fun k hk=>(setRow_other w g k cs (by omega)).trans (h.block k hk)⟩
end
section
variable {P:Program} {fn:Func} {tmps:Array Value} {w:World} {g:Nat} {t ty:TypeId} {cs:Array Value} {d:TypeDesc}
theorem zk0 {p:Tmp} (h:fn.results=#[.cell p ty]) (hp:tmps.getD p undef=.pointer (some ⟨g,0,none⟩)) (hg:Blk w g t cs)
 (hu:P.underlying ty=some d) (hd:(match d with | .struct _ | .array _ _=>true | _=>false)=true) (hi:(P.info? ty).map (·.size)=some cs.size):
 (results fn tmps).run P w=.ok (.agg cs) w:=results_cell_row h tmps w g t cs (0,0) d hp hg hu hd hi
end
section
variable {P:Program} {ops:Array Oper} {rest:List Oper} {dst:Option Tmp} {tt:TypeId} {ps:String} {af:Array Edge} {a:Act} {w:World} {Q:Exit→Act→World→Prop} {g:Nat} {t ty:TypeId} {x y:Operand} {old cells:Array Value}
end
structure WritesS (s:Scp):Prop where
 ents:∀x∈s.book.entries,zem cEnt entB 86 x
 ruls:∀x∈s.book.rules,zem cRul rulB 90 x
 grts:∀x∈s.book.grants,zem cGrt grtB 94 x
 evts:∀x∈s.book.log,zem cEvt evtB 99 x
 rlss:∀x∈s.book.releases,zem cRls rlsB 101 x
 oprs:∀x∈s.ops,zem cOpr oprB 103 x
theorem zg2 (s:Scp) (e r g l x o:Value) (B:Nat) (w:World) (hB:B≤w.heap.size) (hb:RdScp w B s e r g l x o) (hs:WritesS s) (hl:(scpB s).length≤100000000):
 Calls prog 27 #[vScp s e r g l x o] w fun u w'=>∃v',u=.returned v'∧Out w' v' (scpB s)∧OutTo w (.slice none 0 0) w' v':=by
 obtain ⟨Ae,ce,rfl,_⟩:=id hb.book.ents
 obtain ⟨Ar,cr,rfl,_⟩:=id hb.book.ruls
 obtain ⟨Ag,cg,rfl,_⟩:=id hb.book.grts
 obtain ⟨Al,cl,rfl,_⟩:=id hb.book.evts
 obtain ⟨Ax,cx,rfl,_⟩:=id hb.book.rlss
 obtain ⟨Ao,co,rfl,_⟩:=id hb.ops
 have HB:=Hd hb
 clear hb
 have hl2:(numI s.book.users).length+(zap entB s.book.entries).length+(zap rulB s.book.rules).length+(zap grtB s.book.grants).length+(zap evtB s.book.log).length+(zap rlsB s.book.releases).length+(numI s.book.step).length+(zap oprB s.ops).length≤100000000:=by
  simpa [scpB,Nat.add_assoc] using hl
 clear hl
 go_enter func27,ntmps27
 go_wp2_with fail
 have kA:Blk ((w.alloc (.cells #[.int .i64 s.book.users,.slice Ae s.book.entries.length ce,.slice Ar s.book.rules.length cr,.slice Ag s.book.grants.length cg,.slice Al s.book.log.length cl,.slice Ax s.book.releases.length cx,.int .i64 s.book.step,.slice Ao s.ops.length co] 31)).alloc (.cells #[.int .i64 s.book.users,.slice Ae s.book.entries.length ce,.slice Ar s.book.rules.length cr,.slice Ag s.book.grants.length cg,.slice Al s.book.log.length cl,.slice Ax s.book.releases.length cx,.int .i64 s.book.step] 28)) w.heap.size 31 #[.int .i64 s.book.users,.slice Ae s.book.entries.length ce,.slice Ar s.book.rules.length cr,.slice Ag s.book.grants.length cg,.slice Al s.book.log.length cl,.slice Ax s.book.releases.length cx,.int .i64 s.book.step,.slice Ao s.ops.length co]:=(Blk.new w _ _).alloc _
 have kB:Blk ((w.alloc (.cells #[.int .i64 s.book.users,.slice Ae s.book.entries.length ce,.slice Ar s.book.rules.length cr,.slice Ag s.book.grants.length cg,.slice Al s.book.log.length cl,.slice Ax s.book.releases.length cx,.int .i64 s.book.step,.slice Ao s.ops.length co] 31)).alloc (.cells #[.int .i64 s.book.users,.slice Ae s.book.entries.length ce,.slice Ar s.book.rules.length cr,.slice Ag s.book.grants.length cg,.slice Al s.book.log.length cl,.slice Ax s.book.releases.length cx,.int .i64 s.book.step] 28)) (w.heap.size+1) 28 #[.int .i64 s.book.users,.slice Ae s.book.entries.length ce,.slice Ar s.book.rules.length cr,.slice Ag s.book.grants.length cg,.slice Al s.book.log.length cl,.slice Ax s.book.releases.length cx,.int .i64 s.book.step]:=by have:=Blk.new (w.alloc (.cells #[.int .i64 s.book.users,.slice Ae s.book.entries.length ce,.slice Ar s.book.rules.length cr,.slice Ag s.book.grants.length cg,.slice Al s.book.log.length cl,.slice Ax s.book.releases.length cx,.int .i64 s.book.step,.slice Ao s.ops.length co] 31)) 28 #[.int .i64 s.book.users,.slice Ae s.book.entries.length ce,.slice Ar s.book.rules.length cr,.slice Ag s.book.grants.length cg,.slice Al s.book.log.length cl,.slice Ax s.book.releases.length cx,.int .i64 s.book.step];simpa using this
 have tt:OutTo w (.slice none 0 0) ((w.alloc (.cells #[.int .i64 s.book.users,.slice Ae s.book.entries.length ce,.slice Ar s.book.rules.length cr,.slice Ag s.book.grants.length cg,.slice Al s.book.log.length cl,.slice Ax s.book.releases.length cx,.int .i64 s.book.step,.slice Ao s.ops.length co] 31)).alloc (.cells #[.int .i64 s.book.users,.slice Ae s.book.entries.length ce,.slice Ar s.book.rules.length cr,.slice Ag s.book.grants.length cg,.slice Al s.book.log.length cl,.slice Ax s.book.releases.length cx,.int .i64 s.book.step] 28)) (.slice none 0 0):=((OutTo.refl w _).alloc _).alloc _
 have hA:(Value.slice none 0 0).ownBlock≠some w.heap.size:=by simp [Value.ownBlock]
 have hB2:(Value.slice none 0 0).ownBlock≠some (w.heap.size+1):=by simp [Value.ownBlock]
 have KA:=Hd kA
 have KB:=Hd kB
 have TT:=Hd tt
 clear kA kB tt
 refine (zbv _ [] _ _ (Out.nil _) (by simp)).mono ?_
 rintro e w1 ⟨v1,rfl,o1,t1⟩
 have KA1:=Hd (KA.out.outTo t1 hA)
 have KB1:=Hd (KB.out.outTo t1 hB2)
 have hA:=t1.ne KA.out.lt hA
 have hB2:=t1.ne KB.out.lt hB2
 have TT1:=Hd (TT.out.trans t1)
 have OO:=Hd o1
 clear KA KB TT
 have KA:=KA1
 have KB:=KB1
 have TT:=TT1
 have hz:=TT.out.chg.size
 clear o1 t1 KA1 KB1 TT1
 have q0:w1.cell? ⟨w.heap.size+1,0,none⟩=some (.int .i64 s.book.users):=KB.out.cell 0
 have q1:w1.cell? ⟨w.heap.size+1,1,none⟩=some (.slice Ae s.book.entries.length ce):=KB.out.cell 1
 have q2:w1.cell? ⟨w.heap.size+1,2,none⟩=some (.slice Ar s.book.rules.length cr):=KB.out.cell 2
 have q3:w1.cell? ⟨w.heap.size+1,3,none⟩=some (.slice Ag s.book.grants.length cg):=KB.out.cell 3
 have q4:w1.cell? ⟨w.heap.size+1,4,none⟩=some (.slice Al s.book.log.length cl):=KB.out.cell 4
 have q5:w1.cell? ⟨w.heap.size+1,5,none⟩=some (.slice Ax s.book.releases.length cx):=KB.out.cell 5
 have q6:w1.cell? ⟨w.heap.size+1,6,none⟩=some (.int .i64 s.book.step):=KB.out.cell 6
 go_wp2_with fail
 refine (zvp _ _ _ _ B _ OO.out (by omega) (TT.out.newer hB (by simp [Value.ownBlock])) ((HB.out.book.ents).below (TT.out.old hB (by simp [Value.ownBlock]))) hs.ents (by (try simp);omega)).mono ?_
 rintro e w2 ⟨v2,rfl,o2,t2⟩
 clear q0 q1 q2 q3 q4 q5 q6
 have KA2:=Hd (KA.out.outTo t2 hA)
 have KB2:=Hd (KB.out.outTo t2 hB2)
 have hA:=t2.ne KA.out.lt hA
 have hB2:=t2.ne KB.out.lt hB2
 have TT2:=Hd (TT.out.trans t2)
 have OO:=Hd o2
 clear KA KB TT
 have KA:=KA2
 have KB:=KB2
 have TT:=TT2
 have hz:=TT.out.chg.size
 clear o2 t2 KA2 KB2 TT2
 have q0:w2.cell? ⟨w.heap.size+1,0,none⟩=some (.int .i64 s.book.users):=KB.out.cell 0
 have q1:w2.cell? ⟨w.heap.size+1,1,none⟩=some (.slice Ae s.book.entries.length ce):=KB.out.cell 1
 have q2:w2.cell? ⟨w.heap.size+1,2,none⟩=some (.slice Ar s.book.rules.length cr):=KB.out.cell 2
 have q3:w2.cell? ⟨w.heap.size+1,3,none⟩=some (.slice Ag s.book.grants.length cg):=KB.out.cell 3
 have q4:w2.cell? ⟨w.heap.size+1,4,none⟩=some (.slice Al s.book.log.length cl):=KB.out.cell 4
 have q5:w2.cell? ⟨w.heap.size+1,5,none⟩=some (.slice Ax s.book.releases.length cx):=KB.out.cell 5
 have q6:w2.cell? ⟨w.heap.size+1,6,none⟩=some (.int .i64 s.book.step):=KB.out.cell 6
 go_wp2_with fail
 refine (zvk _ _ _ _ B _ OO.out (by omega) (TT.out.newer hB (by simp [Value.ownBlock])) ((HB.out.book.ruls).below (TT.out.old hB (by simp [Value.ownBlock]))) hs.ruls (by (try simp);omega)).mono ?_
 rintro e w3 ⟨v3,rfl,o3,t3⟩
 clear q0 q1 q2 q3 q4 q5 q6
 have KA3:=Hd (KA.out.outTo t3 hA)
 have KB3:=Hd (KB.out.outTo t3 hB2)
 have hA:=t3.ne KA.out.lt hA
 have hB2:=t3.ne KB.out.lt hB2
 have TT3:=Hd (TT.out.trans t3)
 have OO:=Hd o3
 clear KA KB TT
 have KA:=KA3
 have KB:=KB3
 have TT:=TT3
 have hz:=TT.out.chg.size
 clear o3 t3 KA3 KB3 TT3
 have q0:w3.cell? ⟨w.heap.size+1,0,none⟩=some (.int .i64 s.book.users):=KB.out.cell 0
 have q1:w3.cell? ⟨w.heap.size+1,1,none⟩=some (.slice Ae s.book.entries.length ce):=KB.out.cell 1
 have q2:w3.cell? ⟨w.heap.size+1,2,none⟩=some (.slice Ar s.book.rules.length cr):=KB.out.cell 2
 have q3:w3.cell? ⟨w.heap.size+1,3,none⟩=some (.slice Ag s.book.grants.length cg):=KB.out.cell 3
 have q4:w3.cell? ⟨w.heap.size+1,4,none⟩=some (.slice Al s.book.log.length cl):=KB.out.cell 4
 have q5:w3.cell? ⟨w.heap.size+1,5,none⟩=some (.slice Ax s.book.releases.length cx):=KB.out.cell 5
 have q6:w3.cell? ⟨w.heap.size+1,6,none⟩=some (.int .i64 s.book.step):=KB.out.cell 6
 go_wp2_with fail
 refine (zvn _ _ _ _ B _ OO.out (by omega) (TT.out.newer hB (by simp [Value.ownBlock])) ((HB.out.book.grts).below (TT.out.old hB (by simp [Value.ownBlock]))) hs.grts (by (try simp);omega)).mono ?_
 rintro e w4 ⟨v4,rfl,o4,t4⟩
 clear q0 q1 q2 q3 q4 q5 q6
 have KA4:=Hd (KA.out.outTo t4 hA)
 have KB4:=Hd (KB.out.outTo t4 hB2)
 have hA:=t4.ne KA.out.lt hA
 have hB2:=t4.ne KB.out.lt hB2
 have TT4:=Hd (TT.out.trans t4)
 have OO:=Hd o4
 clear KA KB TT
 have KA:=KA4
 have KB:=KB4
 have TT:=TT4
 have hz:=TT.out.chg.size
 clear o4 t4 KA4 KB4 TT4
 have q0:w4.cell? ⟨w.heap.size+1,0,none⟩=some (.int .i64 s.book.users):=KB.out.cell 0
 have q1:w4.cell? ⟨w.heap.size+1,1,none⟩=some (.slice Ae s.book.entries.length ce):=KB.out.cell 1
 have q2:w4.cell? ⟨w.heap.size+1,2,none⟩=some (.slice Ar s.book.rules.length cr):=KB.out.cell 2
 have q3:w4.cell? ⟨w.heap.size+1,3,none⟩=some (.slice Ag s.book.grants.length cg):=KB.out.cell 3
 have q4:w4.cell? ⟨w.heap.size+1,4,none⟩=some (.slice Al s.book.log.length cl):=KB.out.cell 4
 have q5:w4.cell? ⟨w.heap.size+1,5,none⟩=some (.slice Ax s.book.releases.length cx):=KB.out.cell 5
 have q6:w4.cell? ⟨w.heap.size+1,6,none⟩=some (.int .i64 s.book.step):=KB.out.cell 6
 go_wp2_with fail
 refine (zvo _ _ _ _ B _ OO.out (by omega) (TT.out.newer hB (by simp [Value.ownBlock])) ((HB.out.book.evts).below (TT.out.old hB (by simp [Value.ownBlock]))) hs.evts (by (try simp);omega)).mono ?_
 rintro e w5 ⟨v5,rfl,o5,t5⟩
 clear q0 q1 q2 q3 q4 q5 q6
 have KA5:=Hd (KA.out.outTo t5 hA)
 have KB5:=Hd (KB.out.outTo t5 hB2)
 have hA:=t5.ne KA.out.lt hA
 have hB2:=t5.ne KB.out.lt hB2
 have TT5:=Hd (TT.out.trans t5)
 have OO:=Hd o5
 clear KA KB TT
 have KA:=KA5
 have KB:=KB5
 have TT:=TT5
 have hz:=TT.out.chg.size
 clear o5 t5 KA5 KB5 TT5
 have q0:w5.cell? ⟨w.heap.size+1,0,none⟩=some (.int .i64 s.book.users):=KB.out.cell 0
 have q1:w5.cell? ⟨w.heap.size+1,1,none⟩=some (.slice Ae s.book.entries.length ce):=KB.out.cell 1
 have q2:w5.cell? ⟨w.heap.size+1,2,none⟩=some (.slice Ar s.book.rules.length cr):=KB.out.cell 2
 have q3:w5.cell? ⟨w.heap.size+1,3,none⟩=some (.slice Ag s.book.grants.length cg):=KB.out.cell 3
 have q4:w5.cell? ⟨w.heap.size+1,4,none⟩=some (.slice Al s.book.log.length cl):=KB.out.cell 4
 have q5:w5.cell? ⟨w.heap.size+1,5,none⟩=some (.slice Ax s.book.releases.length cx):=KB.out.cell 5
 have q6:w5.cell? ⟨w.heap.size+1,6,none⟩=some (.int .i64 s.book.step):=KB.out.cell 6
 go_wp2_with fail
 refine (zvl _ _ _ _ B _ OO.out (by omega) (TT.out.newer hB (by simp [Value.ownBlock])) ((HB.out.book.rlss).below (TT.out.old hB (by simp [Value.ownBlock]))) hs.rlss (by (try simp);omega)).mono ?_
 rintro e w6 ⟨v6,rfl,o6,t6⟩
 clear q0 q1 q2 q3 q4 q5 q6
 have KA6:=Hd (KA.out.outTo t6 hA)
 have KB6:=Hd (KB.out.outTo t6 hB2)
 have hA:=t6.ne KA.out.lt hA
 have hB2:=t6.ne KB.out.lt hB2
 have TT6:=Hd (TT.out.trans t6)
 have OO:=Hd o6
 clear KA KB TT
 have KA:=KA6
 have KB:=KB6
 have TT:=TT6
 have hz:=TT.out.chg.size
 clear o6 t6 KA6 KB6 TT6
 have q0:w6.cell? ⟨w.heap.size+1,0,none⟩=some (.int .i64 s.book.users):=KB.out.cell 0
 have q1:w6.cell? ⟨w.heap.size+1,1,none⟩=some (.slice Ae s.book.entries.length ce):=KB.out.cell 1
 have q2:w6.cell? ⟨w.heap.size+1,2,none⟩=some (.slice Ar s.book.rules.length cr):=KB.out.cell 2
 have q3:w6.cell? ⟨w.heap.size+1,3,none⟩=some (.slice Ag s.book.grants.length cg):=KB.out.cell 3
 have q4:w6.cell? ⟨w.heap.size+1,4,none⟩=some (.slice Al s.book.log.length cl):=KB.out.cell 4
 have q5:w6.cell? ⟨w.heap.size+1,5,none⟩=some (.slice Ax s.book.releases.length cx):=KB.out.cell 5
 have q6:w6.cell? ⟨w.heap.size+1,6,none⟩=some (.int .i64 s.book.step):=KB.out.cell 6
 clear q0 q1 q2 q3 q4 q5
 go_wp2_with fail
 have q7:w6.cell? ⟨w.heap.size,7,none⟩=some (.slice Ao s.ops.length co):=KA.out.cell 7
 have oo:=OO.out.drew
 have kA:=KA.out.drew
 have kB:=KB.out.drew
 have tt:=TT.out.drew
 clear OO KA KB TT
 go_region_held3 (fun W:World=>W.cell? ⟨w.heap.size+1,6,none⟩=some (.int .i64 s.book.step)∧W.cell? ⟨w.heap.size,7,none⟩=some (.slice Ao s.ops.length co))
  (first
   | exact ⟨kB.cell 6,kA.cell 7⟩)
  (first
   | (go_at_call 84;refine (zbv _ _ _ _ oo (by (try simp);omega)).mono ?_;rintro e w7 ⟨v7,rfl,oo,t7⟩;have hA':=t7.ne kA.lt hA;have hB':=t7.ne kB.lt hB2;have kA:=kA.outTo t7 hA;have kB:=kB.outTo t7 hB2;have tt:=tt.trans t7;clear t7)
   | (go_at_call 102;refine (zvm _ _ _ _ B _ oo (by have:=tt.chg.size;omega) (tt.newer hB (by simp [Value.ownBlock])) (HB.out.ops.below (tt.old hB (by simp [Value.ownBlock]))) hs.oprs (by (try simp);omega)).mono ?_;rintro e w8 ⟨v8,rfl,oo,t8⟩;have kA:=kA.outTo t8 hA';have kB:=kB.outTo t8 hB';have tt:=tt.trans t8;clear t8))
 go_wp2
 go_ret
 exact ⟨_,rfl,by simpa [scpB] using oo,tt⟩
theorem zjt {w:World} {v:Value} {l:zaa} (h:Out w v l) (hp:0<l.length):∃g cap,v=.slice (some ⟨g,0,none⟩) l.length cap∧(convert 59 9 (.slice (some ⟨g,0,none⟩) l.length cap)).run prog w=.ok (str l) w:=by
 obtain ⟨g,cap,rfl,_,hlt⟩:=World.ownsRow.form h hp
 refine ⟨g,cap,rfl,run_convert_bytes_back (P:=prog) w 59 9 5 ⟨g,0,none⟩ cap l underlying59 underlying5 underlying9 (fun j hj=>?_)⟩
 exact World.ownsRow.cells h (g:=g) rfl j _ (by simp [u8s,List.getElem?_eq_getElem hj])
theorem zxl (c:UInt8) (t:zaa) (h:c≠34):unqL (c::t)=(unqL t).map (c::·):=by
 cases t with
 | nil=>
  conv=>lhs;unfold unqL
  rw [if_neg h]
  rfl
 | cons d t=>
  conv=>lhs;unfold unqL
  rw [if_neg h]
theorem zxk:unqL [34]=none:=by decide
theorem zxi (t:zaa):unqL (34::34::t)=(unqL t).map (34::·):=by
 conv=>lhs;unfold unqL
 simp
theorem zxj (d:UInt8) (t:zaa) (h:d≠34):unqL (34::d::t)=none:=by
 conv=>lhs;unfold unqL
 simp [h]
def zer (s:zaa) (j:Nat):zaa:=(s.drop j).take (s.length-1-j)
theorem zk1 (s:zaa):zer s (s.length-1)=[]:=by unfold zer;simp
theorem zin (s:zaa) (j:Nat) (h:j<s.length-1):zer s j=s.getD j 0::zer s (j+1):=by
 unfold zer
 rw [List.drop_eq_getElem_cons (by omega),show s.length-1-j=s.length-1-(j+1)+1 by omega,List.take_succ_cons,List.getD_eq_getElem?_getD,List.getElem?_eq_getElem (by omega)]
 rfl
theorem zr4 (o:zaa) (c:UInt8) (x:Option zaa):(x.map (c::·)).map (o++·)=x.map ((o++ [c])++·):=by cases x <;> simp
theorem zu3 {w:World} {v:Value} {l:zaa} (h:Out w v l):∃A cap,v=.slice A l.length cap∧(convert 59 9 (.slice A l.length cap)).run prog w=.ok (str l) w:=by
 by_cases hp:0<l.length
 ·obtain ⟨g,cap,rfl,hr⟩:=zjt h hp
  exact ⟨_,_,rfl,hr⟩
 have hl:l=[]:=List.eq_nil_of_length_eq_zero (by omega)
 subst hl
 rcases h.2 with ⟨rfl,_⟩ | ⟨g,cap,cur,rfl,_⟩
 ·exact ⟨none,0,rfl,by kernel_rfl⟩
 exact ⟨_,cap,rfl,run_convert_bytes_back (P:=prog) w 59 9 5 ⟨g,0,none⟩ cap [] underlying59 underlying5 underlying9 (fun j hj=>by simp at hj)⟩
theorem zg6 (s:zaa) (w:World) (hs:s.length≤1000000):
 Calls prog 275 #[str s] w fun u w'=>u=.returned (.tuple #[str (unqB s).1,.int .i64 (unqB s).2])∧Below w.heap.size w w':=by
 obtain ⟨i0,hi0,hz0,hz1,hz2⟩:=info_parts (show (prog.info? 5).map (fun i=>(i.zero,i.size,i.bytes))=some (some (.int .u8 0),1,1) by kernel_rfl)
 by_cases h2:s.length<2
 ·have h2':(s.length:Int)<2:=by omega
  have HE:=Hd (show unqB s=([],4) by unfold unqB;rw [if_pos (.inl h2)])
  go_enter func275,ntmps275
  go_wp2
  go_step3
  go_wp2
  try rw [Exit.noGoto_ret]
  go_ret2
  exact ⟨by rw [HE.out];rfl,by go_grown⟩
 have h2':¬(s.length:Int)<2:=by omega
 have hx0:=za2 s 0 (by rw [zad];omega)
 by_cases q0:ub s 0=34
 rotate_left
 ·have q0':(((s.getD 0 0).toNat:Int) != 34)=true:=by unfold ub at q0;simp only [bne_iff_ne,ne_eq];omega
  generalize s.getD 0 0=c0 at hx0 q0'
  have HE:=Hd (show unqB s=([],4) by unfold unqB;rw [if_pos (.inr (.inl q0))])
  go_enter func275,ntmps275
  go_wp2
  go_step3
  go_wp2
  try rw [Exit.noGoto_ret]
  go_ret2
  exact ⟨by rw [HE.out];rfl,by go_grown⟩
 have q0':(((s.getD 0 0).toNat:Int) != 34)=false:=by unfold ub at q0;rw [q0];rfl
 generalize s.getD 0 0=c0 at hx0 q0'
 have hb1:(0:Int)≤(s.length:Int)-1:=by omega
 have hb2:(s.length:Int)-1<(s.length:Int):=by omega
 have hx1:=za2 s (s.length-1) (by rw [zad];omega)
 have hb3:((s.length:Int)-1).toNat=s.length-1:=by omega
 by_cases q1:ub s (s.length-1)=34
 rotate_left
 ·have q1':(((s.getD (s.length-1) 0).toNat:Int) != 34)=true:=by unfold ub at q1;simp only [bne_iff_ne,ne_eq];omega
  generalize s.getD (s.length-1) 0=c1 at hx1 q1'
  have HE:=Hd (show unqB s=([],4) by unfold unqB;rw [if_pos (.inr (.inr (.inl q1)))])
  go_enter func275,ntmps275
  go_wp2
  go_step3
  go_wp2
  try rw [Exit.noGoto_ret]
  go_ret2
  exact ⟨by rw [HE.out];rfl,by go_grown⟩
 have q1':(((s.getD (s.length-1) 0).toNat:Int) != 34)=false:=by unfold ub at q1;rw [q1];rfl
 generalize s.getD (s.length-1) 0=c1 at hx1 q1'
 go_enter func275,ntmps275
 go_wp2
 go_step3
 go_wp2_with fail
 refine (zfp s _ hs).mono ?_
 rintro u w1 ⟨rfl,hbw⟩
 have HB:=Hd hbw
 clear hbw
 by_cases hp:prB s=true
 rotate_left
 ·have hp':prB s=false:=by simpa using hp
  have HE:=Hd (show unqB s=([],4) by unfold unqB;rw [if_pos (.inr (.inr (.inr hp')))])
  rw [hp']
  go_wp2
  try rw [Exit.noGoto_ret]
  go_ret2
  exact ⟨by rw [HE.out];rfl,HB.out⟩
 have HE:=Hd (show unqB s=_ by unfold unqB;rw [if_neg (by simp [h2,q0,q1];exact hp)])
 clear hx0 hx1 q0' q1'
 rw [hp]
 go_wp2
 go_step3
 go_wp2
 have hn1:1≤s.length-1:=by omega
 go_loopw [5,6] (fun v i wr=>∃(j:Nat) (o:zaa),1≤j∧j≤s.length-1∧i=.int .i64 j∧Out wr v o∧OutTo w1 (.slice none 0 0) wr v∧o.length≤j∧unqL (zer s 1)=(unqL (zer s j)).map (o++·)) (fun _ i _=>s.length-(intOf i).toNat)
 case atStart=>exact ⟨1,[],by omega,hn1,rfl,Out.nil _,OutTo.refl _ _,by simp,by cases unqL (zer s 1) <;> simp⟩
 obtain ⟨j,o,hj1,hjn,rfl,ho,ht,hol,hun⟩:=hrel
 have HO:=Hd ho
 have HT:=Hd ht
 have HUN:=Hd hun
 clear ho ht hun
 by_cases hend:j=s.length-1
 ·have HR:=Hd (show unqL (zer s 1)=some o by rw [HUN.out,hend,zk1];unfold unqL;simp)
  have hj2:((j:Int)==(s.length:Int)-1)=true:=by simp only [beq_iff_eq];omega
  obtain ⟨A,cap,hv,hcv⟩:=zu3 HO.out
  subst hv
  have hol2:(o.length:Int)≤1000000:=by omega
  by_cases hbig:256<o.length
  ·have hb':(256:Int)<(o.length:Int):=by omega
   have HF:=Hd (show unqB s=([],5) by rw [HE.out,show (s.drop 1).take (s.length-2)=zer s 1 by unfold zer;rw [show s.length-1-1=s.length-2 by omega],HR.out];simp [hbig])
   go_wp2
   try rw [Exit.noGoto_ret]
   go_ret2
   exact ⟨by rw [HF.out];rfl,HB.out.trans (HT.out.old HB.out.size (fun k hk=>by simp [Value.ownBlock] at hk))⟩
  have hb':¬(256:Int)<(o.length:Int):=by omega
  have HF:=Hd (show unqB s=(o,0) by rw [HE.out,show (s.drop 1).take (s.length-2)=zer s 1 by unfold zer;rw [show s.length-1-1=s.length-2 by omega],HR.out];simp [hbig])
  go_wp2
  try rw [Exit.noGoto_ret]
  go_ret2
  exact ⟨by rw [HF.out];rfl,HB.out.trans (HT.out.old HB.out.size (fun k hk=>by simp [Value.ownBlock] at hk))⟩
 have hj2:((j:Int)==(s.length:Int)-1)=false:=by simp only [beq_eq_false_iff_ne,ne_eq];omega
 have hj3:(j:Int)<(s.length:Int):=by omega
 have hj4:(0:Int)≤(j:Int):=by omega
 have hx:=za2 s j (by rw [zad];omega)
 have HST:=Hd (zin s j (by omega))
 generalize s.getD j 0=c at *
 have hcl:=c.toNat_lt
 by_cases hc:c=34
 rotate_left
 ·have hc2:((c.toNat:Int) != 34)=true:=by
   simp only [bne_iff_ne,ne_eq]
   intro e
   exact hc (UInt8.toNat_inj.1 (by simpa using (by omega:c.toNat=34)))
  go_wp2_with (at_builtin;refine zbn rfl _ _ 59 rfl i0 rfl hi0 hz0 hz1 hz2 u5 o rfl (HO.out.alloc _) wr.heap.size ((c.toNat:Int)) rfl (by omega) (by omega) (World.cell?_alloc_at _ _ _ _ rfl) (by omega) ?_;intro v2 w2 o2 t2)
  have T2:=Hd (HT.out.trans (((OutTo.refl wr u5).alloc _).trans t2))
  have O2:=Hd o2
  clear t2 o2
  go_wp2
  refine ⟨⟨j+1,o++ [c],by omega,by omega,by go_num,?_,T2.out,by simp;omega,?_⟩,by simp [intOf];omega⟩
  ·have h:=O2.out
   rw [show UInt8.ofNat ((c.toNat:Int)).toNat=c by simp] at h
   exact h
  rw [HUN.out,HST.out,zxl c _ hc,zr4]
 subst hc
 by_cases hl:j+1=s.length-1
 ·have hl2:((j:Int)+1==(s.length:Int)-1)=true:=by simp only [beq_iff_eq];omega
  have HF:=Hd (show unqB s=([],4) by rw [HE.out,show (s.drop 1).take (s.length-2)=zer s 1 by unfold zer;rw [show s.length-1-1=s.length-2 by omega],HUN.out,HST.out,hl,zk1,zxk];rfl)
  have hx34:((34:UInt8).toNat:Int)=34:=rfl
  go_wp2
  try rw [Exit.noGoto_ret]
  go_ret2
  exact ⟨by rw [HF.out];rfl,HB.out.trans (HT.out.old HB.out.size (fun k hk=>by simp [Value.ownBlock] at hk))⟩
 have hl2:((j:Int)+1==(s.length:Int)-1)=false:=by simp only [beq_eq_false_iff_ne,ne_eq];omega
 have hj5:(j:Int)+1<(s.length:Int):=by omega
 have hx2:=za2 s (j+1) (by rw [zad];omega)
 have HST2:=Hd (zin s (j+1) (by omega))
 generalize s.getD (j+1) 0=d at *
 by_cases hd:d=34
 ·subst hd
  go_wp2_with (at_builtin;refine zbn rfl _ _ 59 rfl i0 rfl hi0 hz0 hz1 hz2 u5 o rfl (HO.out.alloc _) wr.heap.size (34) rfl (by omega) (by omega) (World.cell?_alloc_at _ _ _ _ rfl) (by omega) ?_;intro v2 w2 o2 t2)
  have T2:=Hd (HT.out.trans (((OutTo.refl wr u5).alloc _).trans t2))
  have O2:=Hd o2
  clear t2 o2
  go_wp2
  refine ⟨⟨j+2,o++ [34],by omega,by omega,by go_num,?_,T2.out,by simp;omega,?_⟩,by simp [intOf];omega⟩
  ·exact O2.out
  rw [HUN.out,HST.out,HST2.out,zxi,zr4]
 have hd2:((d.toNat:Int) != 34)=true:=by
  simp only [bne_iff_ne,ne_eq]
  intro e
  exact hd (UInt8.toNat_inj.1 (by simpa using (by omega:d.toNat=34)))
 have HF:=Hd (show unqB s=([],4) by rw [HE.out,show (s.drop 1).take (s.length-2)=zer s 1 by unfold zer;rw [show s.length-1-1=s.length-2 by omega],HUN.out,HST.out,HST2.out,zxj d _ hd];rfl)
 go_wp2
 try rw [Exit.noGoto_ret]
 go_ret2
 exact ⟨by rw [HF.out];rfl,HB.out.trans (HT.out.old HB.out.size (fun k hk=>by simp [Value.ownBlock] at hk))⟩
theorem zst (s:zaa) (f k:Nat) (h:s.length≤k):endQ s (f+1) k=none:=by unfold endQ;rw [if_pos h]
theorem zqb (s:zaa) (f k:Nat) (h:k<s.length) (hc:ub s k≠34):endQ s (f+1) k=endQ s f (k+1):=by
 conv=>lhs;unfold endQ
 rw [if_neg (by omega),if_pos hc]
theorem zwa (s:zaa) (f k:Nat) (_h:k<s.length) (hc:ub s k=34) (h2:k+1<s.length) (hd:ub s (k+1)=34):endQ s (f+1) k=endQ s f (k+2):=by
 conv=>lhs;unfold endQ
 rw [if_neg (by omega),if_neg (by simp [hc]),if_pos ⟨h2,hd⟩]
theorem zoa (s:zaa) (f k:Nat) (h:k<s.length) (hc:ub s k=34) (h2:¬(k+1<s.length∧ub s (k+1)=34)):endQ s (f+1) k=some k:=by
 conv=>lhs;unfold endQ
 rw [if_neg (by omega),if_neg (by simp [hc]),if_neg h2]
theorem zkl (s:zaa) (k:Nat) {c:UInt8} (h:s.getD k 0=c):ub s k=c.toNat:=by unfold ub;rw [h]
theorem zf0 (c:UInt8) (n:Nat) (h:c.toNat=n):((c.toNat:Int)==(n:Int))=true:=by rw [h];simp
theorem zxb (c:UInt8) (n:Nat) (h:c.toNat=n):((c.toNat:Int) != (n:Int))=false:=by rw [h];simp
theorem zeu (c:UInt8) (n:Nat) (h:c.toNat≠n):((c.toNat:Int)==(n:Int))=false:=by simp only [beq_eq_false_iff_ne,ne_eq];omega
theorem zrs (c:UInt8) (n:Nat) (h:c.toNat≠n):((c.toNat:Int) != (n:Int))=true:=by simp only [bne_iff_ne,ne_eq];omega
theorem zvr (g:Nat) (s:zaa) (i:Nat) (w:World) (hs:s.length≤1000000) (hi:i<s.length) (hg:Blk w g 263 #[str s]):
 Calls prog 247 #[.pointer (some ⟨g,0,none⟩),.int .i64 i] w fun u w'=>u=.returned (.tuple #[.agg (cTok (zc1 s i).1).toArray,.int .i64 (zc1 s i).2])∧Below w.heap.size w w':=by
 have hgl:=hg.lt
 have hc:w.cell? ⟨g,0,none⟩=some (str s):=hg.cell 0
 have HG:=Hd hg
 clear hg
 have hi0:(0:Int)≤(i:Int):=Int.natCast_nonneg _
 have hi1:(i:Int)<(s.length:Int):=by omega
 have hx0:=za2 s i (by rw [zad];exact hi)
 have hu0:=zkl s i rfl
 obtain ⟨c0,hc0⟩:∃c0,s.getD i 0=c0:=⟨_,rfl⟩
 rw [hc0] at hx0 hu0
 clear hc0
 by_cases h34:c0.toNat=34
 rotate_left
 ·have t0:((c0.toNat:Int) != 34)=true:=zrs c0 34 h34
  have HE:=Hd (show zc1 s i=(tok0,0) by unfold zc1;rw [if_pos (by rw [hu0];exact h34)])
  go_enter func247,ntmps247
  go_wp2
  refine bodyPost_ret (v:=.tuple #[.agg (cTok tok0).toArray,.int .i64 0]) (by simp (maxDischargeDepth:=9) [results,results247,go_sem,cTok,tok0,z4]) rfl ?_
  rw [HE.out]
  exact ⟨rfl,by go_grown⟩
 have t0:((c0.toNat:Int) != 34)=false:=zxb c0 34 h34
 have HS:=Hd (show zc1 s i=match endQ s s.length (i+1) with
  | none=>(tok0,0)
  | some k=>if (unqB ((s.drop i).take (k+1-i))).2≠0 then (tok0,0) else (⟨3-1,0,(unqB ((s.drop i).take (k+1-i))).1,z4,i⟩,k+1-i) by unfold zc1;rw [if_neg (by rw [hu0,h34];simp)];rfl)
 have KZ:=Hd (show TokZ _ w.heap.size from Blk.new w 239 #[.int .u8 0,.int .i64 0,str [],.int .i64 0,.int .i64 0,.int .i64 0,.int .i64 0,.int .i64 0])
 have HG1:=Hd (HG.out.alloc (.cells #[.int .u8 0,.int .i64 0,str [],.int .i64 0,.int .i64 0,.int .i64 0,.int .i64 0,.int .i64 0] 239))
 have HB1:=Hd (show Below w.heap.size w (w.alloc (.cells #[.int .u8 0,.int .i64 0,str [],.int .i64 0,.int .i64 0,.int .i64 0,.int .i64 0,.int .i64 0] 239)) from by go_grown)
 clear hu0 h34
 go_enter func247,ntmps247
 go_wp2
 clear hc
 obtain ⟨W1,hW1⟩:∃W1,w.alloc (.cells #[.int .u8 0,.int .i64 0,str [],.int .i64 0,.int .i64 0,.int .i64 0,.int .i64 0,.int .i64 0] 239)=W1:=⟨_,rfl⟩
 have hW1':w.alloc (.cells #[.int .u8 0,.int .i64 0,.string ⟨#[]⟩,.int .i64 0,.int .i64 0,.int .i64 0,.int .i64 0,.int .i64 0] 239)=W1:=hW1
 rw [hW1] at KZ HG1 HB1
 first | rw [hW1'] | rw [hW1]
 clear hW1 hW1' hx0 t0
 go_loopw [6] (fun v wr=>∃k f:Nat,i<k∧k≤s.length∧s.length-k<f∧v=.int .i64 k∧endQ s s.length (i+1)=endQ s f k∧W1=wr) (fun v _=>s.length+1-(intOf v).toNat)
 case atStart=>exact ⟨i+1,s.length,by omega,by omega,by omega,rfl,rfl,rfl⟩
 obtain ⟨k,f,hik,hk,hf,rfl,hq,rfl⟩:=hrel
 have HQ:=Hd hq
 clear hq
 obtain ⟨f,rfl⟩:∃f',f=f'+1:=⟨f-1,by omega⟩
 have hgc:W1.cell? ⟨g,0,none⟩=some (str s):=HG1.out.cell 0
 have hk0:(0:Int)≤(k:Int):=by omega
 by_cases hlt:k<s.length
 rotate_left
 ·have hk1:¬(k:Int)<(s.length:Int):=by omega
  have HE:=Hd (show zc1 s i=(tok0,0) by rw [HS.out,HQ.out,zst s f k (by omega)])
  obtain ⟨q0,q1,q2,q3,q4,q5,q6,q7,qf⟩:=zac KZ.out
  go_wp2
  refine bodyPost_ret (v:=.tuple #[.agg (cTok tok0).toArray,.int .i64 0]) (by simp (maxDischargeDepth:=9) [results,results247,go_sem,q0,q1,q2,q3,q4,q5,q6,q7,cTok,tok0,z4]) rfl ?_
  rw [HE.out]
  exact ⟨rfl,zal HB1.out (Nat.le_refl _) _ _ _ _ _ _ _ _⟩
 have hk1:(k:Int)<(s.length:Int):=by omega
 have hx:=za2 s k (by rw [zad];exact hlt)
 have hu:=zkl s k rfl
 obtain ⟨c,hcc⟩:∃c,s.getD k 0=c:=⟨_,rfl⟩
 rw [hcc] at hx hu
 clear hcc
 by_cases h34:c.toNat=34
 rotate_left
 ·have t1:((c.toNat:Int) != 34)=true:=zrs c 34 h34
  have HN:=Hd (zqb s f k hlt (by rw [hu];exact h34))
  clear hu h34
  go_wp2
  exact ⟨⟨k+1,f,by omega,by omega,by omega,by go_num,by rw [HQ.out,HN.out],trivial⟩,by simp [intOf];omega⟩
 have t1:((c.toNat:Int) != 34)=false:=zxb c 34 h34
 by_cases hk2:k+1<s.length
 ·have hk3:(k:Int)+1<(s.length:Int):=by omega
  have hx2:=za2 s (k+1) (by rw [zad];exact hk2)
  have hu2:=zkl s (k+1) rfl
  obtain ⟨d,hdd⟩:∃d,s.getD (k+1) 0=d:=⟨_,rfl⟩
  rw [hdd] at hx2 hu2
  clear hdd
  by_cases h34d:d.toNat=34
  ·have t2:((d.toNat:Int)==34)=true:=zf0 d 34 h34d
   have HN:=Hd (zwa s f k hlt (by rw [hu,h34]) hk2 (by rw [hu2,h34d]))
   clear hu hu2 h34 h34d
   go_wp2
   exact ⟨⟨k+2,f,by omega,by omega,by omega,by go_num,by rw [HQ.out,HN.out],trivial⟩,by simp [intOf];omega⟩
  have t2:((d.toNat:Int)==34)=false:=zeu d 34 h34d
  have HN:=Hd (zoa s f k hlt (by rw [hu,h34]) (fun h=>h34d (by rw [← hu2];exact h.2)))
  clear hu hu2 h34 h34d
  have he1:(k:Int)+1≤(s.length:Int):=by omega
  have he2:(i:Int)≤(k:Int)+1:=by omega
  go_wp2_with fail
  rw [show k+1=i+(k+1-i) by omega,zcs]
  refine (zg6 _ _ (by simp;omega)).mono ?_
  rintro u w5 ⟨rfl,hb5⟩
  have HB5:=Hd (show Below w.heap.size w w5 from Below.next HB1.out hb5 HB1.out.size)
  have KZ5:=Hd (KZ.out.below_ hb5)
  clear hb5 hgc
  obtain ⟨r,hr⟩:∃r,unqB ((s.drop i).take (k+1-i))=r:=⟨_,rfl⟩
  rw [hr]
  have HR:=Hd hr
  clear hr
  by_cases he:r.2=0
  ·have HE:=Hd (show zc1 s i=(⟨3-1,0,r.1,z4,i⟩,k+1-i) by
    rw [HS.out,HQ.out,HN.out]
    dsimp only
    rw [HR.out,if_neg (by simpa using he)])
   obtain ⟨q0,q1,q2,q3,q4,q5,q6,q7,qf⟩:=zac KZ5.out
   have he3:(r.2 != 0)=false:=by simpa using he
   clear he
   go_wp2
   refine bodyPost_ret (v:=.tuple #[.agg (cTok ⟨3-1,0,r.1,z4,i⟩).toArray,.int .i64 ((k:Int)+1-(i:Int))]) (by simp (maxDischargeDepth:=9) [results,results247,go_sem,q0,q1,q2,q3,q4,q5,q6,q7,cTok,z4]) rfl ?_
   rw [HE.out]
   exact ⟨by rw [show ((k+1-i:Nat):Int)=(k:Int)+1-(i:Int) by omega],zal HB5.out (Nat.le_refl _) _ _ _ _ _ _ _ _⟩
  have HE:=Hd (show zc1 s i=(tok0,0) by
   rw [HS.out,HQ.out,HN.out]
   dsimp only
   rw [HR.out,if_pos he])
  have he3:(r.2 != 0)=true:=by simpa using he
  clear he
  obtain ⟨q0,q1,q2,q3,q4,q5,q6,q7,qf⟩:=zac KZ5.out
  go_wp2
  refine bodyPost_ret (v:=.tuple #[.agg (cTok tok0).toArray,.int .i64 0]) (by simp (maxDischargeDepth:=9) [results,results247,go_sem,q0,q1,q2,q3,q4,q5,q6,q7,cTok,tok0,z4]) rfl ?_
  rw [HE.out]
  exact ⟨rfl,zal HB5.out (Nat.le_refl _) _ _ _ _ _ _ _ _⟩
 have hk3:¬(k:Int)+1<(s.length:Int):=by omega
 have HN:=Hd (zoa s f k hlt (by rw [hu,h34]) (fun h=>hk2 h.1))
 clear hu h34
 have he1:(k:Int)+1≤(s.length:Int):=by omega
 have he2:(i:Int)≤(k:Int)+1:=by omega
 go_wp2_with fail
 rw [show k+1=i+(k+1-i) by omega,zcs]
 refine (zg6 _ _ (by simp;omega)).mono ?_
 rintro u w5 ⟨rfl,hb5⟩
 have HB5:=Hd (show Below w.heap.size w w5 from Below.next HB1.out hb5 HB1.out.size)
 have KZ5:=Hd (KZ.out.below_ hb5)
 clear hb5 hgc
 obtain ⟨r,hr⟩:∃r,unqB ((s.drop i).take (k+1-i))=r:=⟨_,rfl⟩
 rw [hr]
 have HR:=Hd hr
 clear hr
 by_cases he:r.2=0
 ·have HE:=Hd (show zc1 s i=(⟨3-1,0,r.1,z4,i⟩,k+1-i) by
   rw [HS.out,HQ.out,HN.out]
   dsimp only
   rw [HR.out,if_neg (by simpa using he)])
  obtain ⟨q0,q1,q2,q3,q4,q5,q6,q7,qf⟩:=zac KZ5.out
  have he3:(r.2 != 0)=false:=by simpa using he
  clear he
  go_wp2
  refine bodyPost_ret (v:=.tuple #[.agg (cTok ⟨3-1,0,r.1,z4,i⟩).toArray,.int .i64 ((k:Int)+1-(i:Int))]) (by simp (maxDischargeDepth:=9) [results,results247,go_sem,q0,q1,q2,q3,q4,q5,q6,q7,cTok,z4]) rfl ?_
  rw [HE.out]
  exact ⟨by rw [show ((k+1-i:Nat):Int)=(k:Int)+1-(i:Int) by omega],zal HB5.out (Nat.le_refl _) _ _ _ _ _ _ _ _⟩
 have HE:=Hd (show zc1 s i=(tok0,0) by
  rw [HS.out,HQ.out,HN.out]
  dsimp only
  rw [HR.out,if_pos he])
 have he3:(r.2 != 0)=true:=by simpa using he
 clear he
 obtain ⟨q0,q1,q2,q3,q4,q5,q6,q7,qf⟩:=zac KZ5.out
 go_wp2
 refine bodyPost_ret (v:=.tuple #[.agg (cTok tok0).toArray,.int .i64 0]) (by simp (maxDischargeDepth:=9) [results,results247,go_sem,q0,q1,q2,q3,q4,q5,q6,q7,cTok,tok0,z4]) rfl ?_
 rw [HE.out]
 exact ⟨rfl,zal HB5.out (Nat.le_refl _) _ _ _ _ _ _ _ _⟩
theorem zsz (g:Nat) (s:zaa) (w:World) (h1:(take 12 s).1=1) (k0:Blk w g 74 #[str s]):
 Calls prog 40 #[.pointer (some ⟨g,0,none⟩)] w fun e w'=>
  e=.returned (str [dig (take 10 (take 12 s).2).1.toNat])∧Blk w' g 74 #[str (take 10 (take 12 s).2).2]∧Chg (fun k=>k=g) w w':=by
 have hg:=k0.lt
 have K0:=Hd k0
 have H1:=Hd h1
 clear k0 h1
 go_enter func40,ntmps40
 go_wp2_with fail
 refine (zdg g s 12 _ (by decide) K0.out).mono ?_
 rintro e w1 ⟨rfl,k1,hd1⟩
 rw [H1.out]
 go_wp2_with fail
 refine (zdg g _ 10 _ (by decide) k1).mono ?_
 rintro e w2 ⟨rfl,k2,hd2⟩
 obtain ⟨n,hn,hn2⟩:∃n:Nat,(take 10 (take 12 s).2).1=(n:Int)∧n<10:=by
  have:=zjf 10 (by decide) (take 12 s).2
  exact ⟨(take 10 (take 12 s).2).1.toNat,by omega,by omega⟩
 rw [hn]
 have HN:=Hd hn
 have K2:=Hd k2
 have HD:=Hd (hd1.trans hd2)
 clear hn k1 k2 hd1 hd2
 go_wp2_with fail
 refine (zpz n hn2 _).mono ?_
 rintro e w3 ⟨rfl,rfl⟩
 go_wp2
 go_ret
 exact ⟨by rw [HN.out];rfl,K2.out,HD.out⟩
theorem zj5 (cap:Nat) (A:Option Addr) (f:Value) (w:World):
 Calls prog 124 #[.slice A 0 cap,f] w fun e w'=>e=.returned (.int .i64 (-1))∧w=w':=by
 go_enter func124,ntmps124
 go_wp2
 refine wp_loop_rounds 1 ?_
 rw [rounds_succ]
 go_wp2
 go_ret
 exact ⟨rfl,rfl⟩
theorem Sls.one {α:Type} {c:α→List Value} {w:World} {g:Nat} {t:TypeId} {cs:Array Value} {x:α} (h:Blk w g t cs) (hx:cs=(c x).toArray):Sls c w w.heap.size (.slice (some ⟨g,0,none⟩) 1 1) [x]:=
 ⟨_,1,rfl,by simp,by simp [maxLen],fun _=>⟨g,0,rfl,h.lt,h.range fun j v hv=>by
  rw [Nat.zero_add,hx]
  simpa using hv⟩⟩
theorem zp0 (x:Ent) (sv:Value) (w:World) (hs:Sls cEnt w w.heap.size sv [x]):
 Calls prog 128 #[.slice none 0 0,.int .i64 0,sv] w fun e w'=>∃v,e=.returned v∧SlsN cEnt w.heap.size w' v [x]∧Below w.heap.size w w':=by
 obtain ⟨A,cap,rfl,hc,hm,hr⟩:=id hs
 obtain ⟨i0,hi0,hz0,hz1,hz2⟩:=info_parts (show (prog.info? 58).map (fun i=>(i.zero,i.size,i.bytes))=some (some (.agg #[.int .i64 0,.int .i64 0,.string ⟨#[]⟩]),3,32) by kernel_rfl)
 have HS:=Hd hs
 clear hs hr
 simp only [List.length_singleton]
 have HS2:=Hd (show Sls cEnt w w.heap.size (.slice A 1 cap) [x] from HS.out)
 go_enter func128,ntmps128
 go_wp2_with (first
  | (at_builtin
     refine zce cEnt rfl _ _ 22 rfl 58 i0 _ 3 32 rfl hi0 hz0 hz1 hz2 rfl (by omega) rfl w.heap.size _ [x] rfl HS2.out zbw zof (by simp) ?_
     intro v1 w1 hs1 hb1))
 go_ret
 exact ⟨v1,rfl,hs1,hb1⟩
theorem zyb (x:Ent) (w:World) (h:x.input≠ []):
 Calls prog 39 #[.slice none 0 0,.agg #[.int .i64 x.at_.col,.int .i64 x.at_.row,str x.input]] w fun e w'=>∃v,e=.returned v∧SlsN cEnt w.heap.size w' v [x]∧Below w.heap.size w w':=by
 go_enter func39,ntmps39
 go_wp2_with fail
 refine (zj5 0 none _ _).mono ?_
 rintro e w1 ⟨rfl,rfl⟩
 go_wp2_with fail
 go_quiet (fail)
 have h0:(x.input==([]:List UInt8))=false:=by simpa using h
 have HH:=Hd h
 clear h
 go_wp2_with fail
 have kk:Blk (((w.alloc (.cells #[.int .i64 x.at_.col,.int .i64 x.at_.row,str x.input] 58)).drewN nq).alloc (.cells #[.int .i64 x.at_.col,.int .i64 x.at_.row,str x.input] 58)) (w.heap.size+1) 58 #[.int .i64 x.at_.col,.int .i64 x.at_.row,str x.input]:=by
  have:=Blk.new ((w.alloc (.cells #[.int .i64 x.at_.col,.int .i64 x.at_.row,str x.input] 58)).drewN nq) 58 #[.int .i64 x.at_.col,.int .i64 x.at_.row,str x.input]
  simpa using this
 refine (zp0 x _ _ (Sls.one kk rfl)).mono ?_
 rintro e w2 ⟨v,rfl,hs,hb⟩
 have HS:=Hd hs
 have HB:=Hd (show Below w.heap.size w w2 from Below.next (Below.alloc (Below.drewN_ ((Below.refl w.heap.size w).alloc (Nat.le_refl _) _) nq) (by simp) _) hb (by simp;omega))
 obtain ⟨A,cap,rfl,_⟩:=id hs.1
 clear hs hb kk
 go_wp2
 go_ret
 exact ⟨_,rfl,HS.out.older (by simp;omega),HB.out⟩
end Go.Proofs.YtamcgggmfghljaaGreatDoor
