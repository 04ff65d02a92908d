/- Layer 41 (reference): the writer writes a book (printed by tools/gen_rwf.py). -/
import Derived.Test.YtamcgggmfghljaaGreatDoorD47
set_option maxRecDepth 100000
set_option maxHeartbeats 8000000
open Go.Proofs.Tryz
namespace Go.Proofs.YtamcgggmfghljaaGreatDoor
open Go.RowKit
def bokB (b:Bok):zaa:=numI b.users++zap entB b.entries++zap rulB b.rules++zap grtB b.grants++zap evtB b.log++zap rlsB b.releases++numI b.step
theorem znb (s:Scp):scpB s=bokB s.book++zap oprB s.ops:=rfl
theorem zed {α:Type} (f:α→zaa) (l:List α) (k:Nat) {x:α} (h:l[k]?=some x):(l.take (k+1)).flatMap f=(l.take k).flatMap f++f x:=by
 rw [List.take_add_one,h]
 simp
theorem zb5 {α:Type} (f:α→zaa):∀(l:List α) (k:Nat),((l.take k).flatMap f).length≤(l.flatMap f).length
 | [],k=>by simp
 | x::l,0=>by simp
 | x::l,k+1=>by
  have:=zb5 f l k
  rw [List.take_succ_cons,List.flatMap_cons,List.flatMap_cons,List.length_append,List.length_append]
  omega
theorem zkb (x:Rct):(za7 x).length≤36:=by
 have:=zab x.c1
 have:=zab x.r1
 have:=zab x.c2
 have:=zab x.r2
 simp only [za7,List.length_append];omega
theorem le2 {A B:zaa} {n m:Nat} (h:A.length≤n) (k:B.length≤m):(A++B).length≤n+m:=by rw [List.length_append];omega
theorem zy6 (b:Bool):(zhz b).length≤9:=zab _
theorem WS.at_ {W0 W:World} {p g:Nat} {v0 v:Value} {T:TypeId} {cs:Array Value} {l:zaa} (h:WS W0 p v0 g T cs W v l) (h0:∀k,v0.ownBlock=some k→p<k) (hp:p≤W0.heap.size):Below p W0 W:=h.to_.old hp h0
theorem zxw (p:Nat) (v:Value) (l:zaa) (b:Bok) (e r g lo z:Value) (B:Nat) (W:World) (h:WrAt W p v l) (hB:B≤p) (hb:RdBok W B b e r g lo z) (hx:OkBok b) (hi:∀x∈b.entries,x.input.length≤1000000) (hn:(bokB b).length≤100000000) (hl:l.length≤1000000000):
 Calls prog 28 #[.pointer (some ⟨p,0,none⟩),vBok b e r g lo z] W fun u W'=>u=.returned (.tuple #[])∧∃v',WrAt W' p v' (l++bokB b)∧WTo p W v W' v':=by
 obtain ⟨Ae,ce,rfl,_⟩:=id hb.ents
 obtain ⟨Ar,cr,rfl,_⟩:=id hb.ruls
 obtain ⟨Ag,cg,rfl,_⟩:=id hb.grts
 obtain ⟨Al,cl,rfl,_⟩:=id hb.evts
 obtain ⟨Ax,cx,rfl,_⟩:=id hb.rlss
 have hm0:=hb.ents.len.2.2
 have hm1:=hb.ruls.len.2.2
 have hm2:=hb.grts.len.2.2
 have hm3:=hb.evts.len.2.2
 have hm4:=hb.rlss.len.2.2
 unfold maxLen at hm0 hm1 hm2 hm3 hm4
 have HOK:=Hd hx
 have HIN:=Hd hi
 have HB:=Hd hb
 have HOB:=Hd h.ob
 have hps:=h.lt
 have HS0:=Hd (WS.start h 28 #[.int .i64 b.users,.slice Ae b.entries.length ce,.slice Ar b.rules.length cr,.slice Ag b.grants.length cg,.slice Al b.log.length cl,.slice Ax b.releases.length cx,.int .i64 b.step])
 have hn2:(numI b.users).length+(zap entB b.entries).length+(zap rulB b.rules).length+(zap grtB b.grants).length+(zap evtB b.log).length+(zap rlsB b.releases).length+(numI b.step).length≤100000000:=by
  have:=hn
  simp only [bokB,List.length_append] at this
  omega
 have HR:=Hd (show (l++numI b.users).length+((zap entB b.entries).length+(zap rulB b.rules).length+(zap grtB b.grants).length+(zap evtB b.log).length+(zap rlsB b.releases).length+(numI b.step).length)≤1100000000 by
  rw [List.length_append];omega)
 have HLL:=Hd hl
 have hgs:=HS0.out.kb.lt
 have c0:=HS0.out.kb.cell 0
 clear h hb hx hi hn hn2 hl
 go_enter func28,ntmps28
 go_wp2_with fail
 refine (zbs p _ _ b.users _ HS0.out.wr (by have:=HLL.out;omega)).mono ?_
 rintro u w1 ⟨rfl,v1,h1,t1⟩
 have HS:=Hd (HS0.out.next h1 t1)
 clear HS0 h1 t1 c0 hgs
 have hgs:=HS.out.kb.lt
 have ca:=HS.out.kb.cell 1
 go_wp2_with fail
 refine (zbs p _ _ b.entries.length _ HS.out.wr (by have:=HR.out;omega)).mono ?_
 rintro u w2 ⟨rfl,v2,h2,t2⟩
 have HS2:=Hd (HS.out.next h2 t2)
 clear HS h2 t2 ca hgs
 obtain ⟨L0,hL⟩:∃L,l++numI b.users++numI b.entries.length=L:=⟨_,rfl⟩
 have HR0:=Hd (show (L0++b.entries.flatMap entB).length+((zap rulB b.rules).length+(zap grtB b.grants).length+(zap evtB b.log).length+(zap rlsB b.releases).length+(numI b.step).length)≤1100000000 by
  have h0:=HR.out
  have h1:(zap entB b.entries).length=(numI b.entries.length).length+(b.entries.flatMap entB).length:=by unfold zap;rw [List.length_append]
  rw [List.length_append,← hL,List.length_append]
  omega)
 rw [hL] at HS2
 have HLE0:=Hd hL
 clear hL HR
 have cg2:=HS2.out.kb.cell 1
 have hgs2:=HS2.out.kb.lt
 go_wp2
 clear cg2 hgs2
 go_loopw [4] (fun i wr=>∃(k:Nat) (v':Value),k≤b.entries.length∧i=.int .i64 k∧WS W p v W.heap.size 28 #[.int .i64 b.users,.slice Ae b.entries.length ce,.slice Ar b.rules.length cr,.slice Ag b.grants.length cg,.slice Al b.log.length cl,.slice Ax b.releases.length cx,.int .i64 b.step] wr v' (L0++(b.entries.take k).flatMap entB)) (fun i _=>b.entries.length-(intOf i).toNat)
 case atStart=>exact ⟨0,_,by omega,rfl,by simpa using HS2.out⟩
 obtain ⟨k,v',hk,rfl,hs⟩:=hrel
 clear HS2
 have HS:=Hd hs
 have hgs:=HS.out.kb.lt
 have cl0:=HS.out.kb.cell 1
 clear hs
 by_cases hlt:k<b.entries.length
 ·have hi0:(0:Int)≤(k:Int):=Int.natCast_nonneg _
  have hi1:(k:Int)<(b.entries.length:Int):=by omega
  have hxk:b.entries[k]?=some b.entries[k]:=List.getElem?_eq_getElem hlt
  have HFS:=Hd (zed entB b.entries k hxk)
  have hft:=zb5 entB b.entries (k+1)
  rw [HFS.out,List.length_append] at hft
  obtain ⟨bb,oo,rfl,hbb,rw0⟩:=HB.out.ents.get 3 zbw hxk
  have HX:=Hd (HOK.out.entries _ (List.getElem_mem hlt))
  have hin:=HIN.out _ (List.getElem_mem hlt)
  obtain ⟨M,hM⟩:∃M,L0++(b.entries.take k).flatMap entB=M:=⟨_,rfl⟩
  have hMl:M.length≤1100000000:=by
   have:=HR0.out
   rw [List.length_append] at this
   rw [← hM,List.length_append]
   omega
  rw [hM] at HS
  have HM:=Hd hM
  clear hM hft hxk
  generalize b.entries[k]=x at *
  have hbo:bb<p:=Nat.lt_of_lt_of_le hbb hB
  have HQ:=Hd hMl
  have r0:World.cell? _ ⟨bb,oo+k*3,none⟩=some (.int .i64 x.at_.col):=((HS.out.at_ HOB.out (Nat.le_of_lt hps)).cell (p:=⟨bb,oo+k*3,none⟩) hbo).trans (rw0 0 _ rfl)
  go_wp2_with fail
  refine (zbs p _ _ (x.at_.col) _ HS.out.wr (by have:=HQ.out;omega)).mono ?_
  rintro u w4 ⟨rfl,v4,h4,t4⟩
  have HS9:=Hd (HS.out.next h4 t4)
  clear HS h4 t4 hgs cl0 r0
  have HS:=HS9
  clear HS9
  replace HQ:=Hd (le2 HQ.out (zab (x.at_.col)))
  have r1:World.cell? _ ⟨bb,oo+k*3+1,none⟩=some (.int .i64 x.at_.row):=((HS.out.at_ HOB.out (Nat.le_of_lt hps)).cell (p:=⟨bb,oo+k*3+1,none⟩) hbo).trans (rw0 1 _ rfl)
  have cl0:=HS.out.kb.cell 1
  have hgs:=HS.out.kb.lt
  go_wp2_with fail
  refine (zbs p _ _ (x.at_.row) _ HS.out.wr (by have:=HQ.out;omega)).mono ?_
  rintro u w4 ⟨rfl,v4,h4,t4⟩
  have HS9:=Hd (HS.out.next h4 t4)
  clear HS h4 t4 hgs cl0 r1
  have HS:=HS9
  clear HS9
  replace HQ:=Hd (le2 HQ.out (zab (x.at_.row)))
  have r2:World.cell? _ ⟨bb,oo+k*3+2,none⟩=some (str x.input):=((HS.out.at_ HOB.out (Nat.le_of_lt hps)).cell (p:=⟨bb,oo+k*3+2,none⟩) hbo).trans (rw0 2 _ rfl)
  have cl0:=HS.out.kb.cell 1
  have hgs:=HS.out.kb.lt
  go_wp2_with fail
  refine (zqv p _ _ (x.input) _ HS.out.wr (by have:=HQ.out;omega) (by omega)).mono ?_
  rintro u w4 ⟨rfl,v4,h4,t4⟩
  have HS9:=Hd (HS.out.next h4 t4)
  clear HS h4 t4 hgs cl0 r2
  have HE9:=Hd (show L0++(b.entries.take (k+1)).flatMap entB=M++numI (x.at_.col)++numI (x.at_.row)++zcy x.input by rw [HFS.out,← List.append_assoc,HM.out];simp [entB,zbz,List.append_assoc])
  have hgs9:=HS9.out.kb.lt
  have cl9:=HS9.out.kb.cell 1
  go_wp2
  exact ⟨⟨k+1,_,by omega,by go_num,by rw [HE9.out];exact HS9.out⟩,by simp [intOf];omega⟩
 have hi1:¬(k:Int)<(b.entries.length:Int):=by omega
 rw [List.take_of_length_le (by omega)] at HS
 have HR:=HR0
 clear HR0
 have ca:=HS.out.kb.cell 2
 go_wp2_with fail
 refine (zbs p _ _ b.rules.length _ HS.out.wr (by have:=HR.out;omega)).mono ?_
 rintro u w2 ⟨rfl,v2,h2,t2⟩
 have HS2:=Hd (HS.out.next h2 t2)
 clear HS h2 t2 ca hgs
 obtain ⟨L1,hL⟩:∃L,L0++b.entries.flatMap entB++numI b.rules.length=L:=⟨_,rfl⟩
 have HR1:=Hd (show (L1++b.rules.flatMap rulB).length+((zap grtB b.grants).length+(zap evtB b.log).length+(zap rlsB b.releases).length+(numI b.step).length)≤1100000000 by
  have h0:=HR.out
  have h1:(zap rulB b.rules).length=(numI b.rules.length).length+(b.rules.flatMap rulB).length:=by unfold zap;rw [List.length_append]
  rw [List.length_append,← hL,List.length_append]
  omega)
 rw [hL] at HS2
 have HLE1:=Hd hL
 clear hL HR
 have cg2:=HS2.out.kb.cell 2
 have hgs2:=HS2.out.kb.lt
 go_wp2
 clear cg2 hgs2
 go_loopw [5] (fun i wr=>∃(k:Nat) (v':Value),k≤b.rules.length∧i=.int .i64 k∧WS W p v W.heap.size 28 #[.int .i64 b.users,.slice Ae b.entries.length ce,.slice Ar b.rules.length cr,.slice Ag b.grants.length cg,.slice Al b.log.length cl,.slice Ax b.releases.length cx,.int .i64 b.step] wr v' (L1++(b.rules.take k).flatMap rulB)) (fun i _=>b.rules.length-(intOf i).toNat)
 case atStart=>exact ⟨0,_,by omega,rfl,by simpa using HS2.out⟩
 obtain ⟨k,v',hk,rfl,hs⟩:=hrel
 clear HS2
 have HS:=Hd hs
 have hgs:=HS.out.kb.lt
 have cl0:=HS.out.kb.cell 2
 clear hs
 by_cases hlt:k<b.rules.length
 ·have hi0:(0:Int)≤(k:Int):=Int.natCast_nonneg _
  have hi1:(k:Int)<(b.rules.length:Int):=by omega
  have hxk:b.rules[k]?=some b.rules[k]:=List.getElem?_eq_getElem hlt
  have HFS:=Hd (zed rulB b.rules k hxk)
  have hft:=zb5 rulB b.rules (k+1)
  rw [HFS.out,List.length_append] at hft
  obtain ⟨bb,oo,rfl,hbb,rw0⟩:=HB.out.ruls.get 7 zcu hxk
  have HX:=Hd (HOK.out.rules _ (List.getElem_mem hlt))
  skip
  obtain ⟨M,hM⟩:∃M,L1++(b.rules.take k).flatMap rulB=M:=⟨_,rfl⟩
  have hMl:M.length≤1100000000:=by
   have:=HR1.out
   rw [List.length_append] at this
   rw [← hM,List.length_append]
   omega
  rw [hM] at HS
  have HM:=Hd hM
  clear hM hft hxk
  generalize b.rules[k]=x at *
  have hbo:bb<p:=Nat.lt_of_lt_of_le hbb hB
  have HQ:=Hd hMl
  have r0:World.cell? _ ⟨bb,oo+k*7,none⟩=some (.int .i64 x.rect.c1):=((HS.out.at_ HOB.out (Nat.le_of_lt hps)).cell (p:=⟨bb,oo+k*7,none⟩) hbo).trans (rw0 0 _ rfl)
  have r1:World.cell? _ ⟨bb,oo+k*7+1,none⟩=some (.int .i64 x.rect.r1):=((HS.out.at_ HOB.out (Nat.le_of_lt hps)).cell (p:=⟨bb,oo+k*7+1,none⟩) hbo).trans (rw0 1 _ rfl)
  have r2:World.cell? _ ⟨bb,oo+k*7+2,none⟩=some (.int .i64 x.rect.c2):=((HS.out.at_ HOB.out (Nat.le_of_lt hps)).cell (p:=⟨bb,oo+k*7+2,none⟩) hbo).trans (rw0 2 _ rfl)
  have r3:World.cell? _ ⟨bb,oo+k*7+3,none⟩=some (.int .i64 x.rect.r2):=((HS.out.at_ HOB.out (Nat.le_of_lt hps)).cell (p:=⟨bb,oo+k*7+3,none⟩) hbo).trans (rw0 3 _ rfl)
  go_wp2_with fail
  refine (zhc p _ _ (x.rect) _ HS.out.wr (by have:=HQ.out;omega)).mono ?_
  rintro u w4 ⟨rfl,v4,h4,t4⟩
  have HS9:=Hd (HS.out.next h4 t4)
  clear HS h4 t4 hgs cl0 r0 r1 r2 r3
  have HS:=HS9
  clear HS9
  replace HQ:=Hd (le2 HQ.out (zkb (x.rect)))
  have r4:World.cell? _ ⟨bb,oo+k*7+4,none⟩=some (.int .u64 x.rights.rd):=((HS.out.at_ HOB.out (Nat.le_of_lt hps)).cell (p:=⟨bb,oo+k*7+4,none⟩) hbo).trans (rw0 4 _ rfl)
  have r5:World.cell? _ ⟨bb,oo+k*7+5,none⟩=some (.int .u64 x.rights.wr):=((HS.out.at_ HOB.out (Nat.le_of_lt hps)).cell (p:=⟨bb,oo+k*7+5,none⟩) hbo).trans (rw0 5 _ rfl)
  have r6:World.cell? _ ⟨bb,oo+k*7+6,none⟩=some (.int .u64 x.rights.ow):=((HS.out.at_ HOB.out (Nat.le_of_lt hps)).cell (p:=⟨bb,oo+k*7+6,none⟩) hbo).trans (rw0 6 _ rfl)
  have cl0:=HS.out.kb.cell 2
  have hgs:=HS.out.kb.lt
  go_wp2_with fail
  refine (zks p _ _ x.rights ⟨HX.out.rights.rd.1,HX.out.rights.rd.2,HX.out.rights.wr.1,HX.out.rights.wr.2,HX.out.rights.ow.1,HX.out.rights.ow.2⟩ _ HS.out.wr (by have:=HQ.out;omega)).mono ?_
  rintro u w4 ⟨rfl,v4,h4,t4⟩
  have HS9:=Hd (HS.out.next h4 t4)
  clear HS h4 t4 hgs cl0 r4 r5 r6
  have HE9:=Hd (show L1++(b.rules.take (k+1)).flatMap rulB=M++za7 x.rect++zcb x.rights by rw [HFS.out,← List.append_assoc,HM.out];simp [rulB,List.append_assoc])
  have hgs9:=HS9.out.kb.lt
  have cl9:=HS9.out.kb.cell 2
  go_wp2
  exact ⟨⟨k+1,_,by omega,by go_num,by rw [HE9.out];exact HS9.out⟩,by simp [intOf];omega⟩
 have hi1:¬(k:Int)<(b.rules.length:Int):=by omega
 rw [List.take_of_length_le (by omega)] at HS
 have HR:=HR1
 clear HR1
 have ca:=HS.out.kb.cell 3
 go_wp2_with fail
 refine (zbs p _ _ b.grants.length _ HS.out.wr (by have:=HR.out;omega)).mono ?_
 rintro u w2 ⟨rfl,v2,h2,t2⟩
 have HS2:=Hd (HS.out.next h2 t2)
 clear HS h2 t2 ca hgs
 obtain ⟨L2,hL⟩:∃L,L1++b.rules.flatMap rulB++numI b.grants.length=L:=⟨_,rfl⟩
 have HR2:=Hd (show (L2++b.grants.flatMap grtB).length+((zap evtB b.log).length+(zap rlsB b.releases).length+(numI b.step).length)≤1100000000 by
  have h0:=HR.out
  have h1:(zap grtB b.grants).length=(numI b.grants.length).length+(b.grants.flatMap grtB).length:=by unfold zap;rw [List.length_append]
  rw [List.length_append,← hL,List.length_append]
  omega)
 rw [hL] at HS2
 have HLE2:=Hd hL
 clear hL HR
 have cg2:=HS2.out.kb.cell 3
 have hgs2:=HS2.out.kb.lt
 go_wp2
 clear cg2 hgs2
 go_loopw [6] (fun i wr=>∃(k:Nat) (v':Value),k≤b.grants.length∧i=.int .i64 k∧WS W p v W.heap.size 28 #[.int .i64 b.users,.slice Ae b.entries.length ce,.slice Ar b.rules.length cr,.slice Ag b.grants.length cg,.slice Al b.log.length cl,.slice Ax b.releases.length cx,.int .i64 b.step] wr v' (L2++(b.grants.take k).flatMap grtB)) (fun i _=>b.grants.length-(intOf i).toNat)
 case atStart=>exact ⟨0,_,by omega,rfl,by simpa using HS2.out⟩
 obtain ⟨k,v',hk,rfl,hs⟩:=hrel
 clear HS2
 have HS:=Hd hs
 have hgs:=HS.out.kb.lt
 have cl0:=HS.out.kb.cell 3
 clear hs
 by_cases hlt:k<b.grants.length
 ·have hi0:(0:Int)≤(k:Int):=Int.natCast_nonneg _
  have hi1:(k:Int)<(b.grants.length:Int):=by omega
  have hxk:b.grants[k]?=some b.grants[k]:=List.getElem?_eq_getElem hlt
  have HFS:=Hd (zed grtB b.grants k hxk)
  have hft:=zb5 grtB b.grants (k+1)
  rw [HFS.out,List.length_append] at hft
  obtain ⟨bb,oo,rfl,hbb,rw0⟩:=HB.out.grts.get 8 zdm hxk
  have HX:=Hd (HOK.out.grants _ (List.getElem_mem hlt))
  skip
  obtain ⟨M,hM⟩:∃M,L2++(b.grants.take k).flatMap grtB=M:=⟨_,rfl⟩
  have hMl:M.length≤1100000000:=by
   have:=HR2.out
   rw [List.length_append] at this
   rw [← hM,List.length_append]
   omega
  rw [hM] at HS
  have HM:=Hd hM
  clear hM hft hxk
  generalize b.grants[k]=x at *
  have hbo:bb<p:=Nat.lt_of_lt_of_le hbb hB
  have HQ:=Hd hMl
  obtain ⟨o1,o2,o3,o4⟩:0≤x.fns∧x.fns<256∧0≤x.to_∧x.to_<18446744073709551616:=⟨HX.out.fns.1,HX.out.fns.2,HX.out.to_.1,HX.out.to_.2⟩
  have r0:World.cell? _ ⟨bb,oo+k*8,none⟩=some (.int .i64 x.rect.c1):=((HS.out.at_ HOB.out (Nat.le_of_lt hps)).cell (p:=⟨bb,oo+k*8,none⟩) hbo).trans (rw0 0 _ rfl)
  have r1:World.cell? _ ⟨bb,oo+k*8+1,none⟩=some (.int .i64 x.rect.r1):=((HS.out.at_ HOB.out (Nat.le_of_lt hps)).cell (p:=⟨bb,oo+k*8+1,none⟩) hbo).trans (rw0 1 _ rfl)
  have r2:World.cell? _ ⟨bb,oo+k*8+2,none⟩=some (.int .i64 x.rect.c2):=((HS.out.at_ HOB.out (Nat.le_of_lt hps)).cell (p:=⟨bb,oo+k*8+2,none⟩) hbo).trans (rw0 2 _ rfl)
  have r3:World.cell? _ ⟨bb,oo+k*8+3,none⟩=some (.int .i64 x.rect.r2):=((HS.out.at_ HOB.out (Nat.le_of_lt hps)).cell (p:=⟨bb,oo+k*8+3,none⟩) hbo).trans (rw0 3 _ rfl)
  have r4:World.cell? _ ⟨bb,oo+k*8+4,none⟩=some (.int .u8 x.fns):=((HS.out.at_ HOB.out (Nat.le_of_lt hps)).cell (p:=⟨bb,oo+k*8+4,none⟩) hbo).trans (rw0 4 _ rfl)
  have r5:World.cell? _ ⟨bb,oo+k*8+5,none⟩=some (.int .u64 x.to_):=((HS.out.at_ HOB.out (Nat.le_of_lt hps)).cell (p:=⟨bb,oo+k*8+5,none⟩) hbo).trans (rw0 5 _ rfl)
  have r6:World.cell? _ ⟨bb,oo+k*8+6,none⟩=some (.int .i64 x.by_):=((HS.out.at_ HOB.out (Nat.le_of_lt hps)).cell (p:=⟨bb,oo+k*8+6,none⟩) hbo).trans (rw0 6 _ rfl)
  have r7:World.cell? _ ⟨bb,oo+k*8+7,none⟩=some (.bool x.revoked):=((HS.out.at_ HOB.out (Nat.le_of_lt hps)).cell (p:=⟨bb,oo+k*8+7,none⟩) hbo).trans (rw0 7 _ rfl)
  have HI:=Hd (WS.start HS.out.wr 85 #[.int .i64 x.rect.c1,.int .i64 x.rect.r1,.int .i64 x.rect.c2,.int .i64 x.rect.r2,.int .u8 x.fns,.int .u64 x.to_,.int .i64 x.by_,.bool x.revoked])
  have d0:=HI.out.kb.cell 0
  have d1:=HI.out.kb.cell 1
  have d2:=HI.out.kb.cell 2
  have d3:=HI.out.kb.cell 3
  have hgi:=HI.out.kb.lt
  go_wp2_with fail
  refine (zhc p _ _ (x.rect) _ HI.out.wr (by have:=HQ.out;omega)).mono ?_
  rintro u w4 ⟨rfl,v4,h4,t4⟩
  replace HI:=Hd (HI.out.next h4 t4)
  clear h4 t4 hgi d0 d1 d2 d3
  clear r0 r1 r2 r3 r4 r5 r6 r7
  replace HQ:=Hd (le2 HQ.out (zkb (x.rect)))
  have d4:=HI.out.kb.cell 4
  have hgi:=HI.out.kb.lt
  go_wp2_with fail
  refine (zdo p _ _ (x.fns) _ (by omega) (by omega) HI.out.wr (by have:=HQ.out;omega)).mono ?_
  rintro u w4 ⟨rfl,v4,h4,t4⟩
  replace HI:=Hd (HI.out.next h4 t4)
  clear h4 t4 hgi d4
  replace HQ:=Hd (le2 HQ.out (zab (x.fns)))
  have d5:=HI.out.kb.cell 5
  have hgi:=HI.out.kb.lt
  go_wp2_with fail
  refine (zdo p _ _ (x.to_) _ (by omega) (by omega) HI.out.wr (by have:=HQ.out;omega)).mono ?_
  rintro u w4 ⟨rfl,v4,h4,t4⟩
  replace HI:=Hd (HI.out.next h4 t4)
  clear h4 t4 hgi d5
  replace HQ:=Hd (le2 HQ.out (zab (x.to_)))
  have d6:=HI.out.kb.cell 6
  have hgi:=HI.out.kb.lt
  go_wp2_with fail
  refine (zbs p _ _ (x.by_) _ HI.out.wr (by have:=HQ.out;omega)).mono ?_
  rintro u w4 ⟨rfl,v4,h4,t4⟩
  replace HI:=Hd (HI.out.next h4 t4)
  clear h4 t4 hgi d6
  replace HQ:=Hd (le2 HQ.out (zab (x.by_)))
  have d7:=HI.out.kb.cell 7
  have hgi:=HI.out.kb.lt
  go_wp2_with fail
  refine (zqw p _ _ (x.revoked) _ HI.out.wr (by have:=HQ.out;omega)).mono ?_
  rintro u w4 ⟨rfl,v4,h4,t4⟩
  replace HI:=Hd (HI.out.next h4 t4)
  clear h4 t4 hgi d7
  have HS9:=Hd (HS.out.next HI.out.wr HI.out.to_)
  clear HI HS cl0 hgs
  have HE9:=Hd (show L2++(b.grants.take (k+1)).flatMap grtB=M++za7 x.rect++numI (x.fns)++numI (x.to_)++numI (x.by_)++zhz x.revoked by rw [HFS.out,← List.append_assoc,HM.out];simp [grtB,List.append_assoc])
  have hgs9:=HS9.out.kb.lt
  have cl9:=HS9.out.kb.cell 3
  go_wp2
  exact ⟨⟨k+1,_,by omega,by go_num,by rw [HE9.out];exact HS9.out⟩,by simp [intOf];omega⟩
 have hi1:¬(k:Int)<(b.grants.length:Int):=by omega
 rw [List.take_of_length_le (by omega)] at HS
 have HR:=HR2
 clear HR2
 have ca:=HS.out.kb.cell 4
 go_wp2_with fail
 refine (zbs p _ _ b.log.length _ HS.out.wr (by have:=HR.out;omega)).mono ?_
 rintro u w2 ⟨rfl,v2,h2,t2⟩
 have HS2:=Hd (HS.out.next h2 t2)
 clear HS h2 t2 ca hgs
 obtain ⟨L3,hL⟩:∃L,L2++b.grants.flatMap grtB++numI b.log.length=L:=⟨_,rfl⟩
 have HR3:=Hd (show (L3++b.log.flatMap evtB).length+((zap rlsB b.releases).length+(numI b.step).length)≤1100000000 by
  have h0:=HR.out
  have h1:(zap evtB b.log).length=(numI b.log.length).length+(b.log.flatMap evtB).length:=by unfold zap;rw [List.length_append]
  rw [List.length_append,← hL,List.length_append]
  omega)
 rw [hL] at HS2
 have HLE3:=Hd hL
 clear hL HR
 have cg2:=HS2.out.kb.cell 4
 have hgs2:=HS2.out.kb.lt
 go_wp2
 clear cg2 hgs2
 go_loopw [8] (fun i wr=>∃(k:Nat) (v':Value),k≤b.log.length∧i=.int .i64 k∧WS W p v W.heap.size 28 #[.int .i64 b.users,.slice Ae b.entries.length ce,.slice Ar b.rules.length cr,.slice Ag b.grants.length cg,.slice Al b.log.length cl,.slice Ax b.releases.length cx,.int .i64 b.step] wr v' (L3++(b.log.take k).flatMap evtB)) (fun i _=>b.log.length-(intOf i).toNat)
 case atStart=>exact ⟨0,_,by omega,rfl,by simpa using HS2.out⟩
 obtain ⟨k,v',hk,rfl,hs⟩:=hrel
 clear HS2
 have HS:=Hd hs
 have hgs:=HS.out.kb.lt
 have cl0:=HS.out.kb.cell 4
 clear hs
 by_cases hlt:k<b.log.length
 ·have hi0:(0:Int)≤(k:Int):=Int.natCast_nonneg _
  have hi1:(k:Int)<(b.log.length:Int):=by omega
  have hxk:b.log[k]?=some b.log[k]:=List.getElem?_eq_getElem hlt
  have HFS:=Hd (zed evtB b.log k hxk)
  have hft:=zb5 evtB b.log (k+1)
  rw [HFS.out,List.length_append] at hft
  obtain ⟨bb,oo,rfl,hbb,rw0⟩:=HB.out.evts.get 9 zcw hxk
  have HX:=Hd (HOK.out.log _ (List.getElem_mem hlt))
  skip
  obtain ⟨M,hM⟩:∃M,L3++(b.log.take k).flatMap evtB=M:=⟨_,rfl⟩
  have hMl:M.length≤1100000000:=by
   have:=HR3.out
   rw [List.length_append] at this
   rw [← hM,List.length_append]
   omega
  rw [hM] at HS
  have HM:=Hd hM
  clear hM hft hxk
  generalize b.log[k]=x at *
  have hbo:bb<p:=Nat.lt_of_lt_of_le hbb hB
  have HQ:=Hd hMl
  obtain ⟨o1,o2,o3,o4⟩:0≤x.kind∧x.kind<256∧0≤x.to_∧x.to_<18446744073709551616:=⟨HX.out.kind.1,HX.out.kind.2,HX.out.to_.1,HX.out.to_.2⟩
  have r0:World.cell? _ ⟨bb,oo+k*9,none⟩=some (.int .i64 x.step):=((HS.out.at_ HOB.out (Nat.le_of_lt hps)).cell (p:=⟨bb,oo+k*9,none⟩) hbo).trans (rw0 0 _ rfl)
  have r1:World.cell? _ ⟨bb,oo+k*9+1,none⟩=some (.int .i64 x.user):=((HS.out.at_ HOB.out (Nat.le_of_lt hps)).cell (p:=⟨bb,oo+k*9+1,none⟩) hbo).trans (rw0 1 _ rfl)
  have r2:World.cell? _ ⟨bb,oo+k*9+2,none⟩=some (.int .u8 x.kind):=((HS.out.at_ HOB.out (Nat.le_of_lt hps)).cell (p:=⟨bb,oo+k*9+2,none⟩) hbo).trans (rw0 2 _ rfl)
  have r3:World.cell? _ ⟨bb,oo+k*9+3,none⟩=some (.int .i64 x.rect.c1):=((HS.out.at_ HOB.out (Nat.le_of_lt hps)).cell (p:=⟨bb,oo+k*9+3,none⟩) hbo).trans (rw0 3 _ rfl)
  have r4:World.cell? _ ⟨bb,oo+k*9+4,none⟩=some (.int .i64 x.rect.r1):=((HS.out.at_ HOB.out (Nat.le_of_lt hps)).cell (p:=⟨bb,oo+k*9+4,none⟩) hbo).trans (rw0 4 _ rfl)
  have r5:World.cell? _ ⟨bb,oo+k*9+5,none⟩=some (.int .i64 x.rect.c2):=((HS.out.at_ HOB.out (Nat.le_of_lt hps)).cell (p:=⟨bb,oo+k*9+5,none⟩) hbo).trans (rw0 5 _ rfl)
  have r6:World.cell? _ ⟨bb,oo+k*9+6,none⟩=some (.int .i64 x.rect.r2):=((HS.out.at_ HOB.out (Nat.le_of_lt hps)).cell (p:=⟨bb,oo+k*9+6,none⟩) hbo).trans (rw0 6 _ rfl)
  have r7:World.cell? _ ⟨bb,oo+k*9+7,none⟩=some (.bool x.done_):=((HS.out.at_ HOB.out (Nat.le_of_lt hps)).cell (p:=⟨bb,oo+k*9+7,none⟩) hbo).trans (rw0 7 _ rfl)
  have r8:World.cell? _ ⟨bb,oo+k*9+8,none⟩=some (.int .u64 x.to_):=((HS.out.at_ HOB.out (Nat.le_of_lt hps)).cell (p:=⟨bb,oo+k*9+8,none⟩) hbo).trans (rw0 8 _ rfl)
  have HI:=Hd (WS.start HS.out.wr 110 #[.int .i64 x.step,.int .i64 x.user,.int .u8 x.kind,.int .i64 x.rect.c1,.int .i64 x.rect.r1,.int .i64 x.rect.c2,.int .i64 x.rect.r2,.bool x.done_,.int .u64 x.to_])
  have d0:=HI.out.kb.cell 0
  have hgi:=HI.out.kb.lt
  go_wp2_with fail
  refine (zbs p _ _ (x.step) _ HI.out.wr (by have:=HQ.out;omega)).mono ?_
  rintro u w4 ⟨rfl,v4,h4,t4⟩
  replace HI:=Hd (HI.out.next h4 t4)
  clear h4 t4 hgi d0
  clear r0 r1 r2 r3 r4 r5 r6 r7 r8
  replace HQ:=Hd (le2 HQ.out (zab (x.step)))
  have d1:=HI.out.kb.cell 1
  have hgi:=HI.out.kb.lt
  go_wp2_with fail
  refine (zbs p _ _ (x.user) _ HI.out.wr (by have:=HQ.out;omega)).mono ?_
  rintro u w4 ⟨rfl,v4,h4,t4⟩
  replace HI:=Hd (HI.out.next h4 t4)
  clear h4 t4 hgi d1
  replace HQ:=Hd (le2 HQ.out (zab (x.user)))
  have d2:=HI.out.kb.cell 2
  have hgi:=HI.out.kb.lt
  go_wp2_with fail
  refine (zdo p _ _ (x.kind) _ (by omega) (by omega) HI.out.wr (by have:=HQ.out;omega)).mono ?_
  rintro u w4 ⟨rfl,v4,h4,t4⟩
  replace HI:=Hd (HI.out.next h4 t4)
  clear h4 t4 hgi d2
  replace HQ:=Hd (le2 HQ.out (zab (x.kind)))
  have d3:=HI.out.kb.cell 3
  have d4:=HI.out.kb.cell 4
  have d5:=HI.out.kb.cell 5
  have d6:=HI.out.kb.cell 6
  have hgi:=HI.out.kb.lt
  go_wp2_with fail
  refine (zhc p _ _ (x.rect) _ HI.out.wr (by have:=HQ.out;omega)).mono ?_
  rintro u w4 ⟨rfl,v4,h4,t4⟩
  replace HI:=Hd (HI.out.next h4 t4)
  clear h4 t4 hgi d3 d4 d5 d6
  replace HQ:=Hd (le2 HQ.out (zkb (x.rect)))
  have d7:=HI.out.kb.cell 7
  have hgi:=HI.out.kb.lt
  go_wp2_with fail
  refine (zqw p _ _ (x.done_) _ HI.out.wr (by have:=HQ.out;omega)).mono ?_
  rintro u w4 ⟨rfl,v4,h4,t4⟩
  replace HI:=Hd (HI.out.next h4 t4)
  clear h4 t4 hgi d7
  replace HQ:=Hd (le2 HQ.out (zy6 (x.done_)))
  have d8:=HI.out.kb.cell 8
  have hgi:=HI.out.kb.lt
  go_wp2_with fail
  refine (zdo p _ _ (x.to_) _ (by omega) (by omega) HI.out.wr (by have:=HQ.out;omega)).mono ?_
  rintro u w4 ⟨rfl,v4,h4,t4⟩
  replace HI:=Hd (HI.out.next h4 t4)
  clear h4 t4 hgi d8
  have HS9:=Hd (HS.out.next HI.out.wr HI.out.to_)
  clear HI HS cl0 hgs
  have HE9:=Hd (show L3++(b.log.take (k+1)).flatMap evtB=M++numI (x.step)++numI (x.user)++numI (x.kind)++za7 x.rect++zhz x.done_++numI (x.to_) by rw [HFS.out,← List.append_assoc,HM.out];simp [evtB,List.append_assoc])
  have hgs9:=HS9.out.kb.lt
  have cl9:=HS9.out.kb.cell 4
  go_wp2
  exact ⟨⟨k+1,_,by omega,by go_num,by rw [HE9.out];exact HS9.out⟩,by simp [intOf];omega⟩
 have hi1:¬(k:Int)<(b.log.length:Int):=by omega
 rw [List.take_of_length_le (by omega)] at HS
 have HR:=HR3
 clear HR3
 have ca:=HS.out.kb.cell 5
 go_wp2_with fail
 refine (zbs p _ _ b.releases.length _ HS.out.wr (by have:=HR.out;omega)).mono ?_
 rintro u w2 ⟨rfl,v2,h2,t2⟩
 have HS2:=Hd (HS.out.next h2 t2)
 clear HS h2 t2 ca hgs
 obtain ⟨L4,hL⟩:∃L,L3++b.log.flatMap evtB++numI b.releases.length=L:=⟨_,rfl⟩
 have HR4:=Hd (show (L4++b.releases.flatMap rlsB).length+((numI b.step).length)≤1100000000 by
  have h0:=HR.out
  have h1:(zap rlsB b.releases).length=(numI b.releases.length).length+(b.releases.flatMap rlsB).length:=by unfold zap;rw [List.length_append]
  rw [List.length_append,← hL,List.length_append]
  omega)
 rw [hL] at HS2
 have HLE4:=Hd hL
 clear hL HR
 have cg2:=HS2.out.kb.cell 5
 have hgs2:=HS2.out.kb.lt
 go_wp2
 clear cg2 hgs2
 go_loopw [10] (fun i wr=>∃(k:Nat) (v':Value),k≤b.releases.length∧i=.int .i64 k∧WS W p v W.heap.size 28 #[.int .i64 b.users,.slice Ae b.entries.length ce,.slice Ar b.rules.length cr,.slice Ag b.grants.length cg,.slice Al b.log.length cl,.slice Ax b.releases.length cx,.int .i64 b.step] wr v' (L4++(b.releases.take k).flatMap rlsB)) (fun i _=>b.releases.length-(intOf i).toNat)
 case atStart=>exact ⟨0,_,by omega,rfl,by simpa using HS2.out⟩
 obtain ⟨k,v',hk,rfl,hs⟩:=hrel
 clear HS2
 have HS:=Hd hs
 have hgs:=HS.out.kb.lt
 have cl0:=HS.out.kb.cell 5
 clear hs
 by_cases hlt:k<b.releases.length
 ·have hi0:(0:Int)≤(k:Int):=Int.natCast_nonneg _
  have hi1:(k:Int)<(b.releases.length:Int):=by omega
  have hxk:b.releases[k]?=some b.releases[k]:=List.getElem?_eq_getElem hlt
  have HFS:=Hd (zed rlsB b.releases k hxk)
  have hft:=zb5 rlsB b.releases (k+1)
  rw [HFS.out,List.length_append] at hft
  obtain ⟨bb,oo,rfl,hbb,rw0⟩:=HB.out.rlss.get 11 zcv hxk
  have HX:=Hd (HOK.out.releases _ (List.getElem_mem hlt))
  skip
  obtain ⟨M,hM⟩:∃M,L4++(b.releases.take k).flatMap rlsB=M:=⟨_,rfl⟩
  have hMl:M.length≤1100000000:=by
   have:=HR4.out
   rw [List.length_append] at this
   rw [← hM,List.length_append]
   omega
  rw [hM] at HS
  have HM:=Hd hM
  clear hM hft hxk
  generalize b.releases[k]=x at *
  have hbo:bb<p:=Nat.lt_of_lt_of_le hbb hB
  have HQ:=Hd hMl
  obtain ⟨o1,o2,o3,o4⟩:0≤x.fn∧x.fn<256∧0≤x.to_∧x.to_<18446744073709551616:=⟨HX.out.fn.1,HX.out.fn.2,HX.out.to_.1,HX.out.to_.2⟩
  have r0:World.cell? _ ⟨bb,oo+k*11,none⟩=some (.int .i64 x.step):=((HS.out.at_ HOB.out (Nat.le_of_lt hps)).cell (p:=⟨bb,oo+k*11,none⟩) hbo).trans (rw0 0 _ rfl)
  have r1:World.cell? _ ⟨bb,oo+k*11+1,none⟩=some (.int .i64 x.at_.col):=((HS.out.at_ HOB.out (Nat.le_of_lt hps)).cell (p:=⟨bb,oo+k*11+1,none⟩) hbo).trans (rw0 1 _ rfl)
  have r2:World.cell? _ ⟨bb,oo+k*11+2,none⟩=some (.int .i64 x.at_.row):=((HS.out.at_ HOB.out (Nat.le_of_lt hps)).cell (p:=⟨bb,oo+k*11+2,none⟩) hbo).trans (rw0 2 _ rfl)
  have r3:World.cell? _ ⟨bb,oo+k*11+3,none⟩=some (.int .i64 x.node):=((HS.out.at_ HOB.out (Nat.le_of_lt hps)).cell (p:=⟨bb,oo+k*11+3,none⟩) hbo).trans (rw0 3 _ rfl)
  have r4:World.cell? _ ⟨bb,oo+k*11+4,none⟩=some (.int .u8 x.fn):=((HS.out.at_ HOB.out (Nat.le_of_lt hps)).cell (p:=⟨bb,oo+k*11+4,none⟩) hbo).trans (rw0 4 _ rfl)
  have r5:World.cell? _ ⟨bb,oo+k*11+5,none⟩=some (.int .i64 x.rect.c1):=((HS.out.at_ HOB.out (Nat.le_of_lt hps)).cell (p:=⟨bb,oo+k*11+5,none⟩) hbo).trans (rw0 5 _ rfl)
  have r6:World.cell? _ ⟨bb,oo+k*11+6,none⟩=some (.int .i64 x.rect.r1):=((HS.out.at_ HOB.out (Nat.le_of_lt hps)).cell (p:=⟨bb,oo+k*11+6,none⟩) hbo).trans (rw0 6 _ rfl)
  have r7:World.cell? _ ⟨bb,oo+k*11+7,none⟩=some (.int .i64 x.rect.c2):=((HS.out.at_ HOB.out (Nat.le_of_lt hps)).cell (p:=⟨bb,oo+k*11+7,none⟩) hbo).trans (rw0 7 _ rfl)
  have r8:World.cell? _ ⟨bb,oo+k*11+8,none⟩=some (.int .i64 x.rect.r2):=((HS.out.at_ HOB.out (Nat.le_of_lt hps)).cell (p:=⟨bb,oo+k*11+8,none⟩) hbo).trans (rw0 8 _ rfl)
  have r9:World.cell? _ ⟨bb,oo+k*11+9,none⟩=some (.int .i64 x.grant):=((HS.out.at_ HOB.out (Nat.le_of_lt hps)).cell (p:=⟨bb,oo+k*11+9,none⟩) hbo).trans (rw0 9 _ rfl)
  have r10:World.cell? _ ⟨bb,oo+k*11+10,none⟩=some (.int .u64 x.to_):=((HS.out.at_ HOB.out (Nat.le_of_lt hps)).cell (p:=⟨bb,oo+k*11+10,none⟩) hbo).trans (rw0 10 _ rfl)
  have HI:=Hd (WS.start HS.out.wr 116 #[.int .i64 x.step,.int .i64 x.at_.col,.int .i64 x.at_.row,.int .i64 x.node,.int .u8 x.fn,.int .i64 x.rect.c1,.int .i64 x.rect.r1,.int .i64 x.rect.c2,.int .i64 x.rect.r2,.int .i64 x.grant,.int .u64 x.to_])
  have d0:=HI.out.kb.cell 0
  have hgi:=HI.out.kb.lt
  go_wp2_with fail
  refine (zbs p _ _ (x.step) _ HI.out.wr (by have:=HQ.out;omega)).mono ?_
  rintro u w4 ⟨rfl,v4,h4,t4⟩
  replace HI:=Hd (HI.out.next h4 t4)
  clear h4 t4 hgi d0
  clear r0 r1 r2 r3 r4 r5 r6 r7 r8 r9 r10
  replace HQ:=Hd (le2 HQ.out (zab (x.step)))
  have d1:=HI.out.kb.cell 1
  have hgi:=HI.out.kb.lt
  go_wp2_with fail
  refine (zbs p _ _ (x.at_.col) _ HI.out.wr (by have:=HQ.out;omega)).mono ?_
  rintro u w4 ⟨rfl,v4,h4,t4⟩
  replace HI:=Hd (HI.out.next h4 t4)
  clear h4 t4 hgi d1
  replace HQ:=Hd (le2 HQ.out (zab (x.at_.col)))
  have d2:=HI.out.kb.cell 2
  have hgi:=HI.out.kb.lt
  go_wp2_with fail
  refine (zbs p _ _ (x.at_.row) _ HI.out.wr (by have:=HQ.out;omega)).mono ?_
  rintro u w4 ⟨rfl,v4,h4,t4⟩
  replace HI:=Hd (HI.out.next h4 t4)
  clear h4 t4 hgi d2
  replace HQ:=Hd (le2 HQ.out (zab (x.at_.row)))
  have d3:=HI.out.kb.cell 3
  have hgi:=HI.out.kb.lt
  go_wp2_with fail
  refine (zbs p _ _ (x.node) _ HI.out.wr (by have:=HQ.out;omega)).mono ?_
  rintro u w4 ⟨rfl,v4,h4,t4⟩
  replace HI:=Hd (HI.out.next h4 t4)
  clear h4 t4 hgi d3
  replace HQ:=Hd (le2 HQ.out (zab (x.node)))
  have d4:=HI.out.kb.cell 4
  have hgi:=HI.out.kb.lt
  go_wp2_with fail
  refine (zdo p _ _ (x.fn) _ (by omega) (by omega) HI.out.wr (by have:=HQ.out;omega)).mono ?_
  rintro u w4 ⟨rfl,v4,h4,t4⟩
  replace HI:=Hd (HI.out.next h4 t4)
  clear h4 t4 hgi d4
  replace HQ:=Hd (le2 HQ.out (zab (x.fn)))
  have d5:=HI.out.kb.cell 5
  have d6:=HI.out.kb.cell 6
  have d7:=HI.out.kb.cell 7
  have d8:=HI.out.kb.cell 8
  have hgi:=HI.out.kb.lt
  go_wp2_with fail
  refine (zhc p _ _ (x.rect) _ HI.out.wr (by have:=HQ.out;omega)).mono ?_
  rintro u w4 ⟨rfl,v4,h4,t4⟩
  replace HI:=Hd (HI.out.next h4 t4)
  clear h4 t4 hgi d5 d6 d7 d8
  replace HQ:=Hd (le2 HQ.out (zkb (x.rect)))
  have d9:=HI.out.kb.cell 9
  have hgi:=HI.out.kb.lt
  go_wp2_with fail
  refine (zbs p _ _ (x.grant) _ HI.out.wr (by have:=HQ.out;omega)).mono ?_
  rintro u w4 ⟨rfl,v4,h4,t4⟩
  replace HI:=Hd (HI.out.next h4 t4)
  clear h4 t4 hgi d9
  replace HQ:=Hd (le2 HQ.out (zab (x.grant)))
  have d10:=HI.out.kb.cell 10
  have hgi:=HI.out.kb.lt
  go_wp2_with fail
  refine (zdo p _ _ (x.to_) _ (by omega) (by omega) HI.out.wr (by have:=HQ.out;omega)).mono ?_
  rintro u w4 ⟨rfl,v4,h4,t4⟩
  replace HI:=Hd (HI.out.next h4 t4)
  clear h4 t4 hgi d10
  have HS9:=Hd (HS.out.next HI.out.wr HI.out.to_)
  clear HI HS cl0 hgs
  have HE9:=Hd (show L4++(b.releases.take (k+1)).flatMap rlsB=M++numI (x.step)++numI (x.at_.col)++numI (x.at_.row)++numI (x.node)++numI (x.fn)++za7 x.rect++numI (x.grant)++numI (x.to_) by rw [HFS.out,← List.append_assoc,HM.out];simp [rlsB,zbz,List.append_assoc])
  have hgs9:=HS9.out.kb.lt
  have cl9:=HS9.out.kb.cell 5
  go_wp2
  exact ⟨⟨k+1,_,by omega,by go_num,by rw [HE9.out];exact HS9.out⟩,by simp [intOf];omega⟩
 have hi1:¬(k:Int)<(b.releases.length:Int):=by omega
 rw [List.take_of_length_le (by omega)] at HS
 have HR:=HR4
 clear HR4
 have ca:=HS.out.kb.cell 6
 go_wp2_with fail
 refine (zbs p _ _ b.step _ HS.out.wr (by have:=HR.out;omega)).mono ?_
 rintro u w2 ⟨rfl,v2,h2,t2⟩
 have HS2:=Hd (HS.out.next h2 t2)
 clear HS h2 t2 ca hgs
 go_wp2
 refine bE ?_
 refine ⟨rfl,_,?_,HS2.out.to_⟩
 have e:l++bokB b=L4++b.releases.flatMap rlsB++numI b.step:=by
  rw [← HLE4.out,← HLE3.out,← HLE2.out,← HLE1.out,← HLE0.out]
  simp [bokB,zap,List.append_assoc]
 rw [e]
 exact HS2.out.wr
end Go.Proofs.YtamcgggmfghljaaGreatDoor
