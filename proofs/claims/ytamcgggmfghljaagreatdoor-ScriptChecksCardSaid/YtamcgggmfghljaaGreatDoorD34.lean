/- Layer 8 (program): Check. -/
import Derived.Recover
import Derived.Defers
import Derived.Test.YtamcgggmfghljaaGreatDoorD32
import Derived.Test.YtamcgggmfghljaaGreatDoorD33
set_option maxRecDepth 100000
set_option maxHeartbeats 8000000
open Go.Proofs.Tryz
namespace Go.Proofs.YtamcgggmfghljaaGreatDoor
open Go.RowKit
theorem zjc (tv:Value) (t:List Nod) (B:Nat) (w:World) (hB:B≤w.heap.size) (ht:Sls cNod w B tv t) (htl:t.length≤2000) (hn:∀n∈t,NodOk n):
 Calls prog 252 #[tv,.bool false,.func (.func 253) #[] #[]] w fun u w'=>u=.returned (.int .i64 (zbx t))∧Below w.heap.size w w':=by
 obtain ⟨A,cap,rfl,hc1,hm1,ha1⟩:=id ht
 have HT:=Hd ht
 have HN:=Hd hn
 clear ht hn ha1
 unfold maxLen at hm1
 by_cases h256:256<t.length
 ·have HE:=Hd (show zbx t=5 by unfold zbx;rw [if_pos h256])
  have g256:(256:Int)<(t.length:Int):=by omega
  go_enter func252,ntmps252
  go_wp2
  go_ret
  exact ⟨by rw [HE.out];rfl,Below.refl _ _⟩
 have g256:¬(256:Int)<(t.length:Int):=by omega
 by_cases h0:t.length=0
 ·have HE:=Hd (show zbx t=4 by unfold zbx;rw [if_neg h256,if_pos (List.eq_nil_of_length_eq_zero h0)])
  have g0:((t.length:Int)==0)=true:=by simp [h0]
  clear h0
  go_enter func252,ntmps252
  go_wp2
  go_ret
  exact ⟨by rw [HE.out];rfl,Below.refl _ _⟩
 have g0:((t.length:Int)==0)=false:=by simpa using h0
 have hne:t≠ []:=fun e=>h0 (by rw [e];rfl)
 have HE0:=Hd (show zbx t=if zb1 t 0 t []≠0 then zb1 t 0 t [] else if (t.getLast?.map (·.kind))=some 3 then 4 else 0 by unfold zbx;rw [if_neg h256,if_neg hne])
 have HWK:=Hd (zql _ t B w hB HT.out htl HN.out)
 obtain ⟨m,hm⟩:∃m,t.length=m+1:=⟨t.length-1,by omega⟩
 have hx:=List.getElem?_eq_getElem (l:=t) (i:=m) (by omega)
 have hlast:t.getLast?=some (t[m]'(by omega)):=by rw [List.getLast?_eq_getElem?,show t.length-1=m by omega];exact hx
 generalize t[m]'(by omega)=x at hx hlast
 obtain ⟨b,o,hA,hb,r⟩:=HT.out.get 11 zbq hx
 subst hA
 have r0:w.cell? ⟨b,o+m*11,none⟩=some (.int .u8 x.kind):=r 0 _ rfl
 rw [hlast] at HE0
 have HE1:Hid (zbx t=if zb1 t 0 t []≠0 then zb1 t 0 t [] else if x.kind=3 then 4 else 0):=Hd (by
  rw [HE0.out]
  simp only [Option.map_some,Option.some.injEq])
 generalize zb1 t 0 t []=wk at HE1 HWK
 have hmz:(0:Int)≤(m:Int):=Int.natCast_nonneg _
 have hmy:(m:Int)≤2000:=by omega
 have hmi:(t.length:Int)-1=(m:Int):=by omega
 have hml:(m:Int)<(t.length:Int):=by omega
 have hblt:b<w.heap.size:=by omega
 clear hx hlast r HE0 h0 hne hm h256
 generalize x.kind=xk at HE1 r0
 clear x
 go_enter func252,ntmps252
 go_wp2_with fail
 refine HWK.out.mono ?_
 rintro u w2 ⟨rfl,hb2⟩
 have HB2:=Hd hb2
 have r2:w2.cell? ⟨b,o+m*11,none⟩=some (.int .u8 xk):=(hb2.cell (p:=⟨b,o+m*11,none⟩) hblt).trans r0
 clear hb2 r0
 by_cases hw:wk=0
 ·have HE2:=Hd (HE1.out.trans (if_neg (by simpa using hw)))
  have bw:(wk != 0)=false:=by simpa using hw
  clear HE1
  by_cases h3:xk=3
  ·have HE3:=Hd (HE2.out.trans (if_pos h3))
   have b3:(xk==3)=true:=by simpa using h3
   clear h3 hw
   go_wp2
   go_ret
   exact ⟨by rw [HE3.out];rfl,HB2.out⟩
  have HE3:=Hd (HE2.out.trans (if_neg h3))
  have b3:(xk==3)=false:=by simpa using h3
  clear h3 hw
  go_wp2
  go_ret
  exact ⟨by rw [HE3.out];rfl,HB2.out⟩
 have HE2:=Hd (HE1.out.trans (if_pos (by simpa using hw)))
 have bw:(wk != 0)=true:=by simpa using hw
 clear HE1 hw
 go_wp2
 go_ret
 exact ⟨by rw [HE2.out];rfl,HB2.out⟩
theorem zoo (tv:Value) (t:List Nod) (B:Nat) (w:World) (hB:B≤w.heap.size) (ht:Sls cNod w B tv t) (htl:t.length≤2000) (hn:∀n∈t,NodOk n):
 Calls prog 227 #[tv] w fun u w'=>u=.returned (.int .i64 (zbx t))∧Below w.heap.size w w':=by
 have HC:=Hd (zjc tv t B w hB ht htl hn)
 generalize zbx t=e at HC ⊢
 clear ht hn
 go_enter func227,ntmps227
 go_wp2_with fail
 refine HC.out.mono ?_
 rintro u w2 ⟨rfl,hb2⟩
 have HB2:=Hd hb2
 clear hb2
 go_wp2
 go_ret
 exact ⟨rfl,HB2.out⟩
theorem zlm (p q r:Addr) (w:World):
 CallsD prog 223 #[.pointer (some p),.pointer (some q),.pointer (some r)] .returning w fun e u' w'=>e=.returned (.tuple #[])∧u'=.returning∧w'=w:=by
 have hnil:∀w:World,(binOp BinOp.eql 20 .nilIface .nilIface).run prog w=.ok (.bool true) w:=fun _=>by kernel_rfl
 refine callsD_of_wpS func223 rfl fun c₀ cs hu=>?_
 apply wpS_seq
 apply wpS_region
 simp [wpOpsS,go_sem,recoverD,hu,ntmps223,Exit.thenS]
 refine wpS_of_wp ?_
 go_wp2
 cases c₀
 simp_all [bodyPostS,results,results223]
theorem zhx (p q r:Nat) (a er v1 v2:Int) (v0:Value) (w:World) (older:List PanicEntry) (hp:Blk w p 190 #[v0]) (hq:Blk w q 3 #[.int .i64 v1]) (hr:Blk w r 35 #[.int .i64 v2]) (hpq:p≠q) (hpr:p≠r) (hqr:q≠r):
 CallsD prog 223 #[.pointer (some ⟨p,0,none⟩),.pointer (some ⟨q,0,none⟩),.pointer (some ⟨r,0,none⟩)] (.panicking ({ v:=.iface 234 (.agg #[.int .i64 a,.int .i64 er]),recovered:=false }::older)) w fun e u' w'=>
  e=.returned (.tuple #[])∧u'=.panicking ({ v:=.iface 234 (.agg #[.int .i64 a,.int .i64 er]),recovered:=true }::older)∧Blk w' p 190 #[.slice none 0 0]∧Blk w' q 3 #[.int .i64 a]∧Blk w' r 35 #[.int .i64 er]∧Chg (fun k=>k=p∨k=q∨k=r) w w':=by
 have hnil:∀w:World,(binOp BinOp.eql 20 (.iface 234 (.agg #[.int .i64 a,.int .i64 er])) .nilIface).run prog w=.ok (.bool false) w:=fun _=>by rfl
 have hta:∀w:World,(Instr.typeAssert (.iface 234 (.agg #[.int .i64 a,.int .i64 er])) 20 234 true).run prog w=.ok (.tuple #[.agg #[.int .i64 a,.int .i64 er],.bool true]) w:=fun _=>by rfl
 have HP:=Hd hp
 have HQ:=Hd hq
 have HR:=Hd hr
 have c0:w.cell? ⟨p,0,none⟩=some v0:=hp.cell 0
 have c1:w.cell? ⟨q,0,none⟩=some (.int .i64 v1):=hq.cell 0
 have c2:w.cell? ⟨r,0,none⟩=some (.int .i64 v2):=hr.cell 0
 have f0:w.frozen? ⟨p,0,none⟩=false:=hp.frozen 0
 have f1:w.frozen? ⟨q,0,none⟩=false:=hq.frozen 0
 have f2:w.frozen? ⟨r,0,none⟩=false:=hr.frozen 0
 have l0:=hp.lt
 have l1:=hq.lt
 have l2:=hr.lt
 clear hp hq hr
 refine callsD_of_wpS func223 rfl fun c₀ cs hu=>?_
 apply wpS_seq
 apply wpS_region
 simp [wpOpsS,go_sem,recoverD,hu,ntmps223,Exit.thenS]
 refine wpS_of_wp ?_
 rw [show (#[Value.pointer (some ⟨p,0,none⟩),.pointer (some ⟨q,0,none⟩),.pointer (some ⟨r,0,none⟩)]++(Array.replicate 13 undef).setIfInBounds 3 (.iface 234 (.agg #[.int .i64 a,.int .i64 er])))=#[Value.pointer (some ⟨p,0,none⟩),.pointer (some ⟨q,0,none⟩),.pointer (some ⟨r,0,none⟩),undef,undef,undef,.iface 234 (.agg #[.int .i64 a,.int .i64 er]),undef,undef,undef,undef,undef,undef,undef,undef,undef] from rfl]
 go_wp2_with fail
 have H1:=Hd (((((HP.out.set_ 0 (.slice none 0 0)).far (p:=⟨q,0,none⟩) hpq (.int .i64 a)).far (p:=⟨r,0,none⟩) hpr (.int .i64 er)).alloc (.cells #[.int .i64 a,.int .i64 er] 234)).drew)
 have H2:=Hd (((((HQ.out.far (p:=⟨p,0,none⟩) (Ne.symm hpq) (.slice none 0 0)).set_ 0 (.int .i64 a)).far (p:=⟨r,0,none⟩) hqr (.int .i64 er)).alloc (.cells #[.int .i64 a,.int .i64 er] 234)).drew)
 have H3:=Hd (((((HR.out.far (p:=⟨p,0,none⟩) (Ne.symm hpr) (.slice none 0 0)).far (p:=⟨q,0,none⟩) (Ne.symm hqr) (.int .i64 a)).set_ 0 (.int .i64 er)).alloc (.cells #[.int .i64 a,.int .i64 er] 234)).drew)
 have H4:=Hd ((((((Chg.refl (fun k=>k=p∨k=q∨k=r) w).setCell (p:=⟨p,0,none⟩) (.inl (.inl rfl)) (.slice none 0 0)).setCell (p:=⟨q,0,none⟩) (.inl (.inr (.inl rfl))) (.int .i64 a)).setCell (p:=⟨r,0,none⟩) (.inl (.inr (.inr rfl))) (.int .i64 er)).alloc (.cells #[.int .i64 a,.int .i64 er] 234)).drew)
 go_region
 all_goals
  go_wp2
  cases c₀
  simp [bodyPostS,results,results223]
  exact ⟨H1.out,H2.out,H3.out,H4.out⟩
theorem zdu (v:Value) (l:zaa) (a b c d:Int) (w:World) (h:Out w v l) (hl:l.length≤1000000000):
 Calls prog 92 #[v,.agg #[.int .i64 a,.int .i64 b,.int .i64 c,.int .i64 d]] w fun e w'=>∃v',e=.returned v'∧Out w' v' (l++za7 ⟨a,b,c,d⟩)∧OutTo w v w' v':=by
 have H:=Hd h
 clear h
 have n1:=zab a
 have n2:=zab b
 have n3:=zab c
 have n4:=zab d
 go_enter func92,ntmps92
 go_wp2_with fail
 have hv:v.ownBlock≠some (w.heap.size+1):=fun e=>by have:=H.out.lt _ e;omega
 have KK:=Hd (show Blk ((w.alloc (.cells #[.int .i64 a,.int .i64 b,.int .i64 c,.int .i64 d] 43)).alloc (.cells #[.int .i64 a,.int .i64 b,.int .i64 c,.int .i64 d] 3)) (w.heap.size+1) 3 #[.int .i64 a,.int .i64 b,.int .i64 c,.int .i64 d] by have:=Blk.new (w.alloc (.cells #[.int .i64 a,.int .i64 b,.int .i64 c,.int .i64 d] 43)) 3 #[.int .i64 a,.int .i64 b,.int .i64 c,.int .i64 d];simpa using this)
 have hlen:∀k,(([a,b,c,d].take k).flatMap numI).length≤36:=by
  intro k
  rcases k with _ | _ | _ | _ | _ | k <;> simp <;> omega
 have HL:=Hd hlen
 clear n1 n2 n3 n4 hlen
 go_loopw [0,17] (fun u i wr=>∃k:Nat,k≤4∧i=.int .i64 k∧Out wr u (l++([a,b,c,d].take k).flatMap numI)∧OutTo w v wr u∧Blk wr (w.heap.size+1) 3 #[.int .i64 a,.int .i64 b,.int .i64 c,.int .i64 d]∧u.ownBlock≠some (w.heap.size+1)) (fun _ i _=>4-(intOf i).toNat)
 case atStart=>exact ⟨0,by omega,rfl,by simpa using (H.out.alloc _).alloc _,((OutTo.refl w v).alloc _).alloc _,KK.out,hv⟩
 obtain ⟨k,hk,rfl,oo,tt,kk,hu⟩:=hrel
 have OO:=Hd oo
 have TT:=Hd tt
 have KK:=Hd kk
 have hl2:=HL.out k
 clear oo tt
 by_cases hlt:k<4
 rotate_left
 ·go_wp2
  go_ret
  obtain rfl:k=4:=by omega
  exact ⟨_,rfl,by simpa [za7] using OO.out,TT.out⟩
 obtain ⟨x,hx,hc,hs⟩:∃x,[a,b,c,d][k]?=some x∧(∀W,Blk W (w.heap.size+1) 3 #[.int .i64 a,.int .i64 b,.int .i64 c,.int .i64 d]→W.cell? ⟨w.heap.size+1,k,none⟩=some (.int .i64 x))∧[a,b,c,d].take (k+1)=[a,b,c,d].take k++ [x]:=by
  have e:k=0∨k=1∨k=2∨k=3:=by omega
  rcases e with rfl | rfl | rfl | rfl
  ·exact ⟨a,rfl,fun W hW=>hW.cell 0,rfl⟩
  ·exact ⟨b,rfl,fun W hW=>hW.cell 1,rfl⟩
  ·exact ⟨c,rfl,fun W hW=>hW.cell 2,rfl⟩
  exact ⟨d,rfl,fun W hW=>hW.cell 3,rfl⟩
 have hcw:=hc wr kk
 have HS:=Hd hs
 have hi0:(0:Int)≤(k:Int):=by omega
 have hi1:(k:Int)<4:=by omega
 have hg:=kk.lt
 clear hc hs hx kk
 go_wp2_with fail
 refine (zbv _ _ _ _ OO.out (by rw [List.length_append];omega)).mono ?_
 rintro e w1 ⟨v1,rfl,o1,t1⟩
 have O1:=Hd o1
 have T1:=Hd (TT.out.trans t1)
 have K1:=Hd (KK.out.outTo t1 hu)
 have hu1:=t1.ne hg hu
 clear o1 t1
 go_wp2
 refine ⟨⟨k+1,by omega,by go_num,?_,T1.out,K1.out,hu1⟩,by simp [intOf];omega⟩
 rw [HS.out]
 simpa using O1.out
theorem wr_ent (v:Value) (l:zaa) (x:Ent) (w:World) (hi:x.input.length≤1000000000) (h:Out w v l) (hl:l.length≤100000000):
 Calls prog 86 #[v,.agg #[.int .i64 x.at_.col,.int .i64 x.at_.row,str x.input]] w fun e w'=>∃v',e=.returned v'∧Out w' v' (l++entB x)∧OutTo w v w' v':=by
 have hv:v.ownBlock≠some w.heap.size:=fun e=>by have:=h.lt _ e;omega
 have kk:Blk (w.alloc (.cells #[.int .i64 x.at_.col,.int .i64 x.at_.row,str x.input] 58)).drew w.heap.size 58 #[.int .i64 x.at_.col,.int .i64 x.at_.row,str x.input]:=(Blk.new _ _ _).drew
 have TT:=((OutTo.refl w v).alloc (.cells #[.int .i64 x.at_.col,.int .i64 x.at_.row,str x.input] 58)).drew
 have oo:=(h.alloc (.cells #[.int .i64 x.at_.col,.int .i64 x.at_.row,str x.input] 58)).drew
 clear h
 have m0:=zab x.at_.col
 have m1:=zab x.at_.row
 go_enter func86,ntmps86
 go_wp2_with fail
 go_region_held3 (fun W:World=>W.cell? ⟨w.heap.size,0,none⟩=some (.int .i64 x.at_.col)∧W.cell? ⟨w.heap.size,1,none⟩=some (.int .i64 x.at_.row)∧W.cell? ⟨w.heap.size,2,none⟩=some (str x.input))
  (first
   | exact ⟨kk.cell 0,kk.cell 1,kk.cell 2⟩)
  (first
   | (go_at_call 87;refine (zm6 _ _ _ _ oo (by omega) (by first | omega | (simp [zbz];omega))).mono ?_;rintro e w1 ⟨v1,rfl,oo,tt⟩;have hv':=tt.ne kk.lt hv;have kk:=kk.outTo tt hv;have hv:=hv';have TT:=TT.trans tt;clear tt hv')
   | (go_at_call 88;refine (zk8 _ _ _ _ _ oo (by first | omega | (simp [zbz,za7,zcb];omega))).mono ?_;rintro e w1 ⟨v1,rfl,oo,tt⟩;have hv':=tt.ne kk.lt hv;have kk:=kk.outTo tt hv;have hv:=hv';have TT:=TT.trans tt;clear tt hv'))
 have OO:=Hd oo
 have TT:=Hd TT
 go_wp2
 go_ret
 exact ⟨_,rfl,by simpa [za7,zbz,zcy,zcb,entB] using OO.out,TT.out⟩
theorem wr_rul (v:Value) (l:zaa) (x:Rul) (w:World) (a0:0≤x.rights.rd) (a1:x.rights.rd<18446744073709551616) (b0:0≤x.rights.wr) (b1:x.rights.wr<18446744073709551616) (c0:0≤x.rights.ow) (c1:x.rights.ow<18446744073709551616) (h:Out w v l) (hl:l.length≤100000000):
 Calls prog 90 #[v,.agg #[.int .i64 x.rect.c1,.int .i64 x.rect.r1,.int .i64 x.rect.c2,.int .i64 x.rect.r2,.int .u64 x.rights.rd,.int .u64 x.rights.wr,.int .u64 x.rights.ow]] w fun e w'=>∃v',e=.returned v'∧Out w' v' (l++rulB x)∧OutTo w v w' v':=by
 have hv:v.ownBlock≠some w.heap.size:=fun e=>by have:=h.lt _ e;omega
 have kk:Blk (w.alloc (.cells #[.int .i64 x.rect.c1,.int .i64 x.rect.r1,.int .i64 x.rect.c2,.int .i64 x.rect.r2,.int .u64 x.rights.rd,.int .u64 x.rights.wr,.int .u64 x.rights.ow] 79)).drew w.heap.size 79 #[.int .i64 x.rect.c1,.int .i64 x.rect.r1,.int .i64 x.rect.c2,.int .i64 x.rect.r2,.int .u64 x.rights.rd,.int .u64 x.rights.wr,.int .u64 x.rights.ow]:=(Blk.new _ _ _).drew
 have TT:=((OutTo.refl w v).alloc (.cells #[.int .i64 x.rect.c1,.int .i64 x.rect.r1,.int .i64 x.rect.c2,.int .i64 x.rect.r2,.int .u64 x.rights.rd,.int .u64 x.rights.wr,.int .u64 x.rights.ow] 79)).drew
 have oo:=(h.alloc (.cells #[.int .i64 x.rect.c1,.int .i64 x.rect.r1,.int .i64 x.rect.c2,.int .i64 x.rect.r2,.int .u64 x.rights.rd,.int .u64 x.rights.wr,.int .u64 x.rights.ow] 79)).drew
 clear h
 have m0:=zab x.rect.c1
 have m1:=zab x.rect.r1
 have m2:=zab x.rect.c2
 have m3:=zab x.rect.r2
 go_enter func90,ntmps90
 go_wp2_with fail
 go_region_held3 (fun W:World=>W.cell? ⟨w.heap.size,0,none⟩=some (.int .i64 x.rect.c1)∧W.cell? ⟨w.heap.size,1,none⟩=some (.int .i64 x.rect.r1)∧W.cell? ⟨w.heap.size,2,none⟩=some (.int .i64 x.rect.c2)∧W.cell? ⟨w.heap.size,3,none⟩=some (.int .i64 x.rect.r2)∧W.cell? ⟨w.heap.size,4,none⟩=some (.int .u64 x.rights.rd)∧W.cell? ⟨w.heap.size,5,none⟩=some (.int .u64 x.rights.wr)∧W.cell? ⟨w.heap.size,6,none⟩=some (.int .u64 x.rights.ow))
  (first
   | exact ⟨kk.cell 0,kk.cell 1,kk.cell 2,kk.cell 3,kk.cell 4,kk.cell 5,kk.cell 6⟩)
  (first
   | (go_at_call 91;refine (zna _ _ _ _ _ _ (by assumption) (by assumption) (by assumption) (by assumption) (by assumption) (by assumption) oo (by first | omega | (simp [za7];omega))).mono ?_;rintro e w1 ⟨v1,rfl,oo,tt⟩;have hv':=tt.ne kk.lt hv;have kk:=kk.outTo tt hv;have hv:=hv';have TT:=TT.trans tt;clear tt hv')
   | (go_at_call 92;refine (zdu _ _ _ _ _ _ _ oo (by first | omega | (simp [zbz,za7,zcb];omega))).mono ?_;rintro e w1 ⟨v1,rfl,oo,tt⟩;have hv':=tt.ne kk.lt hv;have kk:=kk.outTo tt hv;have hv:=hv';have TT:=TT.trans tt;clear tt hv'))
 have OO:=Hd oo
 have TT:=Hd TT
 go_wp2
 go_ret
 exact ⟨_,rfl,by simpa [za7,zbz,zcy,zcb,rulB] using OO.out,TT.out⟩
theorem wr_grt (v:Value) (l:zaa) (x:Grt) (w:World) (a0:0≤x.to_) (a1:x.to_<18446744073709551616) (h:Out w v l) (hl:l.length≤100000000):
 Calls prog 94 #[v,.agg #[.int .i64 x.rect.c1,.int .i64 x.rect.r1,.int .i64 x.rect.c2,.int .i64 x.rect.r2,.int .u8 x.fns,.int .u64 x.to_,.int .i64 x.by_,.bool x.revoked]] w fun e w'=>∃v',e=.returned v'∧Out w' v' (l++grtB x)∧OutTo w v w' v':=by
 have hv:v.ownBlock≠some w.heap.size:=fun e=>by have:=h.lt _ e;omega
 have kk:Blk (w.alloc (.cells #[.int .i64 x.rect.c1,.int .i64 x.rect.r1,.int .i64 x.rect.c2,.int .i64 x.rect.r2,.int .u8 x.fns,.int .u64 x.to_,.int .i64 x.by_,.bool x.revoked] 85)).drew w.heap.size 85 #[.int .i64 x.rect.c1,.int .i64 x.rect.r1,.int .i64 x.rect.c2,.int .i64 x.rect.r2,.int .u8 x.fns,.int .u64 x.to_,.int .i64 x.by_,.bool x.revoked]:=(Blk.new _ _ _).drew
 have TT:=((OutTo.refl w v).alloc (.cells #[.int .i64 x.rect.c1,.int .i64 x.rect.r1,.int .i64 x.rect.c2,.int .i64 x.rect.r2,.int .u8 x.fns,.int .u64 x.to_,.int .i64 x.by_,.bool x.revoked] 85)).drew
 have oo:=(h.alloc (.cells #[.int .i64 x.rect.c1,.int .i64 x.rect.r1,.int .i64 x.rect.c2,.int .i64 x.rect.r2,.int .u8 x.fns,.int .u64 x.to_,.int .i64 x.by_,.bool x.revoked] 85)).drew
 clear h
 have m0:=zab x.rect.c1
 have m1:=zab x.rect.r1
 have m2:=zab x.rect.c2
 have m3:=zab x.rect.r2
 have m4:=zab x.fns
 have m5:=zab x.to_
 have m6:=zab x.by_
 go_enter func94,ntmps94
 go_wp2_with fail
 go_region_held3 (fun W:World=>W.cell? ⟨w.heap.size,0,none⟩=some (.int .i64 x.rect.c1)∧W.cell? ⟨w.heap.size,1,none⟩=some (.int .i64 x.rect.r1)∧W.cell? ⟨w.heap.size,2,none⟩=some (.int .i64 x.rect.c2)∧W.cell? ⟨w.heap.size,3,none⟩=some (.int .i64 x.rect.r2)∧W.cell? ⟨w.heap.size,4,none⟩=some (.int .u8 x.fns)∧W.cell? ⟨w.heap.size,5,none⟩=some (.int .u64 x.to_)∧W.cell? ⟨w.heap.size,6,none⟩=some (.int .i64 x.by_)∧W.cell? ⟨w.heap.size,7,none⟩=some (.bool x.revoked))
  (first
   | exact ⟨kk.cell 0,kk.cell 1,kk.cell 2,kk.cell 3,kk.cell 4,kk.cell 5,kk.cell 6,kk.cell 7⟩)
  (first
   | (go_at_call 95;refine (zn4 _ _ _ _ oo (by first | omega | (simp [za7];omega))).mono ?_;rintro e w1 ⟨v1,rfl,oo,tt⟩;have hv':=tt.ne kk.lt hv;have kk:=kk.outTo tt hv;have hv:=hv';have TT:=TT.trans tt;clear tt hv')
   | (go_at_call 84;refine (zbv _ _ _ _ oo (by first | omega | (simp [za7];omega))).mono ?_;rintro e w1 ⟨v1,rfl,oo,tt⟩;have hv':=tt.ne kk.lt hv;have kk:=kk.outTo tt hv;have hv:=hv';have TT:=TT.trans tt;clear tt hv')
   | (go_at_call 96;refine (zhk _ _ _ _ (by assumption) (by assumption) oo (by first | omega | (simp [za7];omega))).mono ?_;rintro e w1 ⟨v1,rfl,oo,tt⟩;have hv':=tt.ne kk.lt hv;have kk:=kk.outTo tt hv;have hv:=hv';have TT:=TT.trans tt;clear tt hv')
   | (go_at_call 97;refine (zle _ _ _ _ oo (by first | omega | (simp [za7];omega))).mono ?_;rintro e w1 ⟨v1,rfl,oo,tt⟩;have hv':=tt.ne kk.lt hv;have kk:=kk.outTo tt hv;have hv:=hv';have TT:=TT.trans tt;clear tt hv')
   | (go_at_call 92;refine (zdu _ _ _ _ _ _ _ oo (by first | omega | (simp [zbz,za7,zcb];omega))).mono ?_;rintro e w1 ⟨v1,rfl,oo,tt⟩;have hv':=tt.ne kk.lt hv;have kk:=kk.outTo tt hv;have hv:=hv';have TT:=TT.trans tt;clear tt hv'))
 have OO:=Hd oo
 have TT:=Hd TT
 go_wp2
 go_ret
 exact ⟨_,rfl,by simpa [za7,zbz,zcy,zcb,grtB] using OO.out,TT.out⟩
theorem wr_evt (v:Value) (l:zaa) (x:Evt) (w:World) (a0:0≤x.to_) (a1:x.to_<18446744073709551616) (h:Out w v l) (hl:l.length≤100000000):
 Calls prog 99 #[v,.agg #[.int .i64 x.step,.int .i64 x.user,.int .u8 x.kind,.int .i64 x.rect.c1,.int .i64 x.rect.r1,.int .i64 x.rect.c2,.int .i64 x.rect.r2,.bool x.done_,.int .u64 x.to_]] w fun e w'=>∃v',e=.returned v'∧Out w' v' (l++evtB x)∧OutTo w v w' v':=by
 have hv:v.ownBlock≠some w.heap.size:=fun e=>by have:=h.lt _ e;omega
 have kk:Blk (w.alloc (.cells #[.int .i64 x.step,.int .i64 x.user,.int .u8 x.kind,.int .i64 x.rect.c1,.int .i64 x.rect.r1,.int .i64 x.rect.c2,.int .i64 x.rect.r2,.bool x.done_,.int .u64 x.to_] 110)).drew w.heap.size 110 #[.int .i64 x.step,.int .i64 x.user,.int .u8 x.kind,.int .i64 x.rect.c1,.int .i64 x.rect.r1,.int .i64 x.rect.c2,.int .i64 x.rect.r2,.bool x.done_,.int .u64 x.to_]:=(Blk.new _ _ _).drew
 have TT:=((OutTo.refl w v).alloc (.cells #[.int .i64 x.step,.int .i64 x.user,.int .u8 x.kind,.int .i64 x.rect.c1,.int .i64 x.rect.r1,.int .i64 x.rect.c2,.int .i64 x.rect.r2,.bool x.done_,.int .u64 x.to_] 110)).drew
 have oo:=(h.alloc (.cells #[.int .i64 x.step,.int .i64 x.user,.int .u8 x.kind,.int .i64 x.rect.c1,.int .i64 x.rect.r1,.int .i64 x.rect.c2,.int .i64 x.rect.r2,.bool x.done_,.int .u64 x.to_] 110)).drew
 clear h
 have m0:=zab x.rect.c1
 have m1:=zab x.rect.r1
 have m2:=zab x.rect.c2
 have m3:=zab x.rect.r2
 have m4:=zab x.step
 have m5:=zab x.user
 have m6:=zab x.kind
 have fl:(zhz x.done_).length≤9:=zab _
 go_enter func99,ntmps99
 go_wp2_with fail
 go_region_held3 (fun W:World=>W.cell? ⟨w.heap.size,0,none⟩=some (.int .i64 x.step)∧W.cell? ⟨w.heap.size,1,none⟩=some (.int .i64 x.user)∧W.cell? ⟨w.heap.size,2,none⟩=some (.int .u8 x.kind)∧W.cell? ⟨w.heap.size,3,none⟩=some (.int .i64 x.rect.c1)∧W.cell? ⟨w.heap.size,4,none⟩=some (.int .i64 x.rect.r1)∧W.cell? ⟨w.heap.size,5,none⟩=some (.int .i64 x.rect.c2)∧W.cell? ⟨w.heap.size,6,none⟩=some (.int .i64 x.rect.r2)∧W.cell? ⟨w.heap.size,7,none⟩=some (.bool x.done_)∧W.cell? ⟨w.heap.size,8,none⟩=some (.int .u64 x.to_))
  (first
   | exact ⟨kk.cell 0,kk.cell 1,kk.cell 2,kk.cell 3,kk.cell 4,kk.cell 5,kk.cell 6,kk.cell 7,kk.cell 8⟩)
  (first
   | (go_at_call 96;refine (zhk _ _ _ _ (by assumption) (by assumption) oo (by first | omega | (simp [za7];omega))).mono ?_;rintro e w1 ⟨v1,rfl,oo,tt⟩;have hv':=tt.ne kk.lt hv;have kk:=kk.outTo tt hv;have hv:=hv';have TT:=TT.trans tt;clear tt hv')
   | (go_at_call 95;refine (zn4 _ _ _ _ oo (by first | omega | (simp [za7];omega))).mono ?_;rintro e w1 ⟨v1,rfl,oo,tt⟩;have hv':=tt.ne kk.lt hv;have kk:=kk.outTo tt hv;have hv:=hv';have TT:=TT.trans tt;clear tt hv')
   | (go_at_call 92;refine (zdu _ _ _ _ _ _ _ oo (by first | omega | (simp [];omega))).mono ?_;rintro e w1 ⟨v1,rfl,oo,tt⟩;have hv':=tt.ne kk.lt hv;have kk:=kk.outTo tt hv;have hv:=hv';have TT:=TT.trans tt;clear tt hv')
   | (go_at_call 97;refine (zle _ _ _ _ oo (by first | omega | (simp [];omega))).mono ?_;rintro e w1 ⟨v1,rfl,oo,tt⟩;have hv':=tt.ne kk.lt hv;have kk:=kk.outTo tt hv;have hv:=hv';have TT:=TT.trans tt;clear tt hv')
   | (go_at_call 84;refine (zbv _ _ _ _ oo (by first | omega | (simp [];omega))).mono ?_;rintro e w1 ⟨v1,rfl,oo,tt⟩;have hv':=tt.ne kk.lt hv;have kk:=kk.outTo tt hv;have hv:=hv';have TT:=TT.trans tt;clear tt hv'))
 have OO:=Hd oo
 have TT:=Hd TT
 go_wp2
 go_ret
 exact ⟨_,rfl,by simpa [za7,zbz,zcy,zcb,evtB] using OO.out,TT.out⟩
end Go.Proofs.YtamcgggmfghljaaGreatDoor
