/- Layer 41 (program): lists' bytes (printed by tools/gen_list.py). -/
import Derived.Test.YtamcgggmfghljaaGreatDoorD10
set_option maxRecDepth 100000
set_option maxHeartbeats 8000000
open Go.Proofs.Tryz
namespace Go.Proofs.YtamcgggmfghljaaGreatDoor
open Go.RowKit
theorem zb3 {α:Type} (f:α→zaa):∀(xs:List α) (k:Nat),((xs.take k).flatMap f).length≤(xs.flatMap f).length
 | [],k=>by simp
 | x::xs,0=>by simp
 | x::xs,k+1=>by
  have:=zb3 f xs k
  rw [List.take_succ_cons,List.flatMap_cons,List.flatMap_cons,List.length_append,List.length_append]
  omega
def zem {α:Type} (c:α→List Value) (f:α→zaa) (K:Nat) (x:α):Prop:=
 ∀(v:Value) (l:zaa) (w:World),Out w v l→l.length≤100000000→Calls prog K #[v,.agg (c x).toArray] w fun e w'=>∃v',e=.returned v'∧Out w' v' (l++f x)∧OutTo w v w' v'
theorem zvp (v sv:Value) (l:zaa) (xs:List Ent) (B:Nat) (w:World) (h:Out w v l) (hB:B≤w.heap.size) (hv:∀k,v.ownBlock=some k→B≤k) (hs:Sls cEnt w B sv xs)
 (hg:∀x∈xs,zem cEnt entB 86 x) (hl:l.length+(zap entB xs).length≤100000000):
 Calls prog 85 #[v,sv,.func (.func 86) #[] #[]] w fun e w'=>∃v',e=.returned v'∧Out w' v' (l++zap entB xs)∧OutTo w v w' v':=by
 obtain ⟨A,cap,rfl,hc,hm,hr⟩:=id hs
 have H:=Hd h
 have HS:=Hd hs
 have HG:=Hd hg
 clear h hs hr hg
 unfold maxLen at hm
 have n1:=zab xs.length
 have hl2:l.length+(numI xs.length).length+(xs.flatMap entB).length≤100000000:=by simpa [zap,Nat.add_assoc] using hl
 have HL:=Hd hl2
 clear hl
 go_enter func85,ntmps85
 go_wp2_with fail
 refine (zbv _ _ _ _ H.out (by omega)).mono ?_
 rintro e w1 ⟨v1,rfl,o1,t1⟩
 have O1:=Hd o1
 have T1:=Hd t1
 clear o1 t1 hl2
 go_wp2_with fail
 go_loopw [0,15] (fun u i wr=>∃k:Nat,k≤xs.length∧i=.int .i64 k∧Out wr u (l++numI xs.length++(xs.take k).flatMap entB)∧OutTo w v wr u) (fun _ i _=>xs.length-(intOf i).toNat)
 case atStart=>exact ⟨0,by omega,rfl,by simpa using O1.out,T1.out⟩
 obtain ⟨k,hk,rfl,oo,tt⟩:=hrel
 have OO:=Hd oo
 have TT:=Hd tt
 clear oo
 by_cases hlt:k<xs.length
 rotate_left
 ·go_wp2
  go_ret
  obtain rfl:k=xs.length:=by omega
  exact ⟨_,rfl,by have:=OO.out;rw [List.take_length] at this;simpa [zap] using this,TT.out⟩
 have hx:xs[k]?=some xs[k]:=List.getElem?_eq_getElem hlt
 have HW:=Hd (HG.out _ (List.getElem_mem hlt))
 obtain ⟨b,o,rfl,hb,r⟩:=(HS.out.below (tt.old hB hv)).get 3 zbw hx
 have htk:xs.take (k+1)=xs.take k++ [xs[k]]:=by rw [List.take_succ_eq_append_getElem hlt]
 have HT:=Hd htk
 have hlk:(l++numI xs.length++(xs.take k).flatMap entB).length≤100000000:=by
  have h1:=zb3 entB xs k
  have h2:=HL.out
  rw [List.length_append,List.length_append]
  omega
 have HK:=Hd hlk
 clear hx htk tt hlk
 generalize xs[k]=x at *
 have r0:wr.cell? ⟨b,o+k*3,none⟩=some (.int .i64 x.at_.col):=r 0 _ rfl
 have r1:wr.cell? ⟨b,o+k*3+1,none⟩=some (.int .i64 x.at_.row):=r 1 _ rfl
 have r2:wr.cell? ⟨b,o+k*3+2,none⟩=some (str x.input):=r 2 _ rfl
 have hi0:(0:Int)≤(k:Int):=Int.natCast_nonneg _
 have hi1:(k:Int)<(xs.length:Int):=by omega
 clear r
 go_wp2_with fail
 refine (HW.out _ _ _ (OO.out.alloc _) HK.out).mono ?_
 rintro e w2 ⟨v2,rfl,o2,t2⟩
 have O2:=Hd o2
 have T2:=Hd ((TT.out.alloc _).trans t2)
 clear o2 t2
 go_wp2
 refine ⟨⟨k+1,by omega,by go_num,?_,T2.out⟩,by simp [intOf];omega⟩
 rw [HT.out]
 simpa using O2.out
theorem zvk (v sv:Value) (l:zaa) (xs:List Rul) (B:Nat) (w:World) (h:Out w v l) (hB:B≤w.heap.size) (hv:∀k,v.ownBlock=some k→B≤k) (hs:Sls cRul w B sv xs)
 (hg:∀x∈xs,zem cRul rulB 90 x) (hl:l.length+(zap rulB xs).length≤100000000):
 Calls prog 89 #[v,sv,.func (.func 90) #[] #[]] w fun e w'=>∃v',e=.returned v'∧Out w' v' (l++zap rulB xs)∧OutTo w v w' v':=by
 obtain ⟨A,cap,rfl,hc,hm,hr⟩:=id hs
 have H:=Hd h
 have HS:=Hd hs
 have HG:=Hd hg
 clear h hs hr hg
 unfold maxLen at hm
 have n1:=zab xs.length
 have hl2:l.length+(numI xs.length).length+(xs.flatMap rulB).length≤100000000:=by simpa [zap,Nat.add_assoc] using hl
 have HL:=Hd hl2
 clear hl
 go_enter func89,ntmps89
 go_wp2_with fail
 refine (zbv _ _ _ _ H.out (by omega)).mono ?_
 rintro e w1 ⟨v1,rfl,o1,t1⟩
 have O1:=Hd o1
 have T1:=Hd t1
 clear o1 t1 hl2
 go_wp2_with fail
 go_loopw [0,15] (fun u i wr=>∃k:Nat,k≤xs.length∧i=.int .i64 k∧Out wr u (l++numI xs.length++(xs.take k).flatMap rulB)∧OutTo w v wr u) (fun _ i _=>xs.length-(intOf i).toNat)
 case atStart=>exact ⟨0,by omega,rfl,by simpa using O1.out,T1.out⟩
 obtain ⟨k,hk,rfl,oo,tt⟩:=hrel
 have OO:=Hd oo
 have TT:=Hd tt
 clear oo
 by_cases hlt:k<xs.length
 rotate_left
 ·go_wp2
  go_ret
  obtain rfl:k=xs.length:=by omega
  exact ⟨_,rfl,by have:=OO.out;rw [List.take_length] at this;simpa [zap] using this,TT.out⟩
 have hx:xs[k]?=some xs[k]:=List.getElem?_eq_getElem hlt
 have HW:=Hd (HG.out _ (List.getElem_mem hlt))
 obtain ⟨b,o,rfl,hb,r⟩:=(HS.out.below (tt.old hB hv)).get 7 zcu hx
 have htk:xs.take (k+1)=xs.take k++ [xs[k]]:=by rw [List.take_succ_eq_append_getElem hlt]
 have HT:=Hd htk
 have hlk:(l++numI xs.length++(xs.take k).flatMap rulB).length≤100000000:=by
  have h1:=zb3 rulB xs k
  have h2:=HL.out
  rw [List.length_append,List.length_append]
  omega
 have HK:=Hd hlk
 clear hx htk tt hlk
 generalize xs[k]=x at *
 have r0:wr.cell? ⟨b,o+k*7,none⟩=some (.int .i64 x.rect.c1):=r 0 _ rfl
 have r1:wr.cell? ⟨b,o+k*7+1,none⟩=some (.int .i64 x.rect.r1):=r 1 _ rfl
 have r2:wr.cell? ⟨b,o+k*7+2,none⟩=some (.int .i64 x.rect.c2):=r 2 _ rfl
 have r3:wr.cell? ⟨b,o+k*7+3,none⟩=some (.int .i64 x.rect.r2):=r 3 _ rfl
 have r4:wr.cell? ⟨b,o+k*7+4,none⟩=some (.int .u64 x.rights.rd):=r 4 _ rfl
 have r5:wr.cell? ⟨b,o+k*7+5,none⟩=some (.int .u64 x.rights.wr):=r 5 _ rfl
 have r6:wr.cell? ⟨b,o+k*7+6,none⟩=some (.int .u64 x.rights.ow):=r 6 _ rfl
 have hi0:(0:Int)≤(k:Int):=Int.natCast_nonneg _
 have hi1:(k:Int)<(xs.length:Int):=by omega
 clear r
 go_wp2_with fail
 refine (HW.out _ _ _ (OO.out.alloc _) HK.out).mono ?_
 rintro e w2 ⟨v2,rfl,o2,t2⟩
 have O2:=Hd o2
 have T2:=Hd ((TT.out.alloc _).trans t2)
 clear o2 t2
 go_wp2
 refine ⟨⟨k+1,by omega,by go_num,?_,T2.out⟩,by simp [intOf];omega⟩
 rw [HT.out]
 simpa using O2.out
theorem zvn (v sv:Value) (l:zaa) (xs:List Grt) (B:Nat) (w:World) (h:Out w v l) (hB:B≤w.heap.size) (hv:∀k,v.ownBlock=some k→B≤k) (hs:Sls cGrt w B sv xs)
 (hg:∀x∈xs,zem cGrt grtB 94 x) (hl:l.length+(zap grtB xs).length≤100000000):
 Calls prog 93 #[v,sv,.func (.func 94) #[] #[]] w fun e w'=>∃v',e=.returned v'∧Out w' v' (l++zap grtB xs)∧OutTo w v w' v':=by
 obtain ⟨A,cap,rfl,hc,hm,hr⟩:=id hs
 have H:=Hd h
 have HS:=Hd hs
 have HG:=Hd hg
 clear h hs hr hg
 unfold maxLen at hm
 have n1:=zab xs.length
 have hl2:l.length+(numI xs.length).length+(xs.flatMap grtB).length≤100000000:=by simpa [zap,Nat.add_assoc] using hl
 have HL:=Hd hl2
 clear hl
 go_enter func93,ntmps93
 go_wp2_with fail
 refine (zbv _ _ _ _ H.out (by omega)).mono ?_
 rintro e w1 ⟨v1,rfl,o1,t1⟩
 have O1:=Hd o1
 have T1:=Hd t1
 clear o1 t1 hl2
 go_wp2_with fail
 go_loopw [0,15] (fun u i wr=>∃k:Nat,k≤xs.length∧i=.int .i64 k∧Out wr u (l++numI xs.length++(xs.take k).flatMap grtB)∧OutTo w v wr u) (fun _ i _=>xs.length-(intOf i).toNat)
 case atStart=>exact ⟨0,by omega,rfl,by simpa using O1.out,T1.out⟩
 obtain ⟨k,hk,rfl,oo,tt⟩:=hrel
 have OO:=Hd oo
 have TT:=Hd tt
 clear oo
 by_cases hlt:k<xs.length
 rotate_left
 ·go_wp2
  go_ret
  obtain rfl:k=xs.length:=by omega
  exact ⟨_,rfl,by have:=OO.out;rw [List.take_length] at this;simpa [zap] using this,TT.out⟩
 have hx:xs[k]?=some xs[k]:=List.getElem?_eq_getElem hlt
 have HW:=Hd (HG.out _ (List.getElem_mem hlt))
 obtain ⟨b,o,rfl,hb,r⟩:=(HS.out.below (tt.old hB hv)).get 8 zdm hx
 have htk:xs.take (k+1)=xs.take k++ [xs[k]]:=by rw [List.take_succ_eq_append_getElem hlt]
 have HT:=Hd htk
 have hlk:(l++numI xs.length++(xs.take k).flatMap grtB).length≤100000000:=by
  have h1:=zb3 grtB xs k
  have h2:=HL.out
  rw [List.length_append,List.length_append]
  omega
 have HK:=Hd hlk
 clear hx htk tt hlk
 generalize xs[k]=x at *
 have r0:wr.cell? ⟨b,o+k*8,none⟩=some (.int .i64 x.rect.c1):=r 0 _ rfl
 have r1:wr.cell? ⟨b,o+k*8+1,none⟩=some (.int .i64 x.rect.r1):=r 1 _ rfl
 have r2:wr.cell? ⟨b,o+k*8+2,none⟩=some (.int .i64 x.rect.c2):=r 2 _ rfl
 have r3:wr.cell? ⟨b,o+k*8+3,none⟩=some (.int .i64 x.rect.r2):=r 3 _ rfl
 have r4:wr.cell? ⟨b,o+k*8+4,none⟩=some (.int .u8 x.fns):=r 4 _ rfl
 have r5:wr.cell? ⟨b,o+k*8+5,none⟩=some (.int .u64 x.to_):=r 5 _ rfl
 have r6:wr.cell? ⟨b,o+k*8+6,none⟩=some (.int .i64 x.by_):=r 6 _ rfl
 have r7:wr.cell? ⟨b,o+k*8+7,none⟩=some (.bool x.revoked):=r 7 _ rfl
 have hi0:(0:Int)≤(k:Int):=Int.natCast_nonneg _
 have hi1:(k:Int)<(xs.length:Int):=by omega
 clear r
 go_wp2_with fail
 refine (HW.out _ _ _ (OO.out.alloc _) HK.out).mono ?_
 rintro e w2 ⟨v2,rfl,o2,t2⟩
 have O2:=Hd o2
 have T2:=Hd ((TT.out.alloc _).trans t2)
 clear o2 t2
 go_wp2
 refine ⟨⟨k+1,by omega,by go_num,?_,T2.out⟩,by simp [intOf];omega⟩
 rw [HT.out]
 simpa using O2.out
theorem zvo (v sv:Value) (l:zaa) (xs:List Evt) (B:Nat) (w:World) (h:Out w v l) (hB:B≤w.heap.size) (hv:∀k,v.ownBlock=some k→B≤k) (hs:Sls cEvt w B sv xs)
 (hg:∀x∈xs,zem cEvt evtB 99 x) (hl:l.length+(zap evtB xs).length≤100000000):
 Calls prog 98 #[v,sv,.func (.func 99) #[] #[]] w fun e w'=>∃v',e=.returned v'∧Out w' v' (l++zap evtB xs)∧OutTo w v w' v':=by
 obtain ⟨A,cap,rfl,hc,hm,hr⟩:=id hs
 have H:=Hd h
 have HS:=Hd hs
 have HG:=Hd hg
 clear h hs hr hg
 unfold maxLen at hm
 have n1:=zab xs.length
 have hl2:l.length+(numI xs.length).length+(xs.flatMap evtB).length≤100000000:=by simpa [zap,Nat.add_assoc] using hl
 have HL:=Hd hl2
 clear hl
 go_enter func98,ntmps98
 go_wp2_with fail
 refine (zbv _ _ _ _ H.out (by omega)).mono ?_
 rintro e w1 ⟨v1,rfl,o1,t1⟩
 have O1:=Hd o1
 have T1:=Hd t1
 clear o1 t1 hl2
 go_wp2_with fail
 go_loopw [0,15] (fun u i wr=>∃k:Nat,k≤xs.length∧i=.int .i64 k∧Out wr u (l++numI xs.length++(xs.take k).flatMap evtB)∧OutTo w v wr u) (fun _ i _=>xs.length-(intOf i).toNat)
 case atStart=>exact ⟨0,by omega,rfl,by simpa using O1.out,T1.out⟩
 obtain ⟨k,hk,rfl,oo,tt⟩:=hrel
 have OO:=Hd oo
 have TT:=Hd tt
 clear oo
 by_cases hlt:k<xs.length
 rotate_left
 ·go_wp2
  go_ret
  obtain rfl:k=xs.length:=by omega
  exact ⟨_,rfl,by have:=OO.out;rw [List.take_length] at this;simpa [zap] using this,TT.out⟩
 have hx:xs[k]?=some xs[k]:=List.getElem?_eq_getElem hlt
 have HW:=Hd (HG.out _ (List.getElem_mem hlt))
 obtain ⟨b,o,rfl,hb,r⟩:=(HS.out.below (tt.old hB hv)).get 9 zcw hx
 have htk:xs.take (k+1)=xs.take k++ [xs[k]]:=by rw [List.take_succ_eq_append_getElem hlt]
 have HT:=Hd htk
 have hlk:(l++numI xs.length++(xs.take k).flatMap evtB).length≤100000000:=by
  have h1:=zb3 evtB xs k
  have h2:=HL.out
  rw [List.length_append,List.length_append]
  omega
 have HK:=Hd hlk
 clear hx htk tt hlk
 generalize xs[k]=x at *
 have r0:wr.cell? ⟨b,o+k*9,none⟩=some (.int .i64 x.step):=r 0 _ rfl
 have r1:wr.cell? ⟨b,o+k*9+1,none⟩=some (.int .i64 x.user):=r 1 _ rfl
 have r2:wr.cell? ⟨b,o+k*9+2,none⟩=some (.int .u8 x.kind):=r 2 _ rfl
 have r3:wr.cell? ⟨b,o+k*9+3,none⟩=some (.int .i64 x.rect.c1):=r 3 _ rfl
 have r4:wr.cell? ⟨b,o+k*9+4,none⟩=some (.int .i64 x.rect.r1):=r 4 _ rfl
 have r5:wr.cell? ⟨b,o+k*9+5,none⟩=some (.int .i64 x.rect.c2):=r 5 _ rfl
 have r6:wr.cell? ⟨b,o+k*9+6,none⟩=some (.int .i64 x.rect.r2):=r 6 _ rfl
 have r7:wr.cell? ⟨b,o+k*9+7,none⟩=some (.bool x.done_):=r 7 _ rfl
 have r8:wr.cell? ⟨b,o+k*9+8,none⟩=some (.int .u64 x.to_):=r 8 _ rfl
 have hi0:(0:Int)≤(k:Int):=Int.natCast_nonneg _
 have hi1:(k:Int)<(xs.length:Int):=by omega
 clear r
 go_wp2_with fail
 refine (HW.out _ _ _ (OO.out.alloc _) HK.out).mono ?_
 rintro e w2 ⟨v2,rfl,o2,t2⟩
 have O2:=Hd o2
 have T2:=Hd ((TT.out.alloc _).trans t2)
 clear o2 t2
 go_wp2
 refine ⟨⟨k+1,by omega,by go_num,?_,T2.out⟩,by simp [intOf];omega⟩
 rw [HT.out]
 simpa using O2.out
theorem zvl (v sv:Value) (l:zaa) (xs:List Rls) (B:Nat) (w:World) (h:Out w v l) (hB:B≤w.heap.size) (hv:∀k,v.ownBlock=some k→B≤k) (hs:Sls cRls w B sv xs)
 (hg:∀x∈xs,zem cRls rlsB 101 x) (hl:l.length+(zap rlsB xs).length≤100000000):
 Calls prog 100 #[v,sv,.func (.func 101) #[] #[]] w fun e w'=>∃v',e=.returned v'∧Out w' v' (l++zap rlsB xs)∧OutTo w v w' v':=by
 obtain ⟨A,cap,rfl,hc,hm,hr⟩:=id hs
 have H:=Hd h
 have HS:=Hd hs
 have HG:=Hd hg
 clear h hs hr hg
 unfold maxLen at hm
 have n1:=zab xs.length
 have hl2:l.length+(numI xs.length).length+(xs.flatMap rlsB).length≤100000000:=by simpa [zap,Nat.add_assoc] using hl
 have HL:=Hd hl2
 clear hl
 go_enter func100,ntmps100
 go_wp2_with fail
 refine (zbv _ _ _ _ H.out (by omega)).mono ?_
 rintro e w1 ⟨v1,rfl,o1,t1⟩
 have O1:=Hd o1
 have T1:=Hd t1
 clear o1 t1 hl2
 go_wp2_with fail
 go_loopw [0,15] (fun u i wr=>∃k:Nat,k≤xs.length∧i=.int .i64 k∧Out wr u (l++numI xs.length++(xs.take k).flatMap rlsB)∧OutTo w v wr u) (fun _ i _=>xs.length-(intOf i).toNat)
 case atStart=>exact ⟨0,by omega,rfl,by simpa using O1.out,T1.out⟩
 obtain ⟨k,hk,rfl,oo,tt⟩:=hrel
 have OO:=Hd oo
 have TT:=Hd tt
 clear oo
 by_cases hlt:k<xs.length
 rotate_left
 ·go_wp2
  go_ret
  obtain rfl:k=xs.length:=by omega
  exact ⟨_,rfl,by have:=OO.out;rw [List.take_length] at this;simpa [zap] using this,TT.out⟩
 have hx:xs[k]?=some xs[k]:=List.getElem?_eq_getElem hlt
 have HW:=Hd (HG.out _ (List.getElem_mem hlt))
 obtain ⟨b,o,rfl,hb,r⟩:=(HS.out.below (tt.old hB hv)).get 11 zcv hx
 have htk:xs.take (k+1)=xs.take k++ [xs[k]]:=by rw [List.take_succ_eq_append_getElem hlt]
 have HT:=Hd htk
 have hlk:(l++numI xs.length++(xs.take k).flatMap rlsB).length≤100000000:=by
  have h1:=zb3 rlsB xs k
  have h2:=HL.out
  rw [List.length_append,List.length_append]
  omega
 have HK:=Hd hlk
 clear hx htk tt hlk
 generalize xs[k]=x at *
 have r0:wr.cell? ⟨b,o+k*11,none⟩=some (.int .i64 x.step):=r 0 _ rfl
 have r1:wr.cell? ⟨b,o+k*11+1,none⟩=some (.int .i64 x.at_.col):=r 1 _ rfl
 have r2:wr.cell? ⟨b,o+k*11+2,none⟩=some (.int .i64 x.at_.row):=r 2 _ rfl
 have r3:wr.cell? ⟨b,o+k*11+3,none⟩=some (.int .i64 x.node):=r 3 _ rfl
 have r4:wr.cell? ⟨b,o+k*11+4,none⟩=some (.int .u8 x.fn):=r 4 _ rfl
 have r5:wr.cell? ⟨b,o+k*11+5,none⟩=some (.int .i64 x.rect.c1):=r 5 _ rfl
 have r6:wr.cell? ⟨b,o+k*11+6,none⟩=some (.int .i64 x.rect.r1):=r 6 _ rfl
 have r7:wr.cell? ⟨b,o+k*11+7,none⟩=some (.int .i64 x.rect.c2):=r 7 _ rfl
 have r8:wr.cell? ⟨b,o+k*11+8,none⟩=some (.int .i64 x.rect.r2):=r 8 _ rfl
 have r9:wr.cell? ⟨b,o+k*11+9,none⟩=some (.int .i64 x.grant):=r 9 _ rfl
 have r10:wr.cell? ⟨b,o+k*11+10,none⟩=some (.int .u64 x.to_):=r 10 _ rfl
 have hi0:(0:Int)≤(k:Int):=Int.natCast_nonneg _
 have hi1:(k:Int)<(xs.length:Int):=by omega
 clear r
 go_wp2_with fail
 refine (HW.out _ _ _ (OO.out.alloc _) HK.out).mono ?_
 rintro e w2 ⟨v2,rfl,o2,t2⟩
 have O2:=Hd o2
 have T2:=Hd ((TT.out.alloc _).trans t2)
 clear o2 t2
 go_wp2
 refine ⟨⟨k+1,by omega,by go_num,?_,T2.out⟩,by simp [intOf];omega⟩
 rw [HT.out]
 simpa using O2.out
theorem zvm (v sv:Value) (l:zaa) (xs:List Opr) (B:Nat) (w:World) (h:Out w v l) (hB:B≤w.heap.size) (hv:∀k,v.ownBlock=some k→B≤k) (hs:Sls cOpr w B sv xs)
 (hg:∀x∈xs,zem cOpr oprB 103 x) (hl:l.length+(zap oprB xs).length≤100000000):
 Calls prog 102 #[v,sv,.func (.func 103) #[] #[]] w fun e w'=>∃v',e=.returned v'∧Out w' v' (l++zap oprB xs)∧OutTo w v w' v':=by
 obtain ⟨A,cap,rfl,hc,hm,hr⟩:=id hs
 have H:=Hd h
 have HS:=Hd hs
 have HG:=Hd hg
 clear h hs hr hg
 unfold maxLen at hm
 have n1:=zab xs.length
 have hl2:l.length+(numI xs.length).length+(xs.flatMap oprB).length≤100000000:=by simpa [zap,Nat.add_assoc] using hl
 have HL:=Hd hl2
 clear hl
 go_enter func102,ntmps102
 go_wp2_with fail
 refine (zbv _ _ _ _ H.out (by omega)).mono ?_
 rintro e w1 ⟨v1,rfl,o1,t1⟩
 have O1:=Hd o1
 have T1:=Hd t1
 clear o1 t1 hl2
 go_wp2_with fail
 go_loopw [0,15] (fun u i wr=>∃k:Nat,k≤xs.length∧i=.int .i64 k∧Out wr u (l++numI xs.length++(xs.take k).flatMap oprB)∧OutTo w v wr u) (fun _ i _=>xs.length-(intOf i).toNat)
 case atStart=>exact ⟨0,by omega,rfl,by simpa using O1.out,T1.out⟩
 obtain ⟨k,hk,rfl,oo,tt⟩:=hrel
 have OO:=Hd oo
 have TT:=Hd tt
 clear oo
 by_cases hlt:k<xs.length
 rotate_left
 ·go_wp2
  go_ret
  obtain rfl:k=xs.length:=by omega
  exact ⟨_,rfl,by have:=OO.out;rw [List.take_length] at this;simpa [zap] using this,TT.out⟩
 have hx:xs[k]?=some xs[k]:=List.getElem?_eq_getElem hlt
 have HW:=Hd (HG.out _ (List.getElem_mem hlt))
 obtain ⟨b,o,rfl,hb,r⟩:=(HS.out.below (tt.old hB hv)).get 13 zdl hx
 have htk:xs.take (k+1)=xs.take k++ [xs[k]]:=by rw [List.take_succ_eq_append_getElem hlt]
 have HT:=Hd htk
 have hlk:(l++numI xs.length++(xs.take k).flatMap oprB).length≤100000000:=by
  have h1:=zb3 oprB xs k
  have h2:=HL.out
  rw [List.length_append,List.length_append]
  omega
 have HK:=Hd hlk
 clear hx htk tt hlk
 generalize xs[k]=x at *
 have r0:wr.cell? ⟨b,o+k*13,none⟩=some (.int .u8 x.kind):=r 0 _ rfl
 have r1:wr.cell? ⟨b,o+k*13+1,none⟩=some (.int .i64 x.user):=r 1 _ rfl
 have r2:wr.cell? ⟨b,o+k*13+2,none⟩=some (.int .i64 x.rect.c1):=r 2 _ rfl
 have r3:wr.cell? ⟨b,o+k*13+3,none⟩=some (.int .i64 x.rect.r1):=r 3 _ rfl
 have r4:wr.cell? ⟨b,o+k*13+4,none⟩=some (.int .i64 x.rect.c2):=r 4 _ rfl
 have r5:wr.cell? ⟨b,o+k*13+5,none⟩=some (.int .i64 x.rect.r2):=r 5 _ rfl
 have r6:wr.cell? ⟨b,o+k*13+6,none⟩=some (str x.input):=r 6 _ rfl
 have r7:wr.cell? ⟨b,o+k*13+7,none⟩=some (.int .u64 x.rights.rd):=r 7 _ rfl
 have r8:wr.cell? ⟨b,o+k*13+8,none⟩=some (.int .u64 x.rights.wr):=r 8 _ rfl
 have r9:wr.cell? ⟨b,o+k*13+9,none⟩=some (.int .u64 x.rights.ow):=r 9 _ rfl
 have r10:wr.cell? ⟨b,o+k*13+10,none⟩=some (.int .u8 x.fns):=r 10 _ rfl
 have r11:wr.cell? ⟨b,o+k*13+11,none⟩=some (.int .u64 x.to_):=r 11 _ rfl
 have r12:wr.cell? ⟨b,o+k*13+12,none⟩=some (.int .i64 x.index):=r 12 _ rfl
 have hi0:(0:Int)≤(k:Int):=Int.natCast_nonneg _
 have hi1:(k:Int)<(xs.length:Int):=by omega
 clear r
 go_wp2_with fail
 refine (HW.out _ _ _ (OO.out.alloc _) HK.out).mono ?_
 rintro e w2 ⟨v2,rfl,o2,t2⟩
 have O2:=Hd o2
 have T2:=Hd ((TT.out.alloc _).trans t2)
 clear o2 t2
 go_wp2
 refine ⟨⟨k+1,by omega,by go_num,?_,T2.out⟩,by simp [intOf];omega⟩
 rw [HT.out]
 simpa using O2.out
end Go.Proofs.YtamcgggmfghljaaGreatDoor
