/- Layer 8 (program): may trees stand below a node (printed by tools/gen_treeb.py). -/
import Derived.Test.YtamcgggmfghljaaGreatDoorD29
set_option maxRecDepth 100000
set_option maxHeartbeats 8000000
open Go.Proofs.Tryz
namespace Go.Proofs.YtamcgggmfghljaaGreatDoor
open Go.RowKit
def zfe (p:Part):List Value:=[.int .i64 p.root,.int .i64 p.depth,.bool p.wide]
theorem zee (p:Part):(zfe p).length=3:=rfl
theorem zi1 (t:List Nod) (n:Nod) {l:List Part} {k:Nat} {p:Part} (h:l[k]?=some p):zdt t n k (l.drop k)=
 if (p.wide&&!(decide (n.kind=7)&&(zb9 n.fn k).1))=true then false
 else if (decide (n.kind=7)&&relB n.fn&&decide (((t.getD p.root (nod0 0)).kind)≠2)&&decide (((t.getD p.root (nod0 0)).kind)≠3))=true then false
 else zdt t n (k+1) (l.drop (k+1)):=by
 have hk:=(List.getElem?_eq_some_iff.1 h).1
 rw [List.drop_eq_getElem_cons hk]
 have:l[k]=p:=by rw [List.getElem?_eq_getElem hk] at h;simpa using h
 rw [this]
 rfl
theorem zsd {W:World} {B b o:Nat} {t:List Nod} {n cap:Nat} (h:Sls cNod W B (.slice (some ⟨b,o,none⟩) n cap) t) {i:Nat} (hi:i<t.length):W.cell? ⟨b,o+i*11,none⟩=some (.int .u8 ((t.getD i (nod0 0)).kind)):=by
 have hx:=List.getElem?_eq_getElem (l:=t) hi
 obtain ⟨b',o',e1,_,hr⟩:=Sls.get h 11 zbq hx
 injection e1 with e1
 injection e1 with e1 e2
 subst e1 e2
 rw [List.getD_eq_getElem?_getD,hx]
 exact hr 0 _ rfl
theorem zp3 (x:Nod) (hk7:x.kind≠7) (tv lv:Value) (t:List Nod) (l:List Part) (B:Nat) (w:World) (hB:B≤w.heap.size) (ht:Sls cNod w B tv t) (hl:Sls zfe w B lv l) (htl:t.length≤2000) (hll:l.length≤2000) (hr:∀p∈l,p.root<t.length):
 Calls prog 310 #[tv,.agg (cNod x).toArray,lv] w fun u w'=>u=.returned (.bool (zdt t x 0 l))∧Below w.heap.size w w':=by
 obtain ⟨A,cap,rfl,hc1,hm1,ha1⟩:=id ht
 obtain ⟨A2,cap2,rfl,hc2,hm2,ha2⟩:=id hl
 have HT:=Hd ht
 have HL:=Hd hl
 have HRT:=Hd hr
 clear ht hl hr ha1 ha2
 unfold maxLen at hm1 hm2
 have b7:(x.kind==7)=false:=by simpa using hk7
 rw [show (cNod x).toArray=#[.int .u8 x.kind,.int .u8 x.vk,.int .i64 x.vn,str x.vt,.int .i64 x.rect.c1,.int .i64 x.rect.r1,.int .i64 x.rect.c2,.int .i64 x.rect.r2,.int .i64 x.op,.int .u8 x.fn,.int .i64 x.n] from rfl]
 have K0:=Hd (Blk.new w 297 #[.int .u8 x.kind,.int .u8 x.vk,.int .i64 x.vn,str x.vt,.int .i64 x.rect.c1,.int .i64 x.rect.r1,.int .i64 x.rect.c2,.int .i64 x.rect.r2,.int .i64 x.op,.int .u8 x.fn,.int .i64 x.n])
 have HB0:=Hd (show Below w.heap.size w (w.alloc (.cells #[.int .u8 x.kind,.int .u8 x.vk,.int .i64 x.vn,str x.vt,.int .i64 x.rect.c1,.int .i64 x.rect.r1,.int .i64 x.rect.c2,.int .i64 x.rect.r2,.int .i64 x.op,.int .u8 x.fn,.int .i64 x.n] 297)) from by go_grown)
 go_enter func310,ntmps310
 go_upto_region 1 with (fail)
 obtain ⟨W1,hW1⟩:∃W1,w.alloc (.cells #[.int .u8 x.kind,.int .u8 x.vk,.int .i64 x.vn,str x.vt,.int .i64 x.rect.c1,.int .i64 x.rect.r1,.int .i64 x.rect.c2,.int .i64 x.rect.r2,.int .i64 x.op,.int .u8 x.fn,.int .i64 x.n] 297)=W1:=⟨_,rfl⟩
 rw [hW1] at K0 HB0 ⊢
 clear hW1
 go_wp2_with fail
 go_loopw [13] (fun i wr=>∃k:Nat,k≤l.length∧i=.int .i64 k∧Below w.heap.size w wr∧Blk wr w.heap.size 297 #[.int .u8 x.kind,.int .u8 x.vk,.int .i64 x.vn,str x.vt,.int .i64 x.rect.c1,.int .i64 x.rect.r1,.int .i64 x.rect.c2,.int .i64 x.rect.r2,.int .i64 x.op,.int .u8 x.fn,.int .i64 x.n]∧zdt t x 0 l=zdt t x k (l.drop k)) (fun i _=>l.length-(intOf i).toNat)
 case atStart=>exact ⟨0,by omega,rfl,HB0.out,K0.out,by simp⟩
 obtain ⟨k,hk,rfl,hbw,hkw,hfe⟩:=hrel
 have HF:=Hd hfe
 have HBW:=Hd hbw
 have KW:=Hd hkw
 clear hfe hkw
 by_cases hlt:k<l.length
 rotate_left
 ·go_wp2
  go_ret
  refine ⟨?_,HBW.out⟩
  rw [HF.out,List.drop_eq_nil_of_le (by omega)]
  rfl
 have hy:l[k]?=some l[k]:=List.getElem?_eq_getElem hlt
 obtain ⟨b,o,hA,hb2,r⟩:=(HL.out.below (hbw.mono hB)).get 3 zee hy
 have HD:=Hd (zi1 t x hy)
 have hrt:=HRT.out l[k] (List.getElem_mem hlt)
 generalize l[k]=y at *
 subst hA
 obtain ⟨tb,to_,rfl,htb⟩:∃tb to_,A=some ⟨tb,to_,none⟩∧tb<B:=by
  obtain ⟨_,_,e0,_,_,h2⟩:=HT.out
  injection e0 with e0 e1 e2
  obtain ⟨b,o,e3,h4,_⟩:=h2 (by omega)
  exact ⟨b,o,e0.trans e3,h4⟩
 have HTW:=Hd (HT.out.below (hbw.mono hB))
 have r0:wr.cell? ⟨b,o+k*3,none⟩=some (.int .i64 y.root):=r 0 _ rfl
 have r1:wr.cell? ⟨b,o+k*3+1,none⟩=some (.int .i64 y.depth):=r 1 _ rfl
 have r2:wr.cell? ⟨b,o+k*3+2,none⟩=some (.bool y.wide):=r 2 _ rfl
 have x0:=KW.out.cell 0
 have x9:=KW.out.cell 9
 have hkd:=zsd HTW.out hrt
 have hlw:=KW.out.lt
 have htbw:tb<wr.heap.size:=by have:=HBW.out.size;omega
 have hi0:(0:Int)≤(k:Int):=Int.natCast_nonneg _
 have hi1:(k:Int)<(l.length:Int):=by omega
 have hr0:(0:Int)≤(y.root:Int):=Int.natCast_nonneg _
 have hr1:(y.root:Int)<(t.length:Int):=by omega
 clear r hy hbw
 generalize (t.getD y.root (nod0 0)).kind=kd at HD hkd
 have HB2:=Hd (show Below w.heap.size w (wr.alloc (.cells #[.int .i64 y.root,.int .i64 y.depth,.bool y.wide] 325)) from HBW.out.alloc HBW.out.size _)
 have KN:=Hd (KW.out.alloc (.cells #[.int .i64 y.root,.int .i64 y.depth,.bool y.wide] 325))
 rw [decide_eq_false hk7] at HD
 cases hw:y.wide with
 | true=>
  have HD3:=Hd (HD.out.trans (if_pos (by rw [hw];rfl)))
  rw [hw] at r2 HB2 KN
  go_wp2
  go_ret
  exact ⟨by rw [HF.out,HD3.out];rfl,HB2.out⟩
 | false=>
  have HD3:=Hd (HD.out.trans ((if_neg (by rw [hw];simp)).trans (if_neg (by simp))))
  rw [hw] at r2 HB2 KN
  go_wp2
  exact ⟨⟨k+1,by omega,by go_num,HB2.out,KN.out,by rw [HF.out,HD3.out]⟩,by simp [intOf];omega⟩
theorem zsn (fn m:Nat) (h1:1≤fn) (h2:fn≤50) (tv lv:Value) (t:List Nod) (l:List Part) (B:Nat) (w:World) (hB:B≤w.heap.size) (ht:Sls cNod w B tv t) (hl:Sls zfe w B lv l) (htl:t.length≤2000) (hll:l.length≤2000) (hr:∀p∈l,p.root<t.length):
 Calls prog 310 #[tv,.agg (cNod ({ nod0 7 with fn:=fn,n:=m }:Nod)).toArray,lv] w fun u w'=>u=.returned (.bool (zdt t ({ nod0 7 with fn:=fn,n:=m }:Nod) 0 l))∧Below w.heap.size w w':=by
 obtain ⟨A,cap,rfl,hc1,hm1,ha1⟩:=id ht
 obtain ⟨A2,cap2,rfl,hc2,hm2,ha2⟩:=id hl
 have HT:=Hd ht
 have HL:=Hd hl
 have HRT:=Hd hr
 clear ht hl hr ha1 ha2
 unfold maxLen at hm1 hm2
 have HWI:=Hd (fun i hi W=>zkm fn i h1 h2 hi W)
 have HRE:=Hd (fun W=>zfm fn W)
 rw [show (cNod ({ nod0 7 with fn:=fn,n:=m }:Nod)).toArray=#[.int .u8 7,.int .u8 0,.int .i64 0,str [],.int .i64 0,.int .i64 0,.int .i64 0,.int .i64 0,.int .i64 0,.int .u8 fn,.int .i64 m] from rfl]
 have K0:=Hd (Blk.new w 297 #[.int .u8 7,.int .u8 0,.int .i64 0,str [],.int .i64 0,.int .i64 0,.int .i64 0,.int .i64 0,.int .i64 0,.int .u8 fn,.int .i64 m])
 have HB0:=Hd (show Below w.heap.size w (w.alloc (.cells #[.int .u8 7,.int .u8 0,.int .i64 0,str [],.int .i64 0,.int .i64 0,.int .i64 0,.int .i64 0,.int .i64 0,.int .u8 fn,.int .i64 m] 297)) from by go_grown)
 go_enter func310,ntmps310
 go_upto_region 1 with (fail)
 obtain ⟨W1,hW1⟩:∃W1,w.alloc (.cells #[.int .u8 7,.int .u8 0,.int .i64 0,str [],.int .i64 0,.int .i64 0,.int .i64 0,.int .i64 0,.int .i64 0,.int .u8 fn,.int .i64 m] 297)=W1:=⟨_,rfl⟩
 rw [hW1] at K0 HB0 ⊢
 clear hW1
 go_wp2_with fail
 go_loopw [13] (fun i wr=>∃k:Nat,k≤l.length∧i=.int .i64 k∧Below w.heap.size w wr∧Blk wr w.heap.size 297 #[.int .u8 7,.int .u8 0,.int .i64 0,str [],.int .i64 0,.int .i64 0,.int .i64 0,.int .i64 0,.int .i64 0,.int .u8 fn,.int .i64 m]∧zdt t ({ nod0 7 with fn:=fn,n:=m }:Nod) 0 l=zdt t ({ nod0 7 with fn:=fn,n:=m }:Nod) k (l.drop k)) (fun i _=>l.length-(intOf i).toNat)
 case atStart=>exact ⟨0,by omega,rfl,HB0.out,K0.out,by simp⟩
 obtain ⟨k,hk,rfl,hbw,hkw,hfe⟩:=hrel
 have HF:=Hd hfe
 have HBW:=Hd hbw
 have KW:=Hd hkw
 clear hfe hkw
 by_cases hlt:k<l.length
 rotate_left
 ·go_wp2
  go_ret
  refine ⟨?_,HBW.out⟩
  rw [HF.out,List.drop_eq_nil_of_le (by omega)]
  rfl
 have hy:l[k]?=some l[k]:=List.getElem?_eq_getElem hlt
 obtain ⟨b,o,hA,hb2,r⟩:=(HL.out.below (hbw.mono hB)).get 3 zee hy
 have HD:=Hd (zi1 t ({ nod0 7 with fn:=fn,n:=m }:Nod) hy)
 have hrt:=HRT.out l[k] (List.getElem_mem hlt)
 generalize l[k]=y at *
 subst hA
 obtain ⟨tb,to_,rfl,htb⟩:∃tb to_,A=some ⟨tb,to_,none⟩∧tb<B:=by
  obtain ⟨_,_,e0,_,_,h2⟩:=HT.out
  injection e0 with e0 e1 e2
  obtain ⟨b,o,e3,h4,_⟩:=h2 (by omega)
  exact ⟨b,o,e0.trans e3,h4⟩
 have HTW:=Hd (HT.out.below (hbw.mono hB))
 have r0:wr.cell? ⟨b,o+k*3,none⟩=some (.int .i64 y.root):=r 0 _ rfl
 have r1:wr.cell? ⟨b,o+k*3+1,none⟩=some (.int .i64 y.depth):=r 1 _ rfl
 have r2:wr.cell? ⟨b,o+k*3+2,none⟩=some (.bool y.wide):=r 2 _ rfl
 have x0:=KW.out.cell 0
 have x9:=KW.out.cell 9
 have hkd:=zsd HTW.out hrt
 have hlw:=KW.out.lt
 have htbw:tb<wr.heap.size:=by have:=HBW.out.size;omega
 have hi0:(0:Int)≤(k:Int):=Int.natCast_nonneg _
 have hi1:(k:Int)<(l.length:Int):=by omega
 have hr0:(0:Int)≤(y.root:Int):=Int.natCast_nonneg _
 have hr1:(y.root:Int)<(t.length:Int):=by omega
 clear r hy hbw
 generalize (t.getD y.root (nod0 0)).kind=kd at HD hkd
 have HB2:=Hd (show Below w.heap.size w (wr.alloc (.cells #[.int .i64 y.root,.int .i64 y.depth,.bool y.wide] 325)) from HBW.out.alloc HBW.out.size _)
 have KN:=Hd (KW.out.alloc (.cells #[.int .i64 y.root,.int .i64 y.depth,.bool y.wide] 325))
 have HD2:Hid (zdt t ({ nod0 7 with fn:=fn,n:=m }:Nod) k (l.drop k)=if (y.wide&&!(zb9 fn k).1)=true then false else if (relB fn&&decide (kd≠2)&&decide (kd≠3))=true then false else zdt t ({ nod0 7 with fn:=fn,n:=m }:Nod) (k+1) (l.drop (k+1))):=HD
 clear HD
 go_wp2_with fail
 refine (HWI.out k (by omega) _).mono ?_
 rintro u w3 ⟨rfl,rfl⟩
 generalize zb9 fn k=wd at HD2 ⊢
 obtain ⟨wb,we⟩:=wd
 simp only at HD2 ⊢
 cases hw:y.wide with
 | true=>
  rw [hw] at r2 HB2 KN
  cases wb with
  | false=>
   have HD3:=Hd (HD2.out.trans (if_pos (by rw [hw];rfl)))
   go_wp2
   go_ret
   exact ⟨by rw [HF.out,HD3.out];rfl,HB2.out⟩
  | true=>
   have HD3:=Hd (HD2.out.trans (if_neg (by simp)))
   clear HD2
   go_wp2_with fail
   refine (HRE.out _).mono ?_
   rintro u w4 ⟨rfl,rfl⟩
   cases hrel:relB fn with
   | false=>
    have HD3:=Hd (HD3.out.trans (if_neg (by rw [hrel];simp)))
    go_wp2
    exact ⟨⟨k+1,by omega,by go_num,HB2.out,KN.out,by rw [HF.out,HD3.out]⟩,by simp [intOf];omega⟩
   | true=>
    by_cases k2:kd=2
    ·have b2:(kd != 2)=false:=by simpa using k2
     have HD3:=Hd (HD3.out.trans (if_neg (by simp [k2])))
     go_wp2
     exact ⟨⟨k+1,by omega,by go_num,HB2.out,KN.out,by rw [HF.out,HD3.out]⟩,by simp [intOf];omega⟩
    have b2:(kd != 2)=true:=by simpa using k2
    by_cases k3:kd=3
    ·have b3:(kd != 3)=false:=by simpa using k3
     have HD3:=Hd (HD3.out.trans (if_neg (by simp [k3])))
     go_wp2
     exact ⟨⟨k+1,by omega,by go_num,HB2.out,KN.out,by rw [HF.out,HD3.out]⟩,by simp [intOf];omega⟩
    have b3:(kd != 3)=true:=by simpa using k3
    have HD3:=Hd (HD3.out.trans (if_pos (by rw [hrel];simp [k2,k3])))
    go_wp2
    go_ret
    exact ⟨by rw [HF.out,HD3.out];rfl,HB2.out⟩
 | false=>
  rw [hw] at r2 HB2 KN
  have HD3:=Hd (HD2.out.trans (if_neg (by rw [hw];simp)))
  clear HD2
  go_wp2_with fail
  refine (HRE.out _).mono ?_
  rintro u w4 ⟨rfl,rfl⟩
  cases hrel:relB fn with
  | false=>
   have HD3:=Hd (HD3.out.trans (if_neg (by rw [hrel];simp)))
   go_wp2
   exact ⟨⟨k+1,by omega,by go_num,HB2.out,KN.out,by rw [HF.out,HD3.out]⟩,by simp [intOf];omega⟩
  | true=>
   by_cases k2:kd=2
   ·have b2:(kd != 2)=false:=by simpa using k2
    have HD3:=Hd (HD3.out.trans (if_neg (by simp [k2])))
    go_wp2
    exact ⟨⟨k+1,by omega,by go_num,HB2.out,KN.out,by rw [HF.out,HD3.out]⟩,by simp [intOf];omega⟩
   have b2:(kd != 2)=true:=by simpa using k2
   by_cases k3:kd=3
   ·have b3:(kd != 3)=false:=by simpa using k3
    have HD3:=Hd (HD3.out.trans (if_neg (by simp [k3])))
    go_wp2
    exact ⟨⟨k+1,by omega,by go_num,HB2.out,KN.out,by rw [HF.out,HD3.out]⟩,by simp [intOf];omega⟩
   have b3:(kd != 3)=true:=by simpa using k3
   have HD3:=Hd (HD3.out.trans (if_pos (by rw [hrel];simp [k2,k3])))
   go_wp2
   go_ret
   exact ⟨by rw [HF.out,HD3.out];rfl,HB2.out⟩
theorem zkn (a b c:Value) (w:World):Calls prog 253 #[a,b,c] w fun u w'=>u=.returned (.tuple #[])∧w=w':=by
 go_enter func253,ntmps253
 go_wp2
 refine bE ?_
 exact ⟨rfl,rfl⟩
theorem zig (t:List Nod) {k:Nat} {n:Nod} (st:List Part) (h:t[k]?=some n):zb1 t k (t.drop k) st=match zgo t k n st with
 | .error e=>e
 | .ok st=>zb1 t (k+1) (t.drop (k+1)) st:=by
 have hk:=(List.getElem?_eq_some_iff.1 h).1
 rw [List.drop_eq_getElem_cons hk]
 have:t[k]=n:=by rw [List.getElem?_eq_getElem hk] at h;simpa using h
 rw [this]
 rfl
theorem zfl {x:zaa} (h:txtE x=0):x.length≤256∧pltB x=true:=by
 unfold txtE at h
 split at h
 ·simp at h
 split at h
 ·rename_i h1 h2
  refine ⟨by omega,?_⟩
  unfold prB at h2
  unfold pltB
  simpa using h2
 simp at h
theorem zmp {n:Nod} (h:NodOk n):zc5 n=0:=by
 cases h with
 | num v h=>simp [zc5,zhl,zg5,nod0,valE];omega
 | text x h=>simp [zc5,zhl,zg5,nod0,valE,(zfl h).1,(zfl h).2]
 | bool v h=>rcases h with rfl | rfl <;> simp [zc5,zhl,zg5,nod0,valE]
 | err v h1 h2=>simp [zc5,zhl,zg5,nod0,valE];omega
 | ref r h1 h2=>simp [zc5,zhl,zg5,nod0,h1,h2]
 | range r h1 h2=>simp [zc5,zhl,zg5,nod0,h1,h2]
 | neg=>simp [zc5,zhl,zg5,nod0]
 | pct=>simp [zc5,zhl,zg5,nod0]
 | binary v h1 h2=>simp [zc5,zhl,zg5,nod0,h1,h2]
 | call fn n h1 h2 h3 h4=>
  have ha:=zg0 fn h1 h2
  simp [zc5,zhl,zg5,nod0,ha]
  omega
theorem zgw (t:List Nod) (i:Nat) {n:Nod} (h:NodOk n) (st:List Part):zgo t i n st=
 if st.length<zb8 n∨zdt t n 0 (st.drop (st.length-zb8 n))=false then .error 4
 else if 32<zct (st.drop (st.length-zb8 n)) then .error 9
 else .ok (st.take (st.length-zb8 n)++ [⟨i,zct (st.drop (st.length-zb8 n)),decide (n.kind=3)⟩]):=by
 unfold zgo
 rw [zmp h,if_neg (by simp),zwr n h,Int.toNat_natCast]
 have e:((st.length:Int)<(zb8 n:Int))↔st.length<zb8 n:=by omega
 simp only [e]
theorem Own.take {α:Type} {c:α→List Value} {e:TypeId} {k:Nat} {w:World} {g cap n:Nat} {l:List α} (hk:∀x,(c x).length=k) (h:Own c e k w (.slice (some ⟨g,0,none⟩) n cap) l) {j:Nat} (hj:j≤l.length):Own c e k w (.slice (some ⟨g,0,none⟩) j cap) (l.take j):=by
 obtain ⟨hx,h2⟩:=h
 have e1:(l.take j).length=j:=by simp;omega
 have e2:(l.take j).flatMap c=(l.flatMap c).take (j*k):=(zln hk l j).symm
 unfold Own
 rw [e1,e2]
 rcases h2 with ⟨h0,_⟩ | ⟨g',cap',cur,hv,hg,hh,hn,hcap,hsz,htake⟩
 ·cases h0
 cases hv
 refine ⟨by rw [List.length_take,hx,Nat.min_eq_left (Nat.mul_le_mul_right _ hj)],.inr ⟨g,cap,cur,rfl,hg,hh,by omega,hcap,hsz,?_⟩⟩
 rw [← htake,List.take_take,Nat.min_eq_left (Nat.mul_le_mul_right _ hj)]
theorem Sls.drop {α:Type} {c:α→List Value} {k:Nat} {w:World} {B:Nat} {A:Option Addr} {n cap:Nat} {l:List α} (hk:∀x,(c x).length=k) (h:Sls c w B (.slice A n cap) l) (m:Nat) (hm:m≤n):Sls c w B (.slice (if cap=m then A else A.map (·.add (m*k))) (n-m) (cap-m)) (l.drop m):=by
 obtain ⟨A',cap',e,h1,h2,h3⟩:=h
 injection e with e1 e2 e3
 subst e1 e2 e3
 refine ⟨_,_,by rw [List.length_drop],by rw [List.length_drop];omega,by rw [List.length_drop];omega,fun hp=>?_⟩
 rw [List.length_drop] at hp
 obtain ⟨b,o,rfl,hb,hr⟩:=h3 (by omega)
 refine ⟨b,o+m*k,?_,hb,?_⟩
 ·rw [if_neg (by omega)]
  simp [Addr.add]
 rw [← zlp hk l m]
 intro j v hj
 rw [List.getElem?_drop] at hj
 have:=hr (m*k+j) v hj
 rwa [← Nat.add_assoc] at this
theorem Own.head {α:Type} {c:α→List Value} {e:TypeId} {k:Nat} {w:World} {A:Option Addr} {cap n:Nat} {l:List α} (hk:∀x,(c x).length=k) (h:Own c e k w (.slice A n cap) l) {j:Nat} (hj:j≤l.length):Own c e k w (.slice A j cap) (l.take j):=by
 rcases id h.2 with ⟨hv,he⟩ | ⟨g,cap',cur,hv,_⟩
 ·injection hv with h1 h2 h3
  subst h1 h3
  have hl:l.length=0:=he
  obtain rfl:j=0:=by omega
  rw [List.take_zero]
  exact Own.nil _ _ _ _
 injection hv with h1 h2 h3
 subst h1
 exact Own.take hk h hj
theorem add_zero (A:Option Addr):Option.map (fun x:Addr=>x.add 0) A=A:=by
 cases A with
 | none=>rfl
 | some a=>
  obtain ⟨b,o,q⟩:=a
  cases q <;> simp [Addr.add]
def cInt (x:Int):List Value:=[.int .i64 x]
theorem zwm (x:Int):(cInt x).length=1:=rfl
theorem zwl (x:Int):∀u∈cInt x,u.oneCell'=true:=by
 intro u hu
 simp only [cInt,List.mem_cons,List.not_mem_nil,or_false] at hu
 subst hu;rfl
theorem zs7 (x:Part):∀u∈zfe x,u.oneCell'=true:=by
 intro u hu
 simp only [zfe,List.mem_cons,List.not_mem_nil,or_false] at hu
 rcases hu with rfl | rfl | rfl <;> rfl
theorem zse:∃i,prog.info? 325=some i∧i.zero=some (.agg #[.int .i64 0,.int .i64 0,.bool false])∧i.size=3∧i.bytes=24:=
 info_parts (show (prog.info? 325).map (fun i=>(i.zero,i.size,i.bytes))=some (some (.agg #[.int .i64 0,.int .i64 0,.bool false]),3,24) by kernel_rfl)
theorem zv1:∃i,prog.info? 3=some i∧i.zero=some (.int .i64 0)∧i.size=1∧i.bytes=8:=
 info_parts (show (prog.info? 3).map (fun i=>(i.zero,i.size,i.bytes))=some (some (.int .i64 0),1,8) by kernel_rfl)
theorem zh0 (l:List Part) {j:Nat} {x:Part} (h:l[j]?=some x):zct (l.take (j+1))=max (zct (l.take j)) (x.depth+1):=by
 have hj:=(List.getElem?_eq_some_iff.1 h).1
 rw [List.take_succ_eq_append_getElem hj]
 have:l[j]=x:=by rw [List.getElem?_eq_getElem hj] at h;simpa using h
 rw [this]
 unfold zct
 rw [List.foldl_append]
 rfl
theorem zfy:∀(l:List Part),(∀p∈l,p.depth≤32)→∀d:Int,1≤d→d≤33→1≤l.foldl (fun d x=>max d (x.depth+1)) d∧l.foldl (fun d x=>max d (x.depth+1)) d≤33
 | [],_,d,h1,h2=>⟨h1,h2⟩
 | x::l,h,d,h1,h2=>by
  have hx:=h x (by simp)
  exact zfy l (fun p hp=>h p (by simp [hp])) (max d (x.depth+1)) (by omega) (by omega)
theorem zmd (A:Option Addr) (n m c:Nat):(Value.slice A n c).ownBlock=(Value.slice A m c).ownBlock:=by cases A <;> rfl
def FitsOk (n:Nod):Prop:=∀(tv lv:Value) (t:List Nod) (l:List Part) (B:Nat) (w:World),B≤w.heap.size→Sls cNod w B tv t→Sls zfe w B lv l→t.length≤2000→l.length≤2000→(∀p∈l,p.root<t.length)→
 Calls prog 310 #[tv,.agg (cNod n).toArray,lv] w fun u w'=>u=.returned (.bool (zdt t n 0 l))∧Below w.heap.size w w'
theorem zy7 {n:Nod} (h:NodOk n):FitsOk n:=by
 intro tv lv t l B w hB ht hl htl hll hr
 by_cases h7:n.kind=7
 ·cases h with
  | call fn n h1 h2 h3 h4=>exact zsn fn n h1 h2 tv lv t l B w hB ht hl htl hll hr
  | _=>exact absurd h7 (by simp [nod0])
 exact zp3 n h7 tv lv t l B w hB ht hl htl hll hr
theorem zql (tv:Value) (t:List Nod) (B:Nat) (w:World) (hB:B≤w.heap.size) (ht:Sls cNod w B tv t) (htl:t.length≤2000) (hn:∀n∈t,NodOk n):
 Calls prog 289 #[tv,.func (.func 253) #[] #[]] w fun u w'=>u=.returned (.int .i64 (zb1 t 0 t []))∧Below w.heap.size w w':=by
 obtain ⟨A,cap,rfl,hc1,hm1,ha1⟩:=id ht
 have HT:=Hd ht
 have HN:=Hd hn
 obtain ⟨ip,ip0,ip1,ip2,ip3⟩:=zse
 obtain ⟨ii,ii0,ii1,ii2,ii3⟩:=zv1
 clear ht hn ha1
 unfold maxLen at hm1
 go_enter func289,ntmps289
 go_wp2_with fail
 go_loopw [5,16] (fun sv i wr=>∃(k:Nat) (st:List Part),k≤t.length∧i=.int .i64 k∧Own zfe 325 3 wr sv st∧(∀q,sv.ownBlock=some q→w.heap.size≤q)∧Below w.heap.size w wr∧zb1 t 0 t []=zb1 t k (t.drop k) st∧st.length≤k∧(∀p∈st,p.root<t.length∧1≤p.depth∧p.depth≤32)) (fun _ i _=>t.length-(intOf i).toNat)
 case atStart=>exact ⟨0,[],by omega,rfl,Own.nil _ _ _ _,fun q hq=>by simp [Value.ownBlock] at hq,Below.refl _ _,by simp,by simp,by simp⟩
 rename World=>w0
 obtain ⟨k,st,hk,rfl,how,hob,hbw,hwk,hsl,hrt⟩:=hrel
 have HW:=Hd hwk
 have HBW:=Hd hbw
 have HOW:=Hd how
 have HOB:=Hd hob
 have HRT:=Hd hrt
 clear hwk hob hrt
 obtain ⟨A2,cap2,rfl,hc2,_,_⟩:=id (how.sls (by unfold maxLen;omega))
 clear how
 by_cases hlt:k<t.length
 rotate_left
 ·have HE:=Hd (show zb1 t 0 t []=if st.length=1 then 0 else 4 by rw [HW.out,List.drop_eq_nil_of_le (by omega)];rfl)
  by_cases h1:st.length=1
  ·have b1:((st.length:Int) != 1)=false:=by simp [h1]
   have HE2:=Hd (HE.out.trans (if_pos h1))
   clear h1
   go_wp2
   go_ret
   exact ⟨by rw [HE2.out];rfl,HBW.out⟩
  have b1:((st.length:Int) != 1)=true:=by simp;omega
  have HE2:=Hd (HE.out.trans (if_neg h1))
  clear h1
  go_wp2
  go_ret
  exact ⟨by rw [HE2.out];rfl,HBW.out⟩
 have hy:t[k]?=some t[k]:=List.getElem?_eq_getElem hlt
 obtain ⟨b,o,hA,hb2,r⟩:=(HT.out.below (hbw.mono hB)).get 11 zbq hy
 have HNK:=Hd (HN.out t[k] (List.getElem_mem hlt))
 have HD:=Hd (zig t st hy)
 generalize t[k]=y at *
 rw [zgw t k HNK.out st] at HD
 subst hA
 have HNF:Hid (∀w:World,Calls prog 308 #[.agg #[.int .u8 y.kind,.int .u8 y.vk,.int .i64 y.vn,str y.vt,.int .i64 y.rect.c1,.int .i64 y.rect.r1,.int .i64 y.rect.c2,.int .i64 y.rect.r2,.int .i64 y.op,.int .u8 y.fn,.int .i64 y.n]] w fun u w'=>u=.returned (.int .i64 0)∧Below w.heap.size w w'):=Hd (zsp y HNK.out)
 have HNB:Hid (∀w:World,Calls prog 309 #[.agg #[.int .u8 y.kind,.int .u8 y.vk,.int .i64 y.vn,str y.vt,.int .i64 y.rect.c1,.int .i64 y.rect.r1,.int .i64 y.rect.c2,.int .i64 y.rect.r2,.int .i64 y.op,.int .u8 y.fn,.int .i64 y.n]] w fun u w'=>u=.returned (.int .i64 (zb8 y))∧Below w.heap.size w w'):=Hd (ztb y HNK.out)
 have HFI:=Hd (zy7 HNK.out)
 have rr0:w0.cell? ⟨b,o+k*11,none⟩=some (.int .u8 y.kind):=r 0 _ rfl
 have rr1:w0.cell? ⟨b,o+k*11+1,none⟩=some (.int .u8 y.vk):=r 1 _ rfl
 have rr2:w0.cell? ⟨b,o+k*11+2,none⟩=some (.int .i64 y.vn):=r 2 _ rfl
 have rr3:w0.cell? ⟨b,o+k*11+3,none⟩=some (str y.vt):=r 3 _ rfl
 have rr4:w0.cell? ⟨b,o+k*11+4,none⟩=some (.int .i64 y.rect.c1):=r 4 _ rfl
 have rr5:w0.cell? ⟨b,o+k*11+5,none⟩=some (.int .i64 y.rect.r1):=r 5 _ rfl
 have rr6:w0.cell? ⟨b,o+k*11+6,none⟩=some (.int .i64 y.rect.c2):=r 6 _ rfl
 have rr7:w0.cell? ⟨b,o+k*11+7,none⟩=some (.int .i64 y.rect.r2):=r 7 _ rfl
 have rr8:w0.cell? ⟨b,o+k*11+8,none⟩=some (.int .i64 y.op):=r 8 _ rfl
 have rr9:w0.cell? ⟨b,o+k*11+9,none⟩=some (.int .u8 y.fn):=r 9 _ rfl
 have rr10:w0.cell? ⟨b,o+k*11+10,none⟩=some (.int .i64 y.n):=r 10 _ rfl
 have K0:=Hd (Blk.new w0 297 #[.int .u8 y.kind,.int .u8 y.vk,.int .i64 y.vn,str y.vt,.int .i64 y.rect.c1,.int .i64 y.rect.r1,.int .i64 y.rect.c2,.int .i64 y.rect.r2,.int .i64 y.op,.int .u8 y.fn,.int .i64 y.n])
 have HB0:=Hd (show Below w0.heap.size w0 (w0.alloc (.cells #[.int .u8 y.kind,.int .u8 y.vk,.int .i64 y.vn,str y.vt,.int .i64 y.rect.c1,.int .i64 y.rect.r1,.int .i64 y.rect.c2,.int .i64 y.rect.r2,.int .i64 y.op,.int .u8 y.fn,.int .i64 y.n] 297)) from by go_grown)
 have hi0:(0:Int)≤(k:Int):=Int.natCast_nonneg _
 have hi1:(k:Int)<(t.length:Int):=by omega
 clear hy hbw r
 go_upto_region 5 with (fail)
 obtain ⟨W1,hW1⟩:∃W1,w0.alloc (.cells #[.int .u8 y.kind,.int .u8 y.vk,.int .i64 y.vn,str y.vt,.int .i64 y.rect.c1,.int .i64 y.rect.r1,.int .i64 y.rect.c2,.int .i64 y.rect.r2,.int .i64 y.op,.int .u8 y.fn,.int .i64 y.n] 297)=W1:=⟨_,rfl⟩
 rw [hW1] at K0 HB0 ⊢
 clear hW1 rr0 rr1 rr2 rr3 rr4 rr5 rr6 rr7 rr8 rr9 rr10
 have x1_0:W1.cell? ⟨w0.heap.size,0,none⟩=some (.int .u8 y.kind):=K0.out.cell 0
 have x1_1:W1.cell? ⟨w0.heap.size,1,none⟩=some (.int .u8 y.vk):=K0.out.cell 1
 have x1_2:W1.cell? ⟨w0.heap.size,2,none⟩=some (.int .i64 y.vn):=K0.out.cell 2
 have x1_3:W1.cell? ⟨w0.heap.size,3,none⟩=some (str y.vt):=K0.out.cell 3
 have x1_4:W1.cell? ⟨w0.heap.size,4,none⟩=some (.int .i64 y.rect.c1):=K0.out.cell 4
 have x1_5:W1.cell? ⟨w0.heap.size,5,none⟩=some (.int .i64 y.rect.r1):=K0.out.cell 5
 have x1_6:W1.cell? ⟨w0.heap.size,6,none⟩=some (.int .i64 y.rect.c2):=K0.out.cell 6
 have x1_7:W1.cell? ⟨w0.heap.size,7,none⟩=some (.int .i64 y.rect.r2):=K0.out.cell 7
 have x1_8:W1.cell? ⟨w0.heap.size,8,none⟩=some (.int .i64 y.op):=K0.out.cell 8
 have x1_9:W1.cell? ⟨w0.heap.size,9,none⟩=some (.int .u8 y.fn):=K0.out.cell 9
 have x1_10:W1.cell? ⟨w0.heap.size,10,none⟩=some (.int .i64 y.n):=K0.out.cell 10
 go_wp2_with fail
 refine (HNF.out _).mono ?_
 rintro u w2 ⟨rfl,hb2⟩
 have K2:=Hd (K0.out.below_ hb2)
 have HB2:=Hd (Below.next_ HB0.out hb2)
 clear hb2 x1_0 x1_1 x1_2 x1_3 x1_4 x1_5 x1_6 x1_7 x1_8 x1_9 x1_10
 have x2_0:w2.cell? ⟨w0.heap.size,0,none⟩=some (.int .u8 y.kind):=K2.out.cell 0
 have x2_1:w2.cell? ⟨w0.heap.size,1,none⟩=some (.int .u8 y.vk):=K2.out.cell 1
 have x2_2:w2.cell? ⟨w0.heap.size,2,none⟩=some (.int .i64 y.vn):=K2.out.cell 2
 have x2_3:w2.cell? ⟨w0.heap.size,3,none⟩=some (str y.vt):=K2.out.cell 3
 have x2_4:w2.cell? ⟨w0.heap.size,4,none⟩=some (.int .i64 y.rect.c1):=K2.out.cell 4
 have x2_5:w2.cell? ⟨w0.heap.size,5,none⟩=some (.int .i64 y.rect.r1):=K2.out.cell 5
 have x2_6:w2.cell? ⟨w0.heap.size,6,none⟩=some (.int .i64 y.rect.c2):=K2.out.cell 6
 have x2_7:w2.cell? ⟨w0.heap.size,7,none⟩=some (.int .i64 y.rect.r2):=K2.out.cell 7
 have x2_8:w2.cell? ⟨w0.heap.size,8,none⟩=some (.int .i64 y.op):=K2.out.cell 8
 have x2_9:w2.cell? ⟨w0.heap.size,9,none⟩=some (.int .u8 y.fn):=K2.out.cell 9
 have x2_10:w2.cell? ⟨w0.heap.size,10,none⟩=some (.int .i64 y.n):=K2.out.cell 10
 go_wp2_with fail
 refine (HNB.out _).mono ?_
 rintro u w3 ⟨rfl,hb3⟩
 have K3:=Hd (K2.out.below_ hb3)
 have HB3:=Hd (Below.next_ HB2.out hb3)
 clear hb3 x2_0 x2_1 x2_2 x2_3 x2_4 x2_5 x2_6 x2_7 x2_8 x2_9 x2_10
 have x3_0:w3.cell? ⟨w0.heap.size,0,none⟩=some (.int .u8 y.kind):=K3.out.cell 0
 have x3_1:w3.cell? ⟨w0.heap.size,1,none⟩=some (.int .u8 y.vk):=K3.out.cell 1
 have x3_2:w3.cell? ⟨w0.heap.size,2,none⟩=some (.int .i64 y.vn):=K3.out.cell 2
 have x3_3:w3.cell? ⟨w0.heap.size,3,none⟩=some (str y.vt):=K3.out.cell 3
 have x3_4:w3.cell? ⟨w0.heap.size,4,none⟩=some (.int .i64 y.rect.c1):=K3.out.cell 4
 have x3_5:w3.cell? ⟨w0.heap.size,5,none⟩=some (.int .i64 y.rect.r1):=K3.out.cell 5
 have x3_6:w3.cell? ⟨w0.heap.size,6,none⟩=some (.int .i64 y.rect.c2):=K3.out.cell 6
 have x3_7:w3.cell? ⟨w0.heap.size,7,none⟩=some (.int .i64 y.rect.r2):=K3.out.cell 7
 have x3_8:w3.cell? ⟨w0.heap.size,8,none⟩=some (.int .i64 y.op):=K3.out.cell 8
 have x3_9:w3.cell? ⟨w0.heap.size,9,none⟩=some (.int .u8 y.fn):=K3.out.cell 9
 have x3_10:w3.cell? ⟨w0.heap.size,10,none⟩=some (.int .i64 y.n):=K3.out.cell 10
 generalize hkb:zb8 y=kb at HD ⊢
 clear hkb
 have kb0:(0:Int)≤(kb:Int):=Int.natCast_nonneg _
 by_cases hlb:st.length<kb
 ·have HE:=Hd (show zb1 t 0 t []=4 by rw [HW.out,HD.out,if_pos (.inl hlb)])
  have lb:(st.length:Int)<(kb:Int):=by omega
  clear hlb
  go_upto_region 9 with (fail)
  go_quiet (fail)
  go_wp2
  go_ret
  exact ⟨by rw [HE.out];rfl,Below.drewN_ (Below.next HBW.out HB3.out HBW.out.size) _⟩
 have lb:¬(st.length:Int)<(kb:Int):=by omega
 obtain ⟨m,hm⟩:∃m,st.length=m+kb:=⟨st.length-kb,by omega⟩
 have hmi:(st.length:Int)-(kb:Int)=(m:Int):=by omega
 have hmz:(0:Int)≤(m:Int):=Int.natCast_nonneg _
 have hsu:(st.length:Int)≤2000:=by omega
 have hwm:IntKind.i64.wrap ((st.length:Int)-(kb:Int))=(m:Int):=by rw [IntKind.wrap_i64];omega
 have hdn:decide (st.length<kb)=false:=by rw [decide_eq_false_iff_not];exact hlb
 have hml:(m:Int)≤(st.length:Int):=by omega
 have HMN:=Hd hm
 rw [show st.length-kb=m by omega] at HD
 have hlbn:¬st.length<kb:=hlb
 clear hm hlb
 have HT3:=Hd ((HT.out.below (HBW.out.mono hB)).below (HB3.out.mono (Nat.le_trans hB HBW.out.size)))
 obtain ⟨A3,hA3⟩:∃A3,(if cap2=m then A2 else Option.map (fun x=>x.add (m*3)) A2)=A3:=⟨_,rfl⟩
 have hlm:st.length-m=kb:=by have:=HMN.out;omega
 have hs3:=(Sls.drop zee (HOW.out.sls (by unfold maxLen;have:=hsl;omega)) m (by have:=HMN.out;omega))
 rw [hA3,hlm] at hs3
 have HS3:=Hd hs3
 clear hs3
 have HDR:=Hd (show ∀p∈st.drop m,p.root<t.length from fun p hp=>(HRT.out p (List.mem_of_mem_drop hp)).1)
 have hsl2:(st.drop m).length≤2000:=by rw [List.length_drop];omega
 have LN:=Hd (show ∀W:World,Below w3.heap.size w3 W→W.rangeAt w0.heap.size 0 (cNod y) from fun W h=>(K3.out.below_ h).range (l:=cNod y) (o:=0) (by intro j v hj;rw [Nat.zero_add];exact List.getElem?_toArray.trans hj))
 go_upto_region 9 with (fail)
 refine wp_region_noPanic ?_
 refine wp_region_held_drew (S:=fun W=>Below w3.heap.size w3 W) (by kernel_rfl) (Below.refl _ _).drew (fun hHeld=>?_)
 refine tH 0 ⟨some 28,.move (.tmp 5),320,_,_,none⟩ (.slice A2 st.length cap2) rfl hHeld ?_
 try go_frame
 refine tH 1 ⟨some 29,.call { callee:=.builtin .len,args:=#[.tmp 28],argTypes:=#[320] },3,_,_,none⟩ (.int .i64 st.length) rfl hHeld ?_
 try go_frame
 refine tH 2 ⟨some 30,.move (.tmp 9),3,_,_,none⟩ (.int .i64 kb) rfl hHeld ?_
 try go_frame
 refine tH 3 ⟨some 31,.binOp .lss 3 (.tmp 29) (.tmp 30) 3,4,_,_,none⟩ (.bool false) rfl hHeld ?_
 try go_frame
 refine tH 4 ⟨some 32,.move (.tmp 31),4,_,_,none⟩ (.bool false) rfl hHeld ?_
 try go_frame
 refine tH 5 ⟨some 33,.move (.tmp 0),190,_,_,some (4,false)⟩ (.slice (some ⟨b,o,none⟩) t.length cap) rfl hHeld ?_
 try go_frame
 refine tH 6 ⟨some 34,.load 297 (.tmp 7),297,_,_,some (4,false)⟩ (.agg _) rfl hHeld ?_ (hy:=yieldsIf_load_mid rfl _ _ rfl (w0.heap.size) (0) rfl _ _ LN.out rfl rfl (by kernel_rfl))
 try go_frame
 refine tH 7 ⟨some 35,.move (.tmp 5),320,_,_,some (4,false)⟩ (.slice A2 st.length cap2) rfl hHeld ?_
 try go_frame
 refine tH 8 ⟨some 36,.move (.tmp 5),320,_,_,some (4,false)⟩ (.slice A2 st.length cap2) rfl hHeld ?_
 try go_frame
 refine tH 9 ⟨some 37,.call { callee:=.builtin .len,args:=#[.tmp 36],argTypes:=#[320] },3,_,_,some (4,false)⟩ (.int .i64 st.length) rfl hHeld ?_
 try go_frame
 refine tH 10 ⟨some 38,.move (.tmp 9),3,_,_,some (4,false)⟩ (.int .i64 kb) rfl hHeld ?_
 try go_frame
 refine tH 11 ⟨some 39,.binOp .sub 3 (.tmp 37) (.tmp 38) 3,3,_,_,some (4,false)⟩ (.int .i64 m) rfl hHeld ?_ (hy:=Or.inl ⟨by rfl,by intro W hW;go_simp;rw [IntKind.wrap_i64];omega⟩)
 try go_frame
 refine tH 12 ⟨some 40,.slice 320 (.tmp 35) (some (.tmp 39)) none none,320,_,_,some (4,false)⟩ (.slice A3 kb (cap2-m)) rfl hHeld ?_
 try go_frame
 refine tC 13 ⟨some 41,.call { callee:=.value (.func 310),args:=#[.tmp 33,.tmp 34,.tmp 40],argTypes:=#[190,297,320] },4,_,_,some (4,false)⟩ rfl fun K hK=>?_
 go_simp
 go_at_call 310
 refine (HFI.out _ _ t (st.drop m) w0.heap.size _ (Nat.le_trans HB3.out.size hHeld.size) ((HT3.out.below (hHeld.mono (Nat.le_trans hB (Nat.le_trans HBW.out.size HB3.out.size)))).more (Nat.le_trans hB HBW.out.size)) ((HS3.out.below HB3.out).below (hHeld.mono HB3.out.size)) htl hsl2 HDR.out).mono ?_
 rintro u w4 ⟨rfl,hb4⟩
 refine hK.out _ _ (Below.next hHeld hb4 hHeld.size) (fun hHeld=>?_)
 clear hK K
 try go_frame
 have HB4:=Hd (Below.next_ HB3.out hHeld)
 have K4:=Hd (K3.out.below_ hHeld)
 clear LN x3_0 x3_1 x3_2 x3_3 x3_4 x3_5 x3_6 x3_7 x3_8 x3_9 x3_10
 cases hft:zdt t y 0 (st.drop m) with
 | false=>
  have HE:=Hd (show zb1 t 0 t []=4 by rw [HW.out,HD.out,if_pos (.inr hft)])
  clear hft
  refine tH 14 ⟨some 42,.unOp .not 4 (.tmp 41),4,_,_,some (4,false)⟩ (.bool true) rfl hHeld ?_
  try go_frame
  refine tH 15 ⟨some 43,.pick (.tmp 32) (.const (.bool true)) (.tmp 42),4,_,_,none⟩ (.bool true) rfl hHeld ?_
  try go_frame
  refine wpAnyH_done (by kernel_rfl) ?_ _
  refine NoPanic.normal ?_
  clear hHeld
  go_wp2
  go_ret
  exact ⟨by rw [HE.out];rfl,Below.next HBW.out HB4.out HBW.out.size⟩
 | true=>
 refine tH 14 ⟨some 42,.unOp .not 4 (.tmp 41),4,_,_,some (4,false)⟩ (.bool false) rfl hHeld ?_
 try go_frame
 refine tH 15 ⟨some 43,.pick (.tmp 32) (.const (.bool true)) (.tmp 42),4,_,_,none⟩ (.bool false) rfl hHeld ?_
 try go_frame
 refine wpAnyH_done (by kernel_rfl) ?_ _
 refine NoPanic.normal ?_
 clear hHeld
 have HD2:=Hd (show zb1 t 0 t []=match (if 32<zct (st.drop m) then (.error 9:Except Int (List Part)) else .ok (st.take m++ [⟨k,zct (st.drop m),decide (y.kind=3)⟩])) with
  | .error e=>e
  | .ok st=>zb1 t (k+1) (t.drop (k+1)) st by
  rw [HW.out,HD.out,if_neg (by rw [hft];simpa using hlbn)])
 clear HD HW hft
 have x4_0:w4.cell? ⟨w0.heap.size,0,none⟩=some (.int .u8 y.kind):=K4.out.cell 0
 have hkd:decide (y.kind=3)=(y.kind==3):=rfl
 rw [hkd] at HD2
 obtain ⟨wd,hwd⟩:∃wd,(y.kind==3)=wd:=⟨_,rfl⟩
 rw [hwd] at HD2
 have KP:=Hd (Blk.new w4 325 #[.int .i64 k,.int .i64 1,.bool wd])
 have HB5:=Hd (show Below w0.heap.size w0 (w4.alloc (.cells #[.int .i64 k,.int .i64 1,.bool wd] 325)) from HB4.out.alloc HB4.out.size _)
 have HPB:=Hd (show w0.heap.size≤w4.heap.size from HB4.out.size)
 clear lb hsu hwm
 go_upto_region 12 with (fail)
 obtain ⟨W5,hW5⟩:∃W5,w4.alloc (.cells #[.int .i64 k,.int .i64 1,.bool wd] 325)=W5:=⟨_,rfl⟩
 rw [hW5] at KP HB5
 obtain ⟨pb,hpb⟩:∃pb,w4.heap.size=pb:=⟨_,rfl⟩
 rw [hpb] at KP HPB
 rw [hW5,hpb]
 clear hW5 hpb hwd x4_0 K4 HB4
 have hsu:(st.length:Int)≤2000:=by omega
 have hwi:IntKind.i64.wrap (m:Int)=(m:Int):=by rw [IntKind.wrap_i64];omega
 have HKB:=Hd (show (st.drop m).length=kb by rw [List.length_drop];have:=HMN.out;omega)
 have hkbu:(kb:Int)≤2000:=by have:=HKB.out;omega
 clear hkd
 go_wp2_with fail
 go_loopw [11,56] (fun kv jv w6=>∃(j:Nat) (ks:List Int),j≤kb∧jv=.int .i64 j∧ks.length=j∧Own cInt 3 1 w6 kv ks∧(∀q,kv.ownBlock=some q→pb<q)∧Blk w6 pb 325 #[.int .i64 k,.int .i64 (zct ((st.drop m).take j)),.bool wd]∧Below w0.heap.size w0 w6) (fun _ jv _=>kb-(intOf jv).toNat)
 case atStart=>exact ⟨0,[],by omega,rfl,rfl,Own.nil _ _ _ _,fun q hq=>by simp [Value.ownBlock] at hq,KP.out,HB5.out⟩
 rename World=>w6
 obtain ⟨j,ks,hj,rfl,hkl,hko,hkq,hkp,hb6⟩:=hrel
 have HKO:=Hd hko
 have HKQ:=Hd hkq
 have KP6:=Hd hkp
 have HB6:=Hd hb6
 clear hko hkq hkp
 have hj0:(0:Int)≤(j:Int):=Int.natCast_nonneg _
 have hdb:=zfy ((st.drop m).take j) (fun p hp=>(HRT.out p (List.mem_of_mem_drop (List.mem_of_mem_take hp))).2.2) 1 (by omega) (by omega)
 rw [show ((st.drop m).take j).foldl (fun d x=>max d (x.depth+1)) 1=zct ((st.drop m).take j) from rfl] at hdb
 by_cases hjl:j<kb
 ·have hy:(st.drop m)[j]?=some ((st.drop m)[j]'(by rw [HKB.out];exact hjl)):=List.getElem?_eq_getElem _
  obtain ⟨b3,o3,hA,hb3,r⟩:=(HS3.out.below hb6).get 3 zee hy
  have hxd:=(HRT.out _ (List.mem_of_mem_drop (List.mem_of_getElem? hy))).2
  have HDS:=Hd (zh0 (st.drop m) hy)
  generalize (st.drop m)[j]'(by rw [HKB.out];exact hjl)=x at *
  subst hA
  have q0:w6.cell? ⟨b3,o3+j*3,none⟩=some (.int .i64 x.root):=r 0 _ rfl
  have q1:w6.cell? ⟨b3,o3+j*3+1,none⟩=some (.int .i64 x.depth):=r 1 _ rfl
  have q2:w6.cell? ⟨b3,o3+j*3+2,none⟩=some (.bool x.wide):=r 2 _ rfl
  generalize zct ((st.drop m).take j)=d at *
  have hjlt:(j:Int)<(kb:Int):=by omega
  have hd1:1≤d:=hdb.1
  have hd2:d≤33:=hdb.2
  have hx1:1≤x.depth:=hxd.1
  have hx2:x.depth≤32:=hxd.2
  have hmx:∀x y:Int,(if x<y then y else x)=max x y:=fun x y=>by rw [Int.max_def];split <;> split <;> omega
  have HLT6:=Hd (show pb<w6.heap.size from KP6.out.lt)
  have p1:(w6.alloc (.cells #[.int .i64 x.root,.int .i64 x.depth,.bool x.wide] 325)).cell? ⟨pb,1,none⟩=some (.int .i64 d):=(KP6.out.alloc _).cell 1
  have pf:=(KP6.out.alloc (.cells #[.int .i64 x.root,.int .i64 x.depth,.bool x.wide] 325)).frozen 1
  clear r hy hdb hxd hb6
  go_upto_region 17 with (fail)
  have KP7:=Hd (show Blk ((w6.alloc (.cells #[.int .i64 x.root,.int .i64 x.depth,.bool x.wide] 325)).setCell ⟨pb,1,none⟩ (.int .i64 (max d (x.depth+1)))) pb 325 #[.int .i64 k,.int .i64 (max d (x.depth+1)),.bool wd] from (KP6.out.alloc _).set_ 1 _)
  have KX7:=Hd (show Blk ((w6.alloc (.cells #[.int .i64 x.root,.int .i64 x.depth,.bool x.wide] 325)).setCell ⟨pb,1,none⟩ (.int .i64 (max d (x.depth+1)))) w6.heap.size 325 #[.int .i64 x.root,.int .i64 x.depth,.bool x.wide] from (Blk.new _ _ _).far (by have:=HLT6.out;show w6.heap.size≠pb;omega) _)
  have HC7:=Hd (show Chg (fun q=>q=pb) (w6.alloc (.cells #[.int .i64 x.root,.int .i64 x.depth,.bool x.wide] 325)) ((w6.alloc (.cells #[.int .i64 x.root,.int .i64 x.depth,.bool x.wide] 325)).setCell ⟨pb,1,none⟩ (.int .i64 (max d (x.depth+1)))) from (Chg.refl (fun q=>q=pb) _).setCell (p:=⟨pb,1,none⟩) (.inl rfl) _)
  have HKO7:=Hd ((HKO.out.alloc (.cells #[.int .i64 x.root,.int .i64 x.depth,.bool x.wide] 325)).chg HC7.out (fun q hq e=>by have:=HKQ.out q hq;omega))
  have HB7:=Hd (Below.trans (HB6.out.alloc HB6.out.size (.cells #[.int .i64 x.root,.int .i64 x.depth,.bool x.wide] 325)) (HC7.out.to_below (B:=w0.heap.size) (by have:=HB6.out.size;simp;omega) (fun q hq e=>by have:=HPB.out;omega)))
  clear HC7 p1 pf q0 q1 q2
  obtain ⟨W7,hW7⟩:∃W7,(w6.alloc (.cells #[.int .i64 x.root,.int .i64 x.depth,.bool x.wide] 325)).setCell ⟨pb,1,none⟩ (.int .i64 (max d (x.depth+1)))=W7:=⟨_,rfl⟩
  rw [hW7] at KP7 KX7 HKO7 HB7 ⊢
  have HS67:=Hd (show w6.heap.size<W7.heap.size from KX7.out.lt)
  clear hW7 HKO KP6
  have z0:W7.cell? ⟨w6.heap.size,0,none⟩=some (.int .i64 x.root):=KX7.out.cell 0
  go_wp2_with (at_builtin;refine RowKit.Hid.out ?_)
  refine Hd ?_
  refine zbo cInt rfl _ _ 182 rfl 3 ii _ 1 8 underlying182 ii0 ii1 ii2 ii3 rfl (by omega) u11 ks rfl (HKO7.out.alloc _) _ _ [(x.root:Int)] rfl (Sls.one (x:=(x.root:Int)) (Blk.new _ _ _) rfl) zwm zwl (by simp;omega) (by omega) ?_
  intro v8 w8 o8 t8
  have KP8:=Hd ((KP7.out.alloc _).outTo t8 (fun e=>by have:=HKQ.out _ e;omega))
  have HB8:=Hd (Below.trans (HB7.out.alloc HB7.out.size _) (t8.old (B:=w0.heap.size) (by have:=HB7.out.size;simp;omega) (fun q hq=>by have:=HKQ.out q hq;have:=HPB.out;omega)))
  have HQ8:=Hd (show ∀q,v8.ownBlock=some q→pb<q from fun q hq=>by
   rcases t8.own q hq with e | e
   ·exact HKQ.out q e
   have:=HS67.out
   have:=HLT6.out
   simp at e
   omega)
  have O8:=Hd o8
  clear o8 t8 z0
  go_wp2
  exact ⟨⟨j+1,ks++ [(x.root:Int)],by omega,by go_num,by simp;omega,O8.out,HQ8.out,by rw [HDS.out];exact KP8.out,HB8.out⟩,by simp [intOf];omega⟩
 obtain rfl:j=kb:=by omega
 have HTK:=Hd (show (st.drop m).take j=st.drop m by rw [List.take_of_length_le (by rw [HKB.out];exact Nat.le_refl _)])
 rw [HTK.out] at KP6 hdb
 have HOS:=Hd (HOW.out.below HB6.out)
 have HRN:=Hd (show ∀q,(Value.slice A2 st.length cap2).ownBlock=some q→q<w0.heap.size from fun q hq=>HOW.out.lt q hq)
 generalize hdd:zct (st.drop m)=d at *
 clear hdd
 have p0:w6.cell? ⟨pb,0,none⟩=some (.int .i64 k):=KP6.out.cell 0
 have p1:w6.cell? ⟨pb,1,none⟩=some (.int .i64 d):=KP6.out.cell 1
 have p2:w6.cell? ⟨pb,2,none⟩=some (.bool wd):=KP6.out.cell 2
 by_cases hd32:32<d
 ·have HE:=Hd (show zb1 t 0 t []=9 by rw [HD2.out,if_pos hd32])
  go_wp2
  go_ret
  exact ⟨by rw [HE.out];rfl,Below.next HBW.out HB6.out HBW.out.size⟩
 have HE:=Hd (show zb1 t 0 t []=zb1 t (k+1) (t.drop (k+1)) (st.take m++ [⟨k,d,wd⟩]) by rw [HD2.out,if_neg hd32])
 have hd32':¬32<d:=hd32
 clear HD2 hd32
 have hmc:(m:Int)≤(cap2:Int):=by omega
 have ha0:=add_zero A2
 have HOT:=Hd (Own.head zee HOS.out (j:=m) (by have:=HMN.out;omega))
 have KP7:=Hd (KP6.out.alloc (.cells (zfe ⟨k,d,wd⟩).toArray 325)).drew
 have KN7:=Hd (show Blk (w6.alloc (.cells (zfe ⟨k,d,wd⟩).toArray 325)).drew w6.heap.size 325 (zfe ⟨k,d,wd⟩).toArray from (Blk.new w6 325 (zfe ⟨k,d,wd⟩).toArray).drew)
 have HO7:=Hd (show Own zfe 325 3 (w6.alloc (.cells (zfe ⟨k,d,wd⟩).toArray 325)).drew (.slice A2 m cap2) (st.take m) from (HOT.out.alloc _).drew)
 have HB7:=Hd (show Below w.heap.size w (w6.alloc (.cells (zfe ⟨k,d,wd⟩).toArray 325)).drew from ((Below.next HBW.out HB6.out HBW.out.size).alloc (by have:=HBW.out.size;have:=HB6.out.size;omega) _).drew)
 have HS67:=Hd (show w0.heap.size≤w6.heap.size from HB6.out.size)
 go_upto_region 21 with (fail)
 clear p0 p1 p2
 refine wp_region_noPanic ?_
 refine za8 (fun W'=>Blk W' pb 325 #[.int .i64 k,.int .i64 d,.bool wd]) 9 (by kernel_rfl) ?_
 have hHeld:(fun W'=>Blk W' pb 325 #[.int .i64 k,.int .i64 d,.bool wd]) _:=KP6.out.drew
 refine tU 0 ⟨some 76,.move (.tmp 5),_,_,_,none⟩ (.slice A2 st.length cap2) rfl (fun _=>hHeld) ?_
 try go_frame
 refine tU 1 ⟨some 77,.move (.tmp 5),_,_,_,none⟩ (.slice A2 st.length cap2) rfl (fun _=>hHeld) ?_
 try go_frame
 refine tU 2 ⟨some 78,.call { callee:=.builtin .len,args:=#[.tmp 77],argTypes:=#[320] },_,_,_,none⟩ (.int .i64 st.length) rfl (fun _=>hHeld) ?_
 try go_frame
 refine tU 3 ⟨some 79,.move (.tmp 9),_,_,_,none⟩ (.int .i64 j) rfl (fun _=>hHeld) ?_
 try go_frame
 refine tU 4 ⟨some 80,.binOp .sub 3 (.tmp 78) (.tmp 79) 3,_,_,_,none⟩ (.int .i64 m) rfl (fun _=>hHeld) ?_
 try go_frame
 refine tU 5 ⟨some 81,.slice 320 (.tmp 76) none (some (.tmp 80)) none,_,_,_,none⟩ (.slice A2 m cap2) rfl (fun _=>hHeld) ?_
 try go_frame
 refine tV 6 ⟨some 82,.load 325 (.tmp 10),325,_,_,none⟩ (.agg _) rfl hHeld (yieldsIf_load_mid rfl _ _ rfl (pb) (0) rfl _ _ (fun W' h=>h.range (l:=zfe ⟨k,d,wd⟩) (o:=0) (by intro j v hj;rw [Nat.zero_add];exact List.getElem?_toArray.trans hj)) rfl rfl (by kernel_rfl)) ?_
 try go_frame
 refine zai 7 (o:=⟨some 83,.buildSlice 320 1 #[(0,.tmp 82)],320,_,_,none⟩) (by kernel_rfl) rfl rfl (fun K hK=>?_)
 go_simp
 refine hK.out _ _ (fun _=>KP7.out) ?_
 have hHeld:(fun W'=>Blk W' pb 325 #[.int .i64 k,.int .i64 d,.bool wd]) _:=KP7.out
 clear hK K
 try go_frame
 obtain ⟨r9,w9,hr9,o9,t9⟩:=zdh (P:=prog) _ zfe 320 320 325 ip _ 3 24 underlying320 ip0 ip1 ip2 ip3 rfl (by omega) (.slice A2 m cap2) (st.take m) HO7.out _ _ [(⟨k,d,wd⟩:Part)] (Sls.one (x:=(⟨k,d,wd⟩:Part)) KN7.out rfl) zee zs7 (by simp;omega) (by omega)
 have hB9:=KP7.out.outTo t9 (fun e=>by have h1:=HRN.out pb (by rw [zmd A2 st.length m];exact e);have:=HPB.out;omega)
 refine zai 8 (o:=⟨some 84,.call { callee:=.builtin .append,args:=#[.tmp 81,.tmp 83],argTypes:=#[320,320] },320,_,_,none⟩) (by kernel_rfl) rfl rfl (fun K hK=>?_)
 refine zbk (.tmp 81) (.tmp 83) _ _ rfl _ _ _ _ rfl rfl hr9 ?_
 refine hK.out _ _ (fun _=>hB9) ?_
 have hHeld:(fun W'=>Blk W' pb 325 #[.int .i64 k,.int .i64 d,.bool wd]) _:=hB9
 clear hK K
 try go_frame
 refine zai 9 (o:=⟨some 5,.assign (.tmp 84),320,_,_,none⟩) (by kernel_rfl) rfl rfl (fun K hK=>?_)
 go_simp
 refine hK.out _ _ (fun h=>absurd h (by decide)) ?_
 clear hK K
 try go_frame
 refine za9 (by kernel_rfl) ?_
 refine NoPanic.normal ?_
 have HB9:=Hd (Below.trans HB7.out (t9.old (B:=w.heap.size) HB7.out.size (fun q hq=>HOB.out q (by rw [zmd A2 st.length m];exact hq))))
 have HQ9:=Hd (show ∀q,r9.ownBlock=some q→w.heap.size≤q from t9.newer HB7.out.size (fun q hq=>HOB.out q (by rw [zmd A2 st.length m];exact hq)))
 have O9:=Hd o9
 have p1:w9.cell? ⟨pb,1,none⟩=some (.int .i64 d):=hB9.cell 1
 have HR9:=Hd (show ∀p∈st.take m++ [(⟨k,d,wd⟩:Part)],p.root<t.length∧1≤p.depth∧p.depth≤32 from fun p hp=>by
  rcases List.mem_append.1 hp with hp | hp
  ·exact HRT.out p (List.mem_of_mem_take hp)
  rw [List.mem_singleton] at hp
  subst hp
  exact ⟨hlt,hdb.1,by show d≤32;omega⟩)
 clear hHeld hB9 o9 t9 hr9
 go_wp2_with fail
 refine (zkn _ _ _ _).mono ?_
 rintro u w10 ⟨rfl,rfl⟩
 go_wp2
 exact ⟨⟨k+1,st.take m++ [⟨k,d,wd⟩],by omega,by go_num,O9.out,HQ9.out,HB9.out,HE.out,by simp;omega,HR9.out⟩,by simp [intOf];omega⟩
end Go.Proofs.YtamcgggmfghljaaGreatDoor
