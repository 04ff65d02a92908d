/- walk -/
import Derived.Test.YtamcgggmfghljaaGreatDoorE17
set_option maxRecDepth 100000
set_option maxHeartbeats 8000000
open Go.Proofs.Tryz
namespace Go.Proofs.YtamcgggmfghljaaGreatDoor
open Go.RowKit
variable {B b cap g i j k n o:Nat} {p x:Part} {α:Type} {e:TypeId} {W w:World}
def zgv (p:Part):List Value:=[.int .i64 p.root,.int .i64 p.depth,.bool p.wide]
theorem zfe (p:Part):(zgv p).length=3:=rfl
theorem zk9 (t:List Nod) (n:Nod) {l:List Part} (h:l[k]?=some p):zej t n k (l.drop k)=
 if (p.wide&&!(decide (n.kind=7)&&(zcm n.fn k).1))=true then false
 else if (decide (n.kind=7)&&relB n.fn&&decide (((t.getD p.root (nod0 0)).kind)≠2)&&decide (((t.getD p.root (nod0 0)).kind)≠3))=true then false
 else zej t n (k+1) (l.drop (k+1)):=by
 have hk:=(jE.1 h).1;rw[jo hk];have:l[k]=p:=by rw[jz hk] at h;simpa using h
 rw[this];rfl
theorem zwn {t:List Nod} (h:Sls cNod W B (.slice (some (b,o)) n cap) t) (hi:i<t.length):W.cell? (b,o+i*11)=some (.int .u8 ((t.getD i (nod0 0)).kind)):=by
 have hx:=jz (l:=t) hi;obtain ⟨b',o',e1,_,hr⟩:=Sls.get h 11 zbx hx;injection e1 with e1
 injection e1 with e1 e2
 subst e1 e2;rw[jL,hx];exact hr 0 _ rfl
theorem ztr (x:Nod) (hk7:x.kind≠7) (tv lv:Value) (t:List Nod) (l:List Part) (B:Nat) (w:World) (hB:B<=w.heap.size) (ht:Sls cNod w B tv t) (hl:Sls zgv w B lv l) (htl:t.length<=2000) (hll:l.length<=2000) (hr:∀p∈l,p.root<t.length):
 Calls prog 310 #[tv,.agg (cNod x).toArray,lv] w λu w'=>u=.returned (.bool (zej t x 0 l))/\Below w w w':=by
 obtain ⟨A,cap,rfl,hc1,hm1,ha1⟩:=id ht;obtain ⟨A2,cap2,rfl,hc2,hm2,ha2⟩:=id hl;have HT:=Hd ht;have HL:=Hd hl;have HRT:=Hd hr;clear ht hl hr ha1 ha2;unfold maxLen at hm1 hm2;have b7:(x.kind==7)=false:=by simpa using hk7
 rw[show (cNod x).toArray=#[.int .u8 x.kind,.int .u8 x.vk,.int .i64 x.vn,str x.vt,.int .i64 x.rect.c1,.int .i64 x.rect.r1,.int .i64 x.rect.c2,.int .i64 x.rect.r2,.int .i64 x.op,.int .u8 x.fn,.int .i64 x.n] from rfl];have K0:=Hd (je w 297 x);have HB0:=jM (Below w w (w.alloc (.cells x 297))) (by go_grown);go_enter func310,ntmps310;go_upto_region 1 with (fail)
 obtain ⟨W1,hW1⟩:=jN (w.alloc (.cells x 297));rw[hW1] at K0 HB0 ⊢;clear hW1;go_wp2_with fail;go_loopw [13] (λi wr=>∃k:Nat,k<=l.length/\i=.int .i64 k/\Below w w wr/\Blk wr w 297 x/\zej t x 0 l=zej t x k (l.drop k)) (λi _=>l.length-(intOf i).toNat)
 case atStart=>exact ⟨0,by omega,rfl,HB0.o,K0.o,by simp⟩
 obtain ⟨k,hk,rfl,hbw,hkw,hfe⟩:=hrel;have HF:=Hd hfe;have HBW:=Hd hbw;have KW:=Hd hkw;clear hfe hkw;by_cases hlt:k<l.length;rotate_left
 ·go_wp2;go_ret;refine ⟨?_,HBW.o⟩;rw[HF.o,jm (by omega)];rfl
 have hy:l[k]?=some l[k]:=jz hlt;obtain ⟨b,o,hA,hb2,r⟩:=(HL.o.below (hbw.mono hB)).get 3 zfe hy;have HD:=Hd (zk9 t x hy);have hrt:=HRT.o l[k] (jj hlt);generalize l[k]=y at *;subst hA;obtain ⟨tb,to_,rfl,htb⟩:∃tb to_,A=some ⟨tb,to_,none⟩/\tb<B:=by
  obtain ⟨_,_,e0,_,_,h2⟩:=HT.o;injection e0 with e0 e1 e2
  obtain ⟨b,o,e3,h4,_⟩:=h2 (by omega);exact ⟨b,o,e0.trans e3,h4⟩
 have HTW:=Hd (HT.o.below (hbw.mono hB));have r0:wr.cell? (b,o+k*3)=some (.int .i64 y.root):=r 0 _ rfl;have r1:wr.cell? (b,o+k*3+1)=some (.int .i64 y.depth):=r 1 _ rfl;have r2:wr.cell? (b,o+k*3+2)=some (.bool y.wide):=r 2 _ rfl;obtain ⟨x0,x9⟩:=KW.o.c2 0 9;have hkd:=zwn HTW.o hrt;have hlw:=KW.o.lt;have htbw:tb<wr.heap.size:=by have:=HBW.o.size;omega
 have hi0:(0:Int)<=(k:Int):=jw _;have hi1:(k:Int)<(l.length:Int):=by omega
 have hr0:(0:Int)<=(y.root:Int):=jw _;have hr1:(y.root:Int)<(t.length:Int):=by omega
 clear r hy hbw;generalize (t.getD y.root (nod0 0)).kind=kd at HD hkd;have HB2:=jM (Below w w (wr.alloc (.cells #[.int .i64 y.root,.int .i64 y.depth,.bool y.wide] 325))) (HBW.o.alloc HBW.o.size _);have KN:=Hd (KW.o.alloc (.cells #[.int .i64 y.root,.int .i64 y.depth,.bool y.wide] 325));rw[jA hk7] at HD;cases hw:y.wide;rotate_left
 ·have HD3:=Hd (HD.o.trans (jb (by rw[hw];rfl)));rw[hw] at r2 HB2 KN;go_wp2;go_ret;exact ⟨by rw[HF.o,HD3.o];rfl,HB2.o⟩
 have HD3:=Hd (HD.o.trans ((ja (by rw[hw];simp)).trans (ja (by simp))));rw[hw] at r2 HB2 KN;go_wp2;exact ⟨⟨k+1,by omega,by go_num,HB2.o,KN.o,by rw[HF.o,HD3.o]⟩,by simp[intOf];omega⟩
theorem zwz (fn m:Nat) (h1:1<=fn) (h2:fn<=50) (tv lv:Value) (t:List Nod) (l:List Part) (B:Nat) (w:World) (hB:B<=w.heap.size) (ht:Sls cNod w B tv t) (hl:Sls zgv w B lv l) (htl:t.length<=2000) (hll:l.length<=2000) (hr:∀p∈l,p.root<t.length):
 Calls prog 310 #[tv,.agg (cNod ({ nod0 7 with fn:=fn,n:=m }:Nod)).toArray,lv] w λu w'=>u=.returned (.bool (zej t ({ nod0 7 with fn:=fn,n:=m }:Nod) 0 l))/\Below w w w':=by
 obtain ⟨A,cap,rfl,hc1,hm1,ha1⟩:=id ht;obtain ⟨A2,cap2,rfl,hc2,hm2,ha2⟩:=id hl;have HT:=Hd ht;have HL:=Hd hl;have HRT:=Hd hr;clear ht hl hr ha1 ha2;unfold maxLen at hm1 hm2;have HWI:=Hd (λi hi W=>zm4 fn i h1 h2 hi W);have HRE:=Hd (λW=>zhb fn W);rw[show (cNod ({ nod0 7 with fn:=fn,n:=m }:Nod)).toArray=#[.int .u8 7,.int .u8 0,.int .i64 0,str [],.int .i64 0,.int .i64 0,.int .i64 0,.int .i64 0,.int .i64 0,.int .u8 fn,.int .i64 m] from rfl];have K0:=Hd (je w 297 (aF fn m));have HB0:=jM (Below w w (w.alloc (.cells (aF fn m) 297))) (by go_grown);go_enter func310,ntmps310;go_upto_region 1 with (fail)
 obtain ⟨W1,hW1⟩:=jN (w.alloc (.cells (aF fn m) 297));rw[hW1] at K0 HB0 ⊢;clear hW1;go_wp2_with fail;go_loopw [13] (λi wr=>∃k:Nat,k<=l.length/\i=.int .i64 k/\Below w w wr/\Blk wr w 297 (aF fn m)/\zej t ({ nod0 7 with fn:=fn,n:=m }:Nod) 0 l=zej t ({ nod0 7 with fn:=fn,n:=m }:Nod) k (l.drop k)) (λi _=>l.length-(intOf i).toNat)
 case atStart=>exact ⟨0,by omega,rfl,HB0.o,K0.o,by simp⟩
 obtain ⟨k,hk,rfl,hbw,hkw,hfe⟩:=hrel;have HF:=Hd hfe;have HBW:=Hd hbw;have KW:=Hd hkw;clear hfe hkw;by_cases hlt:k<l.length;rotate_left
 ·go_wp2;go_ret;refine ⟨?_,HBW.o⟩;rw[HF.o,jm (by omega)];rfl
 have hy:l[k]?=some l[k]:=jz hlt;obtain ⟨b,o,hA,hb2,r⟩:=(HL.o.below (hbw.mono hB)).get 3 zfe hy;have HD:=Hd (zk9 t ({ nod0 7 with fn:=fn,n:=m }:Nod) hy);have hrt:=HRT.o l[k] (jj hlt);generalize l[k]=y at *;subst hA;obtain ⟨tb,to_,rfl,htb⟩:∃tb to_,A=some ⟨tb,to_,none⟩/\tb<B:=by
  obtain ⟨_,_,e0,_,_,h2⟩:=HT.o;injection e0 with e0 e1 e2
  obtain ⟨b,o,e3,h4,_⟩:=h2 (by omega);exact ⟨b,o,e0.trans e3,h4⟩
 have HTW:=Hd (HT.o.below (hbw.mono hB));have r0:wr.cell? (b,o+k*3)=some (.int .i64 y.root):=r 0 _ rfl;have r1:wr.cell? (b,o+k*3+1)=some (.int .i64 y.depth):=r 1 _ rfl;have r2:wr.cell? (b,o+k*3+2)=some (.bool y.wide):=r 2 _ rfl;obtain ⟨x0,x9⟩:=KW.o.c2 0 9;have hkd:=zwn HTW.o hrt;have hlw:=KW.o.lt;have htbw:tb<wr.heap.size:=by have:=HBW.o.size;omega
 have hi0:(0:Int)<=(k:Int):=jw _;have hi1:(k:Int)<(l.length:Int):=by omega
 have hr0:(0:Int)<=(y.root:Int):=jw _;have hr1:(y.root:Int)<(t.length:Int):=by omega
 clear r hy hbw;generalize (t.getD y.root (nod0 0)).kind=kd at HD hkd;have HB2:=jM (Below w w (wr.alloc (.cells #[.int .i64 y.root,.int .i64 y.depth,.bool y.wide] 325))) (HBW.o.alloc HBW.o.size _);have KN:=Hd (KW.o.alloc (.cells #[.int .i64 y.root,.int .i64 y.depth,.bool y.wide] 325));have HD2:Hid (zej t ({ nod0 7 with fn:=fn,n:=m }:Nod) k (l.drop k)=if (y.wide&&!(zcm fn k).1)=true then false else if (relB fn&&decide (kd≠2)&&decide (kd≠3))=true then false else zej t ({ nod0 7 with fn:=fn,n:=m }:Nod) (k+1) (l.drop (k+1))):=HD;clear HD;go_wp2_with fail;refine (HWI.o k (by omega) _).mono ?_;rintro u w3 ⟨rfl,rfl⟩;generalize zcm fn k=wd at HD2 ⊢;obtain ⟨wb,we⟩:=wd;simp only at HD2 ⊢;cases hw:y.wide;rotate_left
 ·rw[hw] at r2 HB2 KN;cases wb
  ·have HD3:=Hd (HD2.o.trans (jb (by rw[hw];rfl)));go_wp2;go_ret;exact ⟨by rw[HF.o,HD3.o];rfl,HB2.o⟩
  have HD3:=Hd (HD2.o.trans (ja (by simp)));clear HD2;go_wp2_with fail;refine (HRE.o _).mono ?_;rintro u w4 ⟨rfl,rfl⟩;cases hrel:relB fn
  ·have HD3:=Hd (HD3.o.trans (ja (by rw[hrel];simp)));go_wp2;exact ⟨⟨k+1,by omega,by go_num,HB2.o,KN.o,by rw[HF.o,HD3.o]⟩,by simp[intOf];omega⟩
  by_cases k2:kd=2
  ·have b2:(kd != 2)=false:=by simpa using k2
   have HD3:=Hd (HD3.o.trans (ja (by simp[k2])));go_wp2;exact ⟨⟨k+1,by omega,by go_num,HB2.o,KN.o,by rw[HF.o,HD3.o]⟩,by simp[intOf];omega⟩
  have b2:(kd != 2)=true:=by simpa using k2
  by_cases k3:kd=3
  ·have b3:(kd != 3)=false:=by simpa using k3
   have HD3:=Hd (HD3.o.trans (ja (by simp[k3])));go_wp2;exact ⟨⟨k+1,by omega,by go_num,HB2.o,KN.o,by rw[HF.o,HD3.o]⟩,by simp[intOf];omega⟩
  have b3:(kd != 3)=true:=by simpa using k3
  have HD3:=Hd (HD3.o.trans (jb (by rw[hrel];simp[k2,k3])));go_wp2;go_ret;exact ⟨by rw[HF.o,HD3.o];rfl,HB2.o⟩
 rw[hw] at r2 HB2 KN;have HD3:=Hd (HD2.o.trans (ja (by rw[hw];simp)));clear HD2;go_wp2_with fail;refine (HRE.o _).mono ?_;rintro u w4 ⟨rfl,rfl⟩;cases hrel:relB fn
 ·have HD3:=Hd (HD3.o.trans (ja (by rw[hrel];simp)));go_wp2;exact ⟨⟨k+1,by omega,by go_num,HB2.o,KN.o,by rw[HF.o,HD3.o]⟩,by simp[intOf];omega⟩
 by_cases k2:kd=2
 ·have b2:(kd != 2)=false:=by simpa using k2
  have HD3:=Hd (HD3.o.trans (ja (by simp[k2])));go_wp2;exact ⟨⟨k+1,by omega,by go_num,HB2.o,KN.o,by rw[HF.o,HD3.o]⟩,by simp[intOf];omega⟩
 have b2:(kd != 2)=true:=by simpa using k2
 by_cases k3:kd=3
 ·have b3:(kd != 3)=false:=by simpa using k3
  have HD3:=Hd (HD3.o.trans (ja (by simp[k3])));go_wp2;exact ⟨⟨k+1,by omega,by go_num,HB2.o,KN.o,by rw[HF.o,HD3.o]⟩,by simp[intOf];omega⟩
 have b3:(kd != 3)=true:=by simpa using k3
 have HD3:=Hd (HD3.o.trans (jb (by rw[hrel];simp[k2,k3])));go_wp2;go_ret;exact ⟨by rw[HF.o,HD3.o];rfl,HB2.o⟩
theorem zm5 (a b c:Value) (w:World):Calls prog 253 #[a,b,c] w λu w'=>u=.returned (.tuple #[])/\w=w':=by
 go_enter func253,ntmps253;go_wp2;refine bE ?_;exact ⟨rfl,rfl⟩
theorem zkk (t:List Nod) {n:Nod} (st:List Part) (h:t[k]?=some n):zcc t k (t.drop k) st=match zij t k n st with
 | .error e=>e
 | .ok st=>zcc t (k+1) (t.drop (k+1)) st:=by
 have hk:=(jE.1 h).1;rw[jo hk];have:t[k]=n:=by rw[jz hk] at h;simpa using h
 rw[this];rfl
theorem zha {x:zaa} (h:txtE x=0):x.length<=256/\pltB x=true:=by
 unfold txtE at h;split at h
 ·simp at h
 split at h
 ·rename_i h1 h2;refine ⟨by omega,?_⟩;unfold prB at h2;unfold pltB;simpa using h2
 simp at h
theorem zps {n:Nod} (h:NodOk n):zdn n=0:=by
 cases h with
 | num v h=>simp[zdn,zjp,zi4,nod0,valE];omega
 | text x h=>simp[zdn,zjp,zi4,nod0,valE,(zha h).1,(zha h).2]
 | bool v h=>rcases h with rfl|rfl <;> simp[zdn,zjp,zi4,nod0,valE]
 | err v h1 h2=>simp[zdn,zjp,zi4,nod0,valE];omega
 | ref r h1 h2=>simp[zdn,zjp,zi4,nod0,h1,h2]
 | range r h1 h2=>simp[zdn,zjp,zi4,nod0,h1,h2]
 | neg=>simp[zdn,zjp,zi4,nod0]
 | pct=>simp[zdn,zjp,zi4,nod0]
 | binary v h1 h2=>simp[zdn,zjp,zi4,nod0,h1,h2]
 | call fn n h1 h2 h3 h4=>have ha:=zi1 fn h1 h2;simp[zdn,zjp,zi4,nod0,ha];omega
theorem ziu (t:List Nod) (i:Nat) {n:Nod} (h:NodOk n) (st:List Part):zij t i n st=
 if st.length<zcl n\/zej t n 0 (st.drop (st.length-zcl n))=false then .error 4
 else if 32<zdd (st.drop (st.length-zcl n)) then .error 9
 else .ok (st.take (st.length-zcl n)++ [⟨i,zdd (st.drop (st.length-zcl n)),decide (n.kind=3)⟩]):=by
 unfold zij;rw[zps h,ja (by simp),z0u n h,Int.toNat_natCast];have e:((st.length:Int)<(zcl n:Int))↔st.length<zcl n:=by omega
 simp only[e]
theorem Own.take {c:α->List Value} {l:List α} (hk:∀x,(c x).length=k) (h:Own c e k w (.slice (some (g,0)) n cap) l) (hj:j<=l.length):Own c e k w (.slice (some (g,0)) j cap) (l.take j):=by
 obtain ⟨hx,h2⟩:=h;have e1:(l.take j).length=j:=by simp;omega
 have e2:(l.take j).flatMap c=(l.flatMap c).take (j*k):=(zoh hk l j).symm;unfold Own;rw[e1,e2];rcases h2 with ⟨h0,_⟩ | ⟨g',cap',cur,hv,hg,hh,hn,hcap,hsz,htake⟩
 ·cases h0
 cases hv;refine ⟨by rw[List.length_take,hx,Nat.min_eq_left (Nat.mul_le_mul_right _ hj)],.inr ⟨g,cap,cur,rfl,hg,hh,by omega,hcap,hsz,?_⟩⟩;rw[<- htake,List.take_take,Nat.min_eq_left (Nat.mul_le_mul_right _ hj)]
theorem Sls.drop {c:α->List Value} {A:Option Addr} {l:List α} (hk:∀x,(c x).length=k) (h:Sls c w B (.slice A n cap) l) (m:Nat) (hm:m<=n):Sls c w B (.slice (if cap=m then A else A.map (·.add (m*k))) (n-m) (cap-m)) (l.drop m):=by
 obtain ⟨A',cap',e,h1,h2,h3⟩:=h;injection e with e1 e2 e3
 subst e1 e2 e3;refine ⟨_,_,by rw[jp],by rw[jp];omega,by rw[jp];omega,λhp=>?_⟩;rw[jp] at hp;obtain ⟨b,o,rfl,hb,hr⟩:=h3 (by omega);refine ⟨b,o+m*k,?_,hb,?_⟩
 ·rw[jS];simp[Addr.add]
 rw[<- zoi hk l m];intro j v hj;rw[List.getElem?_drop] at hj;have:=hr (m*k+j) v hj
 rwa [<- Nat.add_assoc] at this
theorem Own.head {c:α->List Value} {A:Option Addr} {l:List α} (hk:∀x,(c x).length=k) (h:Own c e k w (.slice A n cap) l) (hj:j<=l.length):Own c e k w (.slice A j cap) (l.take j):=by
 rcases id h.2 with ⟨hv,he⟩ | ⟨g,cap',cur,hv,_⟩
 ·injection hv with h1 h2 h3
  subst h1 h3;have hl:l.length=0:=he;obtain rfl:j=0:=by omega
  rw[List.take_zero];exact Own.nil _ _ _ _
 injection hv with h1 h2 h3
 subst h1;exact Own.take hk h hj
theorem add_zero (A:Option Addr):Option.map (λx:Addr=>x.add 0) A=A:=by
 cases A with
 | none=>rfl
 | some a=>obtain ⟨b,o,q⟩:=a;cases q <;> simp[Addr.add]
def cInt (x:Int):List Value:=[.int .i64 x]
theorem z0q (x:Int):(cInt x).length=1:=rfl
theorem z0p (x:Int):∀u∈cInt x,u.oneCell'=true:=by
 intro u hu;simp only[cInt,List.mem_cons,List.not_mem_nil,or_false] at hu;subst hu;rfl
theorem zxe (x:Part):∀u∈zgv x,u.oneCell'=true:=by
 intro u hu;simp only[zgv,List.mem_cons,List.not_mem_nil,or_false] at hu;rcases hu with rfl|rfl|rfl <;> rfl
theorem zwo:∃i,prog.info? 325=some i/\i.zero=some (.agg #[.int .i64 0,.int .i64 0,.bool false])/\i.size=3/\i.bytes=24:=
 info_parts (show (prog.info? 325).map (λi=>(i.zero,i.size,i.bytes))=some (some (.agg #[.int .i64 0,.int .i64 0,.bool false]),3,24) by kernel_rfl)
theorem z0b:∃i,prog.info? 3=some i/\i.zero=some (.int .i64 0)/\i.size=1/\i.bytes=8:=
 info_parts (show (prog.info? 3).map (λi=>(i.zero,i.size,i.bytes))=some (some (.int .i64 0),1,8) by kernel_rfl)
theorem zj4 (l:List Part) (h:l[j]?=some x):zdd (l.take (j+1))=max (zdd (l.take j)) (x.depth+1):=by
 have hj:=(jE.1 h).1;rw[jC hj];have:l[j]=x:=by rw[jz hj] at h;simpa using h
 rw[this];unfold zdd;rw[List.foldl_append];rfl
theorem zho:∀(l:List Part),(∀p∈l,p.depth<=32)->∀d:Int,1<=d->d<=33->1<=l.foldl (λd x=>max d (x.depth+1)) d/\l.foldl (λd x=>max d (x.depth+1)) d<=33
 | [],_,d,h1,h2=>⟨h1,h2⟩
 | x::l,h,d,h1,h2=>by
  have hx:=h x (by simp);exact zho l (λp hp=>h p (by simp[hp])) (max d (x.depth+1)) (by omega) (by omega)
theorem zpe (A:Option Addr) (n m c:Nat):(Value.slice A n c).ownBlock=(Value.slice A m c).ownBlock:=by cases A <;> rfl
def FitsOk (n:Nod):Prop:=∀(tv lv:Value) (t:List Nod) (l:List Part) (B:Nat) (w:World),B<=w.heap.size->Sls cNod w B tv t->Sls zgv w B lv l->t.length<=2000->l.length<=2000->(∀p∈l,p.root<t.length)->
 Calls prog 310 #[tv,.agg (cNod n).toArray,lv] w λu w'=>u=.returned (.bool (zej t n 0 l))/\Below w w w'
theorem z3p {n:Nod} (h:NodOk n):FitsOk n:=by
 intro tv lv t l B w hB ht hl htl hll hr;by_cases h7:n.kind=7
 ·cases h with
  | call fn n h1 h2 h3 h4=>exact zwz fn n h1 h2 tv lv t l B w hB ht hl htl hll hr
  | _=>exact absurd h7 (by simp[nod0])
 exact ztr n h7 tv lv t l B w hB ht hl htl hll hr
theorem zub (tv:Value) (t:List Nod) (B:Nat) (w:World) (hB:B<=w.heap.size) (ht:Sls cNod w B tv t) (htl:t.length<=2000) (hn:∀n∈t,NodOk n):
 Calls prog 289 #[tv,.func (.func 253) #[] #[]] w λu w'=>u=.returned (.int .i64 (zcc t 0 t []))/\Below w w w':=by
 obtain ⟨A,cap,rfl,hc1,hm1,ha1⟩:=id ht;have HT:=Hd ht;have HN:=Hd hn;obtain ⟨ip,ip0,ip1,ip2,ip3⟩:=zwo;obtain ⟨ii,ii0,ii1,ii2,ii3⟩:=z0b;clear ht hn ha1;unfold maxLen at hm1;go_enter func289,ntmps289;go_wp2_with fail;go_loopw [5,16] (λsv i wr=>∃(k:Nat) (st:List Part),k<=t.length/\i=.int .i64 k/\Own zgv 325 3 wr sv st/\(∀q,sv.ownBlock=some q->w.heap.size<=q)/\Below w w wr/\zcc t 0 t []=zcc t k (t.drop k) st/\st.length<=k/\(∀p∈st,p.root<t.length/\1<=p.depth/\p.depth<=32)) (λ_ i _=>t.length-(intOf i).toNat)
 case atStart=>exact ⟨0,[],by omega,rfl,Own.nil _ _ _ _,λq hq=>by simp[Value.ownBlock] at hq,jg _ _,by simp,by simp,by simp⟩
 rename World=>w0
 obtain ⟨k,st,hk,rfl,how,hob,hbw,hwk,hsl,hrt⟩:=hrel;have HW:=Hd hwk;have HBW:=Hd hbw;have HOW:=Hd how;have HOB:=Hd hob;have HRT:=Hd hrt;clear hwk hob hrt;obtain ⟨A2,cap2,rfl,hc2,_,_⟩:=id (how.sls (by unfold maxLen;omega));clear how;by_cases hlt:k<t.length;rotate_left
 ·have HE:=jM (zcc t 0 t []=if st.length=1 then 0 else 4) (by rw[HW.o,jm (by omega)];rfl);by_cases h1:st.length=1
  ·have b1:((st.length:Int) != 1)=false:=by simp[h1]
   have HE2:=Hd (HE.o.trans (jb h1));clear h1;go_wp2;go_ret;exact ⟨by rw[HE2.o];rfl,HBW.o⟩
  have b1:((st.length:Int) != 1)=true:=by simp;omega
  have HE2:=Hd (HE.o.trans (ja h1));clear h1;go_wp2;go_ret;exact ⟨by rw[HE2.o];rfl,HBW.o⟩
 have hy:t[k]?=some t[k]:=jz hlt;obtain ⟨b,o,hA,hb2,r⟩:=(HT.o.below (hbw.mono hB)).get 11 zbx hy;have HNK:=Hd (HN.o t[k] (jj hlt));have HD:=Hd (zkk t st hy);generalize t[k]=y at *;rw[ziu t k HNK.o st] at HD;subst hA;have HNF:Hid (∀w:World,Calls prog 308 #[.agg y] w λu w'=>u=.returned (.int .i64 0)/\Below w w w'):=Hd (zw0 y HNK.o);have HNB:Hid (∀w:World,Calls prog 309 #[.agg y] w λu w'=>u=.returned (.int .i64 (zcl y))/\Below w w w'):=Hd (zxj y HNK.o);have HFI:=Hd (z3p HNK.o);have rr0:w0.cell? (b,o+k*11)=some (.int .u8 y.kind):=r 0 _ rfl;have rr1:w0.cell? (b,o+k*11+1)=some (.int .u8 y.vk):=r 1 _ rfl;have rr2:w0.cell? (b,o+k*11+2)=some (.int .i64 y.vn):=r 2 _ rfl;have rr3:w0.cell? (b,o+k*11+3)=some (str y.vt):=r 3 _ rfl;have rr4:w0.cell? (b,o+k*11+4)=some (.int .i64 y.rect.c1):=r 4 _ rfl;have rr5:w0.cell? (b,o+k*11+5)=some (.int .i64 y.rect.r1):=r 5 _ rfl;have rr6:w0.cell? (b,o+k*11+6)=some (.int .i64 y.rect.c2):=r 6 _ rfl;have rr7:w0.cell? (b,o+k*11+7)=some (.int .i64 y.rect.r2):=r 7 _ rfl;have rr8:w0.cell? (b,o+k*11+8)=some (.int .i64 y.op):=r 8 _ rfl;have rr9:w0.cell? (b,o+k*11+9)=some (.int .u8 y.fn):=r 9 _ rfl;have rr10:w0.cell? (b,o+k*11+10)=some (.int .i64 y.n):=r 10 _ rfl;have K0:=Hd (je w0 297 y);have HB0:=jM (Below w0 w0 (w0.alloc (.cells y 297))) (by go_grown);have hi0:(0:Int)<=(k:Int):=jw _;have hi1:(k:Int)<(t.length:Int):=by omega
 clear hy hbw r;go_upto_region 5 with (fail)
 obtain ⟨W1,hW1⟩:=jN (w0.alloc (.cells y 297));rw[hW1] at K0 HB0 ⊢;clear hW1 rr0 rr1 rr2 rr3 rr4 rr5 rr6 rr7 rr8 rr9 rr10;obtain ⟨x1_0,x1_1,x1_2,x1_3,x1_4,x1_5⟩:=K0.o.c6 0 1 2 3 4 5;obtain ⟨x1_6,x1_7,x1_8,x1_9,x1_10⟩:=K0.o.c5 6 7 8 9 10;go_wp2_with fail;refine (HNF.o _).mono ?_;rintro u w2 ⟨rfl,hb2⟩;have K2:=Hd (K0.o.below_ hb2);have HB2:=Hd (Below.next_ HB0.o hb2);clear hb2 x1_0 x1_1 x1_2 x1_3 x1_4 x1_5 x1_6 x1_7 x1_8 x1_9 x1_10;obtain ⟨x2_0,x2_1,x2_2,x2_3,x2_4,x2_5⟩:=K2.o.c6 0 1 2 3 4 5;obtain ⟨x2_6,x2_7,x2_8,x2_9,x2_10⟩:=K2.o.c5 6 7 8 9 10;go_wp2_with fail;refine (HNB.o _).mono ?_;rintro u w3 ⟨rfl,hb3⟩;have K3:=Hd (K2.o.below_ hb3);have HB3:=Hd (Below.next_ HB2.o hb3);clear hb3 x2_0 x2_1 x2_2 x2_3 x2_4 x2_5 x2_6 x2_7 x2_8 x2_9 x2_10;obtain ⟨x3_0,x3_1,x3_2,x3_3,x3_4,x3_5⟩:=K3.o.c6 0 1 2 3 4 5;obtain ⟨x3_6,x3_7,x3_8,x3_9,x3_10⟩:=K3.o.c5 6 7 8 9 10;generalize hkb:zcl y=kb at HD ⊢;clear hkb;have kb0:(0:Int)<=(kb:Int):=jw _;by_cases hlb:st.length<kb
 ·have HE:=jM (zcc t 0 t []=4) (by rw[HW.o,HD.o,jb (.inl hlb)]);have lb:(st.length:Int)<(kb:Int):=by omega
  clear hlb;go_upto_region 9 with (fail)
  go_quiet (fail);go_wp2;go_ret;exact ⟨by rw[HE.o];rfl,jf (jd HBW.o HB3.o HBW.o.size) _⟩
 have lb:¬(st.length:Int)<(kb:Int):=by omega
 obtain ⟨m,hm⟩:∃m,st.length=m+kb:=⟨st.length-kb,by omega⟩;have hmi:(st.length:Int)-(kb:Int)=(m:Int):=by omega
 have hmz:(0:Int)<=(m:Int):=jw _;have hsu:(st.length:Int)<=2000:=by omega
 have hwm:IntKind.i64.wrap ((st.length:Int)-(kb:Int))=(m:Int):=by rw[IntKind.wrap_i64];omega
 have hdn:decide (st.length<kb)=false:=by rw[decide_eq_false_iff_not];exact hlb
 have hml:(m:Int)<=(st.length:Int):=by omega
 have HMN:=Hd hm;rw[show st.length-kb=m by omega] at HD;have hlbn:¬st.length<kb:=hlb;clear hm hlb;have HT3:=Hd ((HT.o.below (HBW.o.mono hB)).below (HB3.o.mono (jx hB HBW.o.size)));obtain ⟨A3,hA3⟩:=jN (if cap2=m then A2 else Option.map (λx=>x.add (m*3)) A2);have hlm:st.length-m=kb:=by have:=HMN.o;omega
 have hs3:=(Sls.drop zfe (HOW.o.sls (by unfold maxLen;have:=hsl;omega)) m (by have:=HMN.o;omega));rw[hA3,hlm] at hs3;have HS3:=Hd hs3;clear hs3;have HDR:=jM (∀p∈st.drop m,p.root<t.length) (λp hp=>(HRT.o p (List.mem_of_mem_drop hp)).1);have hsl2:(st.drop m).length<=2000:=by rw[jp];omega
 have LN:=jM (∀W:World,Below w3 w3 W->W.rangeAt w0.heap.size 0 (cNod y)) (λW h=>(K3.o.below_ h).range (l:=cNod y) (o:=0) (by intro j v hj;rw[Nat.zero_add];exact List.getElem?_toArray.trans hj));go_upto_region 9 with (fail)
 refine wp_region_noPanic ?_;refine wp_region_held_drew (S:=λW=>Below w3 w3 W) (by kernel_rfl) (jg _ _).drew (λhHeld=>?_);refine tH 0 (.slice A2 st.length cap2) hHeld ?_
 try go_frame
 refine tH 1 (.int .i64 st.length) hHeld ?_
 try go_frame
 refine tH 2 (.int .i64 kb) hHeld ?_
 try go_frame
 refine tH 3 (.bool false) hHeld ?_
 try go_frame
 refine tH 4 (.bool false) hHeld ?_
 try go_frame
 refine tH 5 (.slice (some ⟨b,o,none⟩) t.length cap) hHeld ?_
 try go_frame
 refine tH 6 (.agg _) hHeld ?_ (hy:=yieldsIf_load_mid rfl _ _ rfl (w0.heap.size) (0) rfl _ _ LN.o rfl rfl (by kernel_rfl))
 try go_frame
 refine tH 7 (.slice A2 st.length cap2) hHeld ?_
 try go_frame
 refine tH 8 (.slice A2 st.length cap2) hHeld ?_
 try go_frame
 refine tH 9 (.int .i64 st.length) hHeld ?_
 try go_frame
 refine tH 10 (.int .i64 kb) hHeld ?_
 try go_frame
 refine tH 11 (.int .i64 m) hHeld ?_ (hy:=Or.inl ⟨by rfl,by intro W hW;go_simp;rw[IntKind.wrap_i64];omega⟩)
 try go_frame
 refine tH 12 (.slice A3 kb (cap2-m)) hHeld ?_
 try go_frame
 refine tC 13 rfl λK hK=>?_;go_simp;go_at_call 310;refine (HFI.o _ _ t (st.drop m) w0.heap.size _ (jx HB3.o.size hHeld.size) ((HT3.o.below (hHeld.mono (jx hB (jx HBW.o.size HB3.o.size)))).more (jx hB HBW.o.size)) ((HS3.o.below HB3.o).below (hHeld.mono HB3.o.size)) htl hsl2 HDR.o).mono ?_;rintro u w4 ⟨rfl,hb4⟩;refine hK.out _ _ (jd hHeld hb4 hHeld.size) (λhHeld=>?_);clear hK K
 try go_frame
 have HB4:=Hd (Below.next_ HB3.o hHeld);have K4:=Hd (K3.o.below_ hHeld);clear LN x3_0 x3_1 x3_2 x3_3 x3_4 x3_5 x3_6 x3_7 x3_8 x3_9 x3_10
 cases hft:zej t y 0 (st.drop m) with
 | false=>
  have HE:=jM (zcc t 0 t []=4) (by rw[HW.o,HD.o,jb (.inr hft)]);clear hft;refine tH 14 (.bool true) hHeld ?_
  try go_frame
  refine tH 15 (.bool true) hHeld ?_
  try go_frame
  refine wpAnyH_done (by kernel_rfl) ?_ _;refine NoPanic.normal ?_;clear hHeld;go_wp2;go_ret;exact ⟨by rw[HE.o];rfl,jd HBW.o HB4.o HBW.o.size⟩
 | true=>
 refine tH 14 (.bool false) hHeld ?_
 try go_frame
 refine tH 15 (.bool false) hHeld ?_
 try go_frame
 refine wpAnyH_done (by kernel_rfl) ?_ _;refine NoPanic.normal ?_;clear hHeld;have HD2:=Hd (show zcc t 0 t []=match (if 32<zdd (st.drop m) then (.error 9:Except Int (List Part)) else .ok (st.take m++ [⟨k,zdd (st.drop m),decide (y.kind=3)⟩])) with
  | .error e=>e
  | .ok st=>zcc t (k+1) (t.drop (k+1)) st by
  rw[HW.o,HD.o,ja (by rw[hft];simpa using hlbn)])
 clear HD HW hft;have x4_0:=K4.o.cell 0;have hkd:decide (y.kind=3)=(y.kind==3):=rfl;rw[hkd] at HD2;obtain ⟨wd,hwd⟩:=jN (y.kind==3);rw[hwd] at HD2;have KP:=Hd (je w4 325 #[.int .i64 k,.int .i64 1,.bool wd]);have HB5:=jM (Below w0 w0 (w4.alloc (.cells #[.int .i64 k,.int .i64 1,.bool wd] 325))) (HB4.o.alloc HB4.o.size _);have HPB:=jM (w0.heap.size<=w4.heap.size) HB4.o.size;clear lb hsu hwm;go_upto_region 12 with (fail)
 obtain ⟨W5,hW5⟩:=jN (w4.alloc (.cells #[.int .i64 k,.int .i64 1,.bool wd] 325));rw[hW5] at KP HB5;obtain ⟨pb,hpb⟩:=jN w4.heap.size;rw[hpb] at KP HPB;rw[hW5,hpb];clear hW5 hpb hwd x4_0 K4 HB4;have hsu:(st.length:Int)<=2000:=by omega
 have hwi:IntKind.i64.wrap (m:Int)=(m:Int):=by rw[IntKind.wrap_i64];omega
 have HKB:=jM ((st.drop m).length=kb) (by rw[jp];have:=HMN.o;omega);have hkbu:(kb:Int)<=2000:=by have:=HKB.o;omega
 clear hkd;go_wp2_with fail;go_loopw [11,56] (λkv jv w6=>∃(j:Nat) (ks:List Int),j<=kb/\jv=.int .i64 j/\ks.length=j/\Own cInt 3 1 w6 kv ks/\(∀q,kv.ownBlock=some q->pb<q)/\Blk w6 pb 325 #[.int .i64 k,.int .i64 (zdd ((st.drop m).take j)),.bool wd]/\Below w0 w0 w6) (λ_ jv _=>kb-(intOf jv).toNat)
 case atStart=>exact ⟨0,[],by omega,rfl,rfl,Own.nil _ _ _ _,λq hq=>by simp[Value.ownBlock] at hq,KP.o,HB5.o⟩
 rename World=>w6
 obtain ⟨j,ks,hj,rfl,hkl,hko,hkq,hkp,hb6⟩:=hrel;have HKO:=Hd hko;have HKQ:=Hd hkq;have KP6:=Hd hkp;have HB6:=Hd hb6;clear hko hkq hkp;have hj0:(0:Int)<=(j:Int):=jw _;have hdb:=zho ((st.drop m).take j) (λp hp=>(HRT.o p (List.mem_of_mem_drop (List.mem_of_mem_take hp))).2.2) 1 (by omega) (by omega);rw[show ((st.drop m).take j).foldl (λd x=>max d (x.depth+1)) 1=zdd ((st.drop m).take j) from rfl] at hdb;by_cases hjl:j<kb
 ·have hy:(st.drop m)[j]?=some ((st.drop m)[j]'(by rw[HKB.o];exact hjl)):=jz _;obtain ⟨b3,o3,hA,hb3,r⟩:=(HS3.o.below hb6).get 3 zfe hy;have hxd:=(HRT.o _ (List.mem_of_mem_drop (List.mem_of_getElem? hy))).2;have HDS:=Hd (zj4 (st.drop m) hy);generalize (st.drop m)[j]'(by rw[HKB.o];exact hjl)=x at *;subst hA;have q0:w6.cell? (b3,o3+j*3)=some (.int .i64 x.root):=r 0 _ rfl;have q1:w6.cell? (b3,o3+j*3+1)=some (.int .i64 x.depth):=r 1 _ rfl;have q2:w6.cell? (b3,o3+j*3+2)=some (.bool x.wide):=r 2 _ rfl;generalize zdd ((st.drop m).take j)=d at *;have hjlt:(j:Int)<(kb:Int):=by omega
  have hd1:1<=d:=hdb.1;have hd2:d<=33:=hdb.2;have hx1:1<=x.depth:=hxd.1;have hx2:x.depth<=32:=hxd.2;have hmx:∀x y:Int,(if x<y then y else x)=max x y:=λx y=>by rw[Int.max_def];split <;> split <;> omega
  have HLT6:=jM (pb<w6.heap.size) KP6.o.lt;have p1:(w6.alloc (.cells #[.int .i64 x.root,.int .i64 x.depth,.bool x.wide] 325)).cell? (pb,1)=some (.int .i64 d):=(KP6.o.alloc _).cell 1;have pf:=(KP6.o.alloc (.cells #[.int .i64 x.root,.int .i64 x.depth,.bool x.wide] 325)).frozen 1;clear r hy hdb hxd hb6;go_upto_region 17 with (fail)
  have KP7:=jM (Blk ((w6.alloc (.cells #[.int .i64 x.root,.int .i64 x.depth,.bool x.wide] 325)).setCell (pb,1) (.int .i64 (max d (x.depth+1)))) pb 325 #[.int .i64 k,.int .i64 (max d (x.depth+1)),.bool wd]) ((KP6.o.alloc _).set_ 1 _);have KX7:=jM (Blk ((w6.alloc (.cells #[.int .i64 x.root,.int .i64 x.depth,.bool x.wide] 325)).setCell (pb,1) (.int .i64 (max d (x.depth+1)))) w6.heap.size 325 #[.int .i64 x.root,.int .i64 x.depth,.bool x.wide]) ((je _ _ _).far (by have:=HLT6.o;show w6.heap.size≠pb;omega) _);have HC7:=jM (Chg (λq=>q=pb) (w6.alloc (.cells #[.int .i64 x.root,.int .i64 x.depth,.bool x.wide] 325)) ((w6.alloc (.cells #[.int .i64 x.root,.int .i64 x.depth,.bool x.wide] 325)).setCell (pb,1) (.int .i64 (max d (x.depth+1))))) ((Chg.refl (λq=>q=pb) _).setCell (p:=⟨pb,1,none⟩) (.inl rfl) _);have HKO7:=Hd ((HKO.o.alloc (.cells #[.int .i64 x.root,.int .i64 x.depth,.bool x.wide] 325)).chg HC7.o (λq hq e=>by have:=HKQ.o q hq;omega));have HB7:=Hd (Below.trans (HB6.o.alloc HB6.o.size (.cells #[.int .i64 x.root,.int .i64 x.depth,.bool x.wide] 325)) (HC7.o.to_below (B:=w0.heap.size) (by have:=HB6.o.size;simp;omega) (λq hq e=>by have:=HPB.o;omega)));clear HC7 p1 pf q0 q1 q2;obtain ⟨W7,hW7⟩:=jN ((w6.alloc (.cells #[.int .i64 x.root,.int .i64 x.depth,.bool x.wide] 325)).setCell (pb,1) (.int .i64 (max d (x.depth+1))));rw[hW7] at KP7 KX7 HKO7 HB7 ⊢;have HS67:=jM (w6.heap.size<W7.heap.size) KX7.o.lt;clear hW7 HKO KP6;have z0:=KX7.o.cell 0;go_wp2_with (at_builtin;refine ju ?_);refine Hd ?_;refine zal cInt rfl _ _ 182 rfl 3 ii _ 1 8 underlying182 ii0 ii1 ii2 ii3 rfl (by omega) u11 ks rfl (HKO7.o.alloc _) _ _ [(x.root:Int)] rfl (Sls.one (x:=(x.root:Int)) (je _ _ _) rfl) z0q z0p (by simp;omega) (by omega) ?_;intro v8 w8 o8 t8;have KP8:=Hd ((KP7.o.alloc _).outTo t8 (λe=>by have:=HKQ.o _ e;omega));have HB8:=Hd (Below.trans (HB7.o.alloc HB7.o.size _) (t8.old (B:=w0.heap.size) (by have:=HB7.o.size;simp;omega) (λq hq=>by have:=HKQ.o q hq;have:=HPB.o;omega)));have HQ8:=jM (∀q,v8.ownBlock=some q->pb<q) (λq hq=>by
   rcases t8.own q hq with e | e
   ·exact HKQ.o q e
   have:=HS67.o;have:=HLT6.o;simp at e;omega)
  have O8:=Hd o8;clear o8 t8 z0;go_wp2;exact ⟨⟨j+1,ks++ [(x.root:Int)],by omega,by go_num,by simp;omega,O8.o,HQ8.o,by rw[HDS.o];exact KP8.o,HB8.o⟩,by simp[intOf];omega⟩
 obtain rfl:j=kb:=by omega
 have HTK:=jM ((st.drop m).take j=st.drop m) (by rw[jK (by rw[HKB.o];exact Nat.le_refl _)]);rw[HTK.o] at KP6 hdb;have HOS:=Hd (HOW.o.below HB6.o);have HRN:=jM (∀q,(Value.slice A2 st.length cap2).ownBlock=some q->q<w0.heap.size) (λq hq=>HOW.o.lt q hq);generalize hdd:zdd (st.drop m)=d at *;clear hdd;obtain ⟨p0,p1,p2⟩:=KP6.o.c3 0 1 2;by_cases hd32:32<d
 ·have HE:=jM (zcc t 0 t []=9) (by rw[HD2.o,jb hd32]);go_wp2;go_ret;exact ⟨by rw[HE.o];rfl,jd HBW.o HB6.o HBW.o.size⟩
 have HE:=jM (zcc t 0 t []=zcc t (k+1) (t.drop (k+1)) (st.take m++ [⟨k,d,wd⟩])) (by rw[HD2.o,ja hd32]);have hd32':¬32<d:=hd32;clear HD2 hd32;have hmc:(m:Int)<=(cap2:Int):=by omega
 have ha0:=add_zero A2;have HOT:=Hd (Own.head zfe HOS.o (j:=m) (by have:=HMN.o;omega));have KP7:=Hd (KP6.o.alloc (.cells (zgv ⟨k,d,wd⟩).toArray 325)).drew;have KN7:=jM (Blk (w6.alloc (.cells (zgv ⟨k,d,wd⟩).toArray 325)).drew w6.heap.size 325 (zgv ⟨k,d,wd⟩).toArray) ((je w6 325 (zgv ⟨k,d,wd⟩).toArray).drew);have HO7:=jM (Own zgv 325 3 (w6.alloc (.cells (zgv ⟨k,d,wd⟩).toArray 325)).drew (.slice A2 m cap2) (st.take m)) ((HOT.o.alloc _).drew);have HB7:=jM (Below w w (w6.alloc (.cells (zgv ⟨k,d,wd⟩).toArray 325)).drew) (((jd HBW.o HB6.o HBW.o.size).alloc (by have:=HBW.o.size;have:=HB6.o.size;omega) _).drew);have HS67:=jM (w0.heap.size<=w6.heap.size) HB6.o.size;go_upto_region 21 with (fail)
 clear p0 p1 p2;refine wp_region_noPanic ?_;refine zaw (λW'=>Blk W' pb 325 #[.int .i64 k,.int .i64 d,.bool wd]) 9 (by kernel_rfl) ?_;have hHeld:(λW'=>Blk W' pb 325 #[.int .i64 k,.int .i64 d,.bool wd]) _:=KP6.o.drew;refine tU 0 (.slice A2 st.length cap2) (λ_=>hHeld) ?_
 try go_frame
 refine tU 1 (.slice A2 st.length cap2) (λ_=>hHeld) ?_
 try go_frame
 refine tU 2 (.int .i64 st.length) (λ_=>hHeld) ?_
 try go_frame
 refine tU 3 (.int .i64 j) (λ_=>hHeld) ?_
 try go_frame
 refine tU 4 (.int .i64 m) (λ_=>hHeld) ?_
 try go_frame
 refine tU 5 (.slice A2 m cap2) (λ_=>hHeld) ?_
 try go_frame
 refine tV 6 (.agg _) rfl hHeld (yieldsIf_load_mid rfl _ _ rfl (pb) (0) rfl _ _ (λW' h=>h.range (l:=zgv ⟨k,d,wd⟩) (o:=0) (by intro j v hj;rw[Nat.zero_add];exact List.getElem?_toArray.trans hj)) rfl rfl (by kernel_rfl)) ?_
 try go_frame
 refine tS 7 rfl λK hK=>?_;go_simp;refine hK.out _ _ (λ_=>KP7.o) ?_;have hHeld:(λW'=>Blk W' pb 325 #[.int .i64 k,.int .i64 d,.bool wd]) _:=KP7.o;clear hK K
 try go_frame
 obtain ⟨r9,w9,hr9,o9,t9⟩:=zdp (P:=prog) _ zgv 320 320 325 ip _ 3 24 underlying320 ip0 ip1 ip2 ip3 rfl (by omega) (.slice A2 m cap2) (st.take m) HO7.o _ _ [(⟨k,d,wd⟩:Part)] (Sls.one (x:=(⟨k,d,wd⟩:Part)) KN7.o rfl) zfe zxe (by simp;omega) (by omega);have hB9:=KP7.o.outTo t9 (λe=>by have h1:=HRN.o pb (by rw[zpe A2 st.length m];exact e);have:=HPB.o;omega);refine tS 8 rfl λK hK=>?_;refine zbl (.tmp 81) (.tmp 83) _ _ rfl _ _ _ _ rfl rfl hr9 ?_;refine hK.out _ _ (λ_=>hB9) ?_;have hHeld:(λW'=>Blk W' pb 325 #[.int .i64 k,.int .i64 d,.bool wd]) _:=hB9;clear hK K
 try go_frame
 refine tS 9 rfl λK hK=>?_;go_simp;refine hK.out _ _ (λh=>absurd h (by decide)) ?_;clear hK K
 try go_frame
 refine zax (by kernel_rfl) ?_;refine NoPanic.normal ?_;have HB9:=Hd (Below.trans HB7.o (t9.old (B:=w.heap.size) HB7.o.size (λq hq=>HOB.o q (by rw[zpe A2 st.length m];exact hq))));have HQ9:=jM (∀q,r9.ownBlock=some q->w.heap.size<=q) (t9.newer HB7.o.size (λq hq=>HOB.o q (by rw[zpe A2 st.length m];exact hq)));have O9:=Hd o9;have p1:=hB9.cell 1;have HR9:=jM (∀p∈st.take m++ [(⟨k,d,wd⟩:Part)],p.root<t.length/\1<=p.depth/\p.depth<=32) (λp hp=>by
  rcases List.mem_append.1 hp with hp | hp
  ·exact HRT.o p (List.mem_of_mem_take hp)
  rw[List.mem_singleton] at hp;subst hp;exact ⟨hlt,hdb.1,by show d<=32;omega⟩)
 clear hHeld hB9 o9 t9 hr9;go_wp2_with fail;refine (zm5 _ _ _ _).mono ?_;rintro u w10 ⟨rfl,rfl⟩;go_wp2;exact ⟨⟨k+1,st.take m++ [⟨k,d,wd⟩],by omega,by go_num,O9.o,HQ9.o,HB9.o,HE.o,by simp;omega,HR9.o⟩,by simp[intOf];omega⟩
theorem zos (inp:zaa) (w:World) (hp:txtE inp=0) (hl:inp.length<=1000000) (hw:Words w):
 Calls prog 196 #[str inp] w λu w'=>∃k n:Int,∃s:zaa,u=.returned (vVal k n s)/\Below w w w':=by
 have hmf:∀(fn:Fn) (first cap:Array Value) (w:World),(Instr.makeFunc fn first cap).run prog w=.ok (.func fn first cap) w:=λ_ _ _ _=>rfl;go_enter func196,ntmps196;go_wp2;go_step3;go_wp2;go_step3;go_wp2;have kA:Blk (((w.alloc (.cells #[str inp] 9)).alloc (.cells #[.int .u8 0,.int .i64 0,str []] 189)).alloc (.cells #[.func (.func 212) #[] #[.pointer (some (w,0))],.func (.func 213) #[] #[.pointer (some (w,0))],.func (.func 214) #[] #[.pointer (some (w,0))],.func (.func 216) #[] #[.pointer (some (w,0))],.func (.func 219) #[] #[.pointer (some (w,0))]] 223)) w.heap.size 9 #[str inp]:=((je w _ _).alloc _).alloc _;have kB:Blk (((w.alloc (.cells #[str inp] 9)).alloc (.cells #[.int .u8 0,.int .i64 0,str []] 189)).alloc (.cells #[.func (.func 212) #[] #[.pointer (some (w,0))],.func (.func 213) #[] #[.pointer (some (w,0))],.func (.func 214) #[] #[.pointer (some (w,0))],.func (.func 216) #[] #[.pointer (some (w,0))],.func (.func 219) #[] #[.pointer (some (w,0))]] 223)) (w.heap.size+1) 189 #[.int .u8 0,.int .i64 0,str []]:=by have:=(je (w.alloc (.cells #[str inp] 9)) 189 #[.int .u8 0,.int .i64 0,str []]).alloc (.cells #[.func (.func 212) #[] #[.pointer (some (w,0))],.func (.func 213) #[] #[.pointer (some (w,0))],.func (.func 214) #[] #[.pointer (some (w,0))],.func (.func 216) #[] #[.pointer (some (w,0))],.func (.func 219) #[] #[.pointer (some (w,0))]] 223);simpa using this
 have kC:Blk (((w.alloc (.cells #[str inp] 9)).alloc (.cells #[.int .u8 0,.int .i64 0,str []] 189)).alloc (.cells #[.func (.func 212) #[] #[.pointer (some (w,0))],.func (.func 213) #[] #[.pointer (some (w,0))],.func (.func 214) #[] #[.pointer (some (w,0))],.func (.func 216) #[] #[.pointer (some (w,0))],.func (.func 219) #[] #[.pointer (some (w,0))]] 223)) (w.heap.size+1+1) 223 #[.func (.func 212) #[] #[.pointer (some (w,0))],.func (.func 213) #[] #[.pointer (some (w,0))],.func (.func 214) #[] #[.pointer (some (w,0))],.func (.func 216) #[] #[.pointer (some (w,0))],.func (.func 219) #[] #[.pointer (some (w,0))]]:=by have:=je ((w.alloc (.cells #[str inp] 9)).alloc (.cells #[.int .u8 0,.int .i64 0,str []] 189)) 223 #[.func (.func 212) #[] #[.pointer (some (w,0))],.func (.func 213) #[] #[.pointer (some (w,0))],.func (.func 214) #[] #[.pointer (some (w,0))],.func (.func 216) #[] #[.pointer (some (w,0))],.func (.func 219) #[] #[.pointer (some (w,0))]];simpa using this
 have bb:Below w w (((w.alloc (.cells #[str inp] 9)).alloc (.cells #[.int .u8 0,.int .i64 0,str []] 189)).alloc (.cells #[.func (.func 212) #[] #[.pointer (some (w,0))],.func (.func 213) #[] #[.pointer (some (w,0))],.func (.func 214) #[] #[.pointer (some (w,0))],.func (.func 216) #[] #[.pointer (some (w,0))],.func (.func 219) #[] #[.pointer (some (w,0))]] 223)):=by go_grown
 have KA:=Hd kA;have KB:=Hd kB;have KC:=Hd kC;have BB:=Hd bb;have HW:=Hd hw;clear kA kB kC bb hw;go_loopw [4,15] (λq i wr=>∃(k:Int) (a b:Int) (c:zaa),0<=k/\k<=5/\q=.bool false/\i=.int .i64 k/\Blk wr w 9 #[str inp]/\Blk wr (w.heap.size+1) 189 #[.int .u8 a,.int .i64 b,str c]/\Blk wr (w.heap.size+1+1) 223 #[.func (.func 212) #[] #[.pointer (some (w,0))],.func (.func 213) #[] #[.pointer (some (w,0))],.func (.func 214) #[] #[.pointer (some (w,0))],.func (.func 216) #[] #[.pointer (some (w,0))],.func (.func 219) #[] #[.pointer (some (w,0))]]/\Below w w wr) (λ_ i _=>5-(intOf i).toNat)
 case atStart=>exact ⟨0,0,0,[],by omega,by omega,rfl,rfl,KA.o,KB.o,KC.o,BB.o⟩
 obtain ⟨k,a,b,c,k0,k5,rfl,rfl,ka,kb,kc,hb⟩:=hrel;clear KA KB KC BB;have KA:=Hd ka;have KB:=Hd kb;have KC:=Hd kc;have HB:=Hd hb;obtain ⟨f0,f1,f2,f3,f4⟩:=kc.c5 0 1 2 3 4;have ca:=ka.cell 0;have la:=ka.lt;have lb:=kb.lt;clear ka kb kc hb;have e:k=0\/k=1\/k=2\/k=3\/k=4\/k=5:=by omega
 rcases e with rfl|rfl|rfl|rfl|rfl|rfl
 ·go_wp2_with fail;refine (tryg_1 inp hp hl _ _ ca la (HW.o.below (HB.o.mono jy))).mono ?_;rintro e w1 ⟨k,n,s,q,rfl,hb1⟩;have KA1:=Hd (KA.o.below_ hb1);have KB1:=Hd (KB.o.below_ hb1);have KC1:=Hd (KC.o.below_ hb1);have HB1:=Hd (Below.trans HB.o (hb1.mono HB.o.size));obtain ⟨g0,g1,g2⟩:=KB1.o.c3 0 1 2;have fr:=KB1.o.frozen;have lb1:=KB1.o.lt;clear hb1 f0 f1 f2 f3 f4 ca la lb;cases q
  ·go_wp2;exact ⟨⟨1,k,n,s,by omega,by omega,rfl,rfl,(((KA1.o.far (p:=⟨w.heap.size+1,0,none⟩) (by simp;try omega) _).far (p:=⟨w.heap.size+1,1,none⟩) (by simp;try omega) _).far (p:=⟨w.heap.size+1,2,none⟩) (by simp;try omega) _),((KB1.o.set_ 0 (.int .u8 k)).set_ 1 (.int .i64 n)).set_ 2 (str s),(((KC1.o.far (p:=⟨w.heap.size+1,0,none⟩) (by simp;try omega) _).far (p:=⟨w.heap.size+1,1,none⟩) (by simp;try omega) _).far (p:=⟨w.heap.size+1,2,none⟩) (by simp;try omega) _),jc (jc (jc HB1.o (by simp) _) (by simp) _) (by simp) _⟩,by simp[intOf]⟩
  go_wp2;rw[Exit.noGoto_ret];refine jO results196 (v:=.agg #[.int .u8 k,.int .i64 n,str s]) ?_ (by simp (maxDischargeDepth:=9) [jQ,go_sem,g0,g1,g2]);exact ⟨k,n,s,rfl,(jc (jc (jc (jc (jc (jc HB1.o (by simp) _) (by simp) _) (by simp) _) (by simp) _) (by simp) _) (by simp) _)⟩
 ·go_wp2_with fail;refine (tryg_2 inp hp hl _ _ ca la (HW.o.below (HB.o.mono jy))).mono ?_;rintro e w1 ⟨k,n,s,q,rfl,hb1⟩;have KA1:=Hd (KA.o.below_ hb1);have KB1:=Hd (KB.o.below_ hb1);have KC1:=Hd (KC.o.below_ hb1);have HB1:=Hd (Below.trans HB.o (hb1.mono HB.o.size));obtain ⟨g0,g1,g2⟩:=KB1.o.c3 0 1 2;have fr:=KB1.o.frozen;have lb1:=KB1.o.lt;clear hb1 f0 f1 f2 f3 f4 ca la lb;cases q
  ·go_wp2;exact ⟨⟨2,k,n,s,by omega,by omega,rfl,rfl,(((KA1.o.far (p:=⟨w.heap.size+1,0,none⟩) (by simp;try omega) _).far (p:=⟨w.heap.size+1,1,none⟩) (by simp;try omega) _).far (p:=⟨w.heap.size+1,2,none⟩) (by simp;try omega) _),((KB1.o.set_ 0 (.int .u8 k)).set_ 1 (.int .i64 n)).set_ 2 (str s),(((KC1.o.far (p:=⟨w.heap.size+1,0,none⟩) (by simp;try omega) _).far (p:=⟨w.heap.size+1,1,none⟩) (by simp;try omega) _).far (p:=⟨w.heap.size+1,2,none⟩) (by simp;try omega) _),jc (jc (jc HB1.o (by simp) _) (by simp) _) (by simp) _⟩,by simp[intOf]⟩
  go_wp2;rw[Exit.noGoto_ret];refine jO results196 (v:=.agg #[.int .u8 k,.int .i64 n,str s]) ?_ (by simp (maxDischargeDepth:=9) [jQ,go_sem,g0,g1,g2]);exact ⟨k,n,s,rfl,(jc (jc (jc (jc (jc (jc HB1.o (by simp) _) (by simp) _) (by simp) _) (by simp) _) (by simp) _) (by simp) _)⟩
 ·go_wp2_with fail;refine (tryg_3 inp hp hl _ _ ca la (HW.o.below (HB.o.mono jy))).mono ?_;rintro e w1 ⟨k,n,s,q,rfl,hb1⟩;have KA1:=Hd (KA.o.below_ hb1);have KB1:=Hd (KB.o.below_ hb1);have KC1:=Hd (KC.o.below_ hb1);have HB1:=Hd (Below.trans HB.o (hb1.mono HB.o.size));obtain ⟨g0,g1,g2⟩:=KB1.o.c3 0 1 2;have fr:=KB1.o.frozen;have lb1:=KB1.o.lt;clear hb1 f0 f1 f2 f3 f4 ca la lb;cases q
  ·go_wp2;exact ⟨⟨3,k,n,s,by omega,by omega,rfl,rfl,(((KA1.o.far (p:=⟨w.heap.size+1,0,none⟩) (by simp;try omega) _).far (p:=⟨w.heap.size+1,1,none⟩) (by simp;try omega) _).far (p:=⟨w.heap.size+1,2,none⟩) (by simp;try omega) _),((KB1.o.set_ 0 (.int .u8 k)).set_ 1 (.int .i64 n)).set_ 2 (str s),(((KC1.o.far (p:=⟨w.heap.size+1,0,none⟩) (by simp;try omega) _).far (p:=⟨w.heap.size+1,1,none⟩) (by simp;try omega) _).far (p:=⟨w.heap.size+1,2,none⟩) (by simp;try omega) _),jc (jc (jc HB1.o (by simp) _) (by simp) _) (by simp) _⟩,by simp[intOf]⟩
  go_wp2;rw[Exit.noGoto_ret];refine jO results196 (v:=.agg #[.int .u8 k,.int .i64 n,str s]) ?_ (by simp (maxDischargeDepth:=9) [jQ,go_sem,g0,g1,g2]);exact ⟨k,n,s,rfl,(jc (jc (jc (jc (jc (jc HB1.o (by simp) _) (by simp) _) (by simp) _) (by simp) _) (by simp) _) (by simp) _)⟩
 ·go_wp2_with fail;refine (tryg_4 inp hp hl _ _ ca la (HW.o.below (HB.o.mono jy))).mono ?_;rintro e w1 ⟨k,n,s,q,rfl,hb1⟩;have KA1:=Hd (KA.o.below_ hb1);have KB1:=Hd (KB.o.below_ hb1);have KC1:=Hd (KC.o.below_ hb1);have HB1:=Hd (Below.trans HB.o (hb1.mono HB.o.size));obtain ⟨g0,g1,g2⟩:=KB1.o.c3 0 1 2;have fr:=KB1.o.frozen;have lb1:=KB1.o.lt;clear hb1 f0 f1 f2 f3 f4 ca la lb;cases q
  ·go_wp2;exact ⟨⟨4,k,n,s,by omega,by omega,rfl,rfl,(((KA1.o.far (p:=⟨w.heap.size+1,0,none⟩) (by simp;try omega) _).far (p:=⟨w.heap.size+1,1,none⟩) (by simp;try omega) _).far (p:=⟨w.heap.size+1,2,none⟩) (by simp;try omega) _),((KB1.o.set_ 0 (.int .u8 k)).set_ 1 (.int .i64 n)).set_ 2 (str s),(((KC1.o.far (p:=⟨w.heap.size+1,0,none⟩) (by simp;try omega) _).far (p:=⟨w.heap.size+1,1,none⟩) (by simp;try omega) _).far (p:=⟨w.heap.size+1,2,none⟩) (by simp;try omega) _),jc (jc (jc HB1.o (by simp) _) (by simp) _) (by simp) _⟩,by simp[intOf]⟩
  go_wp2;rw[Exit.noGoto_ret];refine jO results196 (v:=.agg #[.int .u8 k,.int .i64 n,str s]) ?_ (by simp (maxDischargeDepth:=9) [jQ,go_sem,g0,g1,g2]);exact ⟨k,n,s,rfl,(jc (jc (jc (jc (jc (jc HB1.o (by simp) _) (by simp) _) (by simp) _) (by simp) _) (by simp) _) (by simp) _)⟩
 ·go_wp2_with fail;refine (tryg_5 inp hp hl _ _ ca la (HW.o.below (HB.o.mono jy))).mono ?_;rintro e w1 ⟨k,n,s,q,rfl,hb1⟩;have KA1:=Hd (KA.o.below_ hb1);have KB1:=Hd (KB.o.below_ hb1);have KC1:=Hd (KC.o.below_ hb1);have HB1:=Hd (Below.trans HB.o (hb1.mono HB.o.size));obtain ⟨g0,g1,g2⟩:=KB1.o.c3 0 1 2;have fr:=KB1.o.frozen;have lb1:=KB1.o.lt;clear hb1 f0 f1 f2 f3 f4 ca la lb;cases q
  ·go_wp2;exact ⟨⟨5,k,n,s,by omega,by omega,rfl,rfl,(((KA1.o.far (p:=⟨w.heap.size+1,0,none⟩) (by simp;try omega) _).far (p:=⟨w.heap.size+1,1,none⟩) (by simp;try omega) _).far (p:=⟨w.heap.size+1,2,none⟩) (by simp;try omega) _),((KB1.o.set_ 0 (.int .u8 k)).set_ 1 (.int .i64 n)).set_ 2 (str s),(((KC1.o.far (p:=⟨w.heap.size+1,0,none⟩) (by simp;try omega) _).far (p:=⟨w.heap.size+1,1,none⟩) (by simp;try omega) _).far (p:=⟨w.heap.size+1,2,none⟩) (by simp;try omega) _),jc (jc (jc HB1.o (by simp) _) (by simp) _) (by simp) _⟩,by simp[intOf]⟩
  go_wp2;rw[Exit.noGoto_ret];refine jO results196 (v:=.agg #[.int .u8 k,.int .i64 n,str s]) ?_ (by simp (maxDischargeDepth:=9) [jQ,go_sem,g0,g1,g2]);exact ⟨k,n,s,rfl,(jc (jc (jc (jc (jc (jc HB1.o (by simp) _) (by simp) _) (by simp) _) (by simp) _) (by simp) _) (by simp) _)⟩
 obtain ⟨g0,g1,g2⟩:=KB.o.c3 0 1 2;have fr:=KB.o.frozen;clear f0 f1 f2 f3 f4;go_wp2;rw[Exit.noGoto_ret];refine jO results196 (v:=.agg #[.int .u8 3,.int .i64 0,str inp]) ?_ (by simp (maxDischargeDepth:=9) [jQ,go_sem,g0,g1,g2]);exact ⟨3,0,inp,rfl,(jc (jc (jc (jc (jc (jc HB.o (by simp) _) (by simp) _) (by simp) _) (by simp) _) (by simp) _) (by simp) _)⟩
end Go.Proofs.YtamcgggmfghljaaGreatDoor
