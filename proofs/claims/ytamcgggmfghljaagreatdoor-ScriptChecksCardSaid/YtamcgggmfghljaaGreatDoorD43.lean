/- Layer 8 (reference): one node of a tree (printed by tools/gen_rtd.py). -/
import Derived.Test.YtamcgggmfghljaaGreatDoorD42
set_option maxRecDepth 100000
set_option maxHeartbeats 8000000
open Go.Proofs.Tryz
namespace Go.Proofs.YtamcgggmfghljaaGreatDoor
open Go.RowKit
def cTop (p:Part):List Value:=[.int .i64 p.root,.int .i64 p.depth]
theorem zfz (p:Part):(cTop p).length=2:=rfl
theorem zoe (x:Part):∀u∈cTop x,u.oneCell'=true:=by
 intro u hu
 simp [cTop] at hu
 rcases hu with rfl | rfl <;> rfl
theorem zv0:∃i,prog.info? 312=some i∧i.zero=some (.agg #[.int .i64 0,.int .i64 0])∧i.size=2∧i.bytes=16:=
 info_parts (show (prog.info? 312).map (fun i=>(i.zero,i.size,i.bytes))=some (some (.agg #[.int .i64 0,.int .i64 0]),2,16) by kernel_rfl)
theorem zlv {α:Type} {l:List α} {j:Nat} {p:α} (h:l[j]?=some p):l.drop j=p::l.drop (j+1):=by
 have hk:=(List.getElem?_eq_some_iff.1 h).1
 rw [List.drop_eq_getElem_cons hk]
 have:l[j]=p:=by rw [List.getElem?_eq_getElem hk] at h;simpa using h
 rw [this]
theorem zu2 {α:Type} (c:α→List Value) (e:TypeId) (k:Nat) (w:World):Own c e k (w.alloc (.cells #[] e)) (.slice (some ⟨w.heap.size,0,none⟩) 0 0) []:=
 ⟨by simp,.inr ⟨w.heap.size,0,#[],rfl,Nat.zero_le _,Blk.new w e #[],Nat.le_refl _,Nat.zero_le _,by simp,by simp⟩⟩
theorem Sls.head {α:Type} {c:α→List Value} {k:Nat} {w:World} {B:Nat} {A:Option Addr} {n cap:Nat} {l:List α} (_hk:∀x,(c x).length=k) (h:Sls c w B (.slice A n cap) l) {j:Nat} (hj:j≤l.length):Sls c w B (.slice A j cap) (l.take j):=by
 obtain ⟨A',cap',e,h1,h2,h3⟩:=h
 injection e with e1 e2 e3
 subst e1 e3
 have e1:(l.take j).length=j:=by simp;omega
 refine ⟨_,_,by rw [e1],by rw [e1];omega,by rw [e1];omega,fun hp=>?_⟩
 rw [e1] at hp
 obtain ⟨b,o,rfl,hb,hr⟩:=h3 (by omega)
 refine ⟨b,o,rfl,hb,fun i v hi=>hr i v ?_⟩
 have hs:l.flatMap c=(l.take j).flatMap c++(l.drop j).flatMap c:=by rw [← List.flatMap_append,List.take_append_drop]
 rw [hs,List.getElem?_append_left (List.getElem?_eq_some_iff.1 hi).1]
 exact hi
theorem zrw (fn:Nat) (h1:1≤fn) (h2:fn≤50):(zfr fn== [])=false:=by
 have h:∀k:Fin 50,(zfr (k.val+1)== [])=false:=by decide
 have:=h ⟨fn-1,by omega⟩
 simpa [show fn-1+1=fn by omega] using this
def NodeR (t:List Nod) (k:Nat) (y:Nod) (st:List Part) (B:Nat) (u:Ending) (w':World):Prop:=
 match zgo t k y st with
 | .error e=>u=.returned (.tuple #[.slice none 0 0,.int .i64 e])
 | .ok st'=>∃sv,u=.returned (.tuple #[sv,.int .i64 0])∧Own cTop 312 2 w' sv st'∧∀q,sv.ownBlock=some q→B≤q
theorem NodeR.err {t:List Nod} {k:Nat} {y:Nod} {st:List Part} {B:Nat} {u:Ending} {w':World} {e:Int} (h:zgo t k y st=.error e) (hu:u=.returned (.tuple #[.slice none 0 0,.int .i64 e])):NodeR t k y st B u w':=by
 unfold NodeR
 rw [h]
 exact hu
theorem NodeR.ok {t:List Nod} {k:Nat} {y:Nod} {st st':List Part} {B:Nat} {u:Ending} {w':World} (h:zgo t k y st=.ok st') {sv:Value} (hu:u=.returned (.tuple #[sv,.int .i64 0])) (ho:Own cTop 312 2 w' sv st') (hq:∀q,sv.ownBlock=some q→B≤q):NodeR t k y st B u w':=by
 unfold NodeR
 rw [h]
 exact ⟨sv,hu,ho,hq⟩
theorem zx0 (tv lv:Value) (t:List Nod) (k:Nat) (y:Nod) (st:List Part) (B:Nat) (w:World) (hB:B≤w.heap.size) (ht:Sls cNod w B tv t) (hl:Sls cTop w B lv st)
 (htl:t.length≤2000) (hy:t[k]?=some y) (hn:NodOk y) (hsl:st.length≤k) (hst:∀p∈st,p.root<t.length∧1≤p.depth∧p.depth≤32∧p.wide=decide ((t.getD p.root (nod0 0)).kind=3)):
 Calls prog 319 #[tv,.int .i64 k,lv] w fun u w'=>NodeR t k y st w.heap.size u w'∧Below w.heap.size w w':=by
 have hkl:k<t.length:=(List.getElem?_eq_some_iff.1 hy).1
 obtain ⟨A,cap,rfl,hc1,hm1,ha1⟩:=id ht
 obtain ⟨A2,cap2,rfl,hc2,hm2,ha2⟩:=id hl
 obtain ⟨b,o,hA,hb2,r⟩:=ht.get 11 zbq hy
 subst hA
 have HT:=Hd ht
 have HL:=Hd hl
 have HST:=Hd hst
 have HN:=Hd hn
 have HD:=Hd (zgw t k hn st)
 have H7:=Hd (show y.kind=7→∃fn m:Nat,y.fn=fn∧y.n=m∧1≤fn∧fn≤50∧(zam fn).1≤m∧(m:Int)≤(zam fn).2.1 from fun h7=>by
  cases hn with
  | call fn m h1 h2 h3 h4=>exact ⟨fn,m,rfl,rfl,h1,h2,h3,h4⟩
  | _=>exact absurd h7 (by simp [nod0]))
 have HNF:Hid (∀w:World,Calls prog 335 #[.agg #[.int .u8 y.kind,.int .u8 y.vk,.int .i64 y.vn,str y.vt,.int .i64 y.rect.c1,.int .i64 y.rect.r1,.int .i64 y.rect.c2,.int .i64 y.rect.r2,.int .i64 y.op,.int .u8 y.fn,.int .i64 y.n]] w fun u w'=>u=.returned (.bool true)∧Below w.heap.size w w'):=Hd (zq0 y hn)
 have HNB:Hid (∀w:World,Calls prog 338 #[.agg #[.int .u8 y.kind,.int .u8 y.vk,.int .i64 y.vn,str y.vt,.int .i64 y.rect.c1,.int .i64 y.rect.r1,.int .i64 y.rect.c2,.int .i64 y.rect.r2,.int .i64 y.op,.int .u8 y.fn,.int .i64 y.n]] w fun u w'=>u=.returned (.int .i64 (zb8 y))∧Below w.heap.size w w'):=Hd (zub y hn)
 have HFI:Hid (∀(c:Nod) (i:Nat),i<zb8 y→i≤2000→∀w:World,Calls prog 339 #[.agg #[.int .u8 y.kind,.int .u8 y.vk,.int .i64 y.vn,str y.vt,.int .i64 y.rect.c1,.int .i64 y.rect.r1,.int .i64 y.rect.c2,.int .i64 y.rect.r2,.int .i64 y.op,.int .u8 y.fn,.int .i64 y.n],.int .i64 i,.agg (cNod c).toArray] w fun u w'=>u=.returned (.bool (fitR y c i))∧Below w.heap.size w w'):=Hd (fun c i h1 h2 w=>zx1 y c hn i h1 h2 w)
 clear ht hl hst hn ha1 ha2 hy
 unfold maxLen at hm1 hm2
 have rr0:w.cell? ⟨b,o+k*11,none⟩=some (.int .u8 y.kind):=r 0 _ rfl
 have rr1:w.cell? ⟨b,o+k*11+1,none⟩=some (.int .u8 y.vk):=r 1 _ rfl
 have rr2:w.cell? ⟨b,o+k*11+2,none⟩=some (.int .i64 y.vn):=r 2 _ rfl
 have rr3:w.cell? ⟨b,o+k*11+3,none⟩=some (str y.vt):=r 3 _ rfl
 have rr4:w.cell? ⟨b,o+k*11+4,none⟩=some (.int .i64 y.rect.c1):=r 4 _ rfl
 have rr5:w.cell? ⟨b,o+k*11+5,none⟩=some (.int .i64 y.rect.r1):=r 5 _ rfl
 have rr6:w.cell? ⟨b,o+k*11+6,none⟩=some (.int .i64 y.rect.c2):=r 6 _ rfl
 have rr7:w.cell? ⟨b,o+k*11+7,none⟩=some (.int .i64 y.rect.r2):=r 7 _ rfl
 have rr8:w.cell? ⟨b,o+k*11+8,none⟩=some (.int .i64 y.op):=r 8 _ rfl
 have rr9:w.cell? ⟨b,o+k*11+9,none⟩=some (.int .u8 y.fn):=r 9 _ rfl
 have rr10:w.cell? ⟨b,o+k*11+10,none⟩=some (.int .i64 y.n):=r 10 _ rfl
 have KN:=Hd (Blk.new w 297 #[.int .u8 y.kind,.int .u8 y.vk,.int .i64 y.vn,str y.vt,.int .i64 y.rect.c1,.int .i64 y.rect.r1,.int .i64 y.rect.c2,.int .i64 y.rect.r2,.int .i64 y.op,.int .u8 y.fn,.int .i64 y.n])
 have HB0:=Hd (show Below w.heap.size w (w.alloc (.cells #[.int .u8 y.kind,.int .u8 y.vk,.int .i64 y.vn,str y.vt,.int .i64 y.rect.c1,.int .i64 y.rect.r1,.int .i64 y.rect.c2,.int .i64 y.rect.r2,.int .i64 y.op,.int .u8 y.fn,.int .i64 y.n] 297)) from by go_grown)
 have hi0:(0:Int)≤(k:Int):=Int.natCast_nonneg _
 have hi1:(k:Int)<(t.length:Int):=by omega
 clear r
 obtain ⟨q,hq⟩:∃q,zb8 y=q:=⟨_,rfl⟩
 rw [hq] at HD HNB HFI
 clear hq
 go_enter func319,ntmps319
 go_upto_region 2 with (fail)
 obtain ⟨g,hg⟩:∃g,g=w.heap.size:=⟨_,rfl⟩
 obtain ⟨W1,hW1⟩:∃W1,w.alloc (.cells #[.int .u8 y.kind,.int .u8 y.vk,.int .i64 y.vn,str y.vt,.int .i64 y.rect.c1,.int .i64 y.rect.r1,.int .i64 y.rect.c2,.int .i64 y.rect.r2,.int .i64 y.op,.int .u8 y.fn,.int .i64 y.n] 297)=W1:=⟨_,rfl⟩
 rw [hW1] at KN HB0 ⊢
 rw [← hg] at KN ⊢
 have HG:=Hd hg
 clear hW1 hg rr0 rr1 rr2 rr3 rr4 rr5 rr6 rr7 rr8 rr9 rr10
 have x0:W1.cell? ⟨g,0,none⟩=some (.int .u8 y.kind):=KN.out.cell 0
 have x1:W1.cell? ⟨g,1,none⟩=some (.int .u8 y.vk):=KN.out.cell 1
 have x2:W1.cell? ⟨g,2,none⟩=some (.int .i64 y.vn):=KN.out.cell 2
 have x3:W1.cell? ⟨g,3,none⟩=some (str y.vt):=KN.out.cell 3
 have x4:W1.cell? ⟨g,4,none⟩=some (.int .i64 y.rect.c1):=KN.out.cell 4
 have x5:W1.cell? ⟨g,5,none⟩=some (.int .i64 y.rect.r1):=KN.out.cell 5
 have x6:W1.cell? ⟨g,6,none⟩=some (.int .i64 y.rect.c2):=KN.out.cell 6
 have x7:W1.cell? ⟨g,7,none⟩=some (.int .i64 y.rect.r2):=KN.out.cell 7
 have x8:W1.cell? ⟨g,8,none⟩=some (.int .i64 y.op):=KN.out.cell 8
 have x9:W1.cell? ⟨g,9,none⟩=some (.int .u8 y.fn):=KN.out.cell 9
 have x10:W1.cell? ⟨g,10,none⟩=some (.int .i64 y.n):=KN.out.cell 10
 go_wp2_with fail
 refine (HNF.out _).mono ?_
 rintro u w2 ⟨rfl,hb2⟩
 have K2:=Hd (KN.out.below_ hb2)
 have HB2:=Hd (Below.next_ HB0.out hb2)
 clear hb2 x0 x1 x2 x3 x4 x5 x6 x7 x8 x9 x10 KN HB0 HNF
 have x0:w2.cell? ⟨g,0,none⟩=some (.int .u8 y.kind):=K2.out.cell 0
 have x1:w2.cell? ⟨g,1,none⟩=some (.int .u8 y.vk):=K2.out.cell 1
 have x2:w2.cell? ⟨g,2,none⟩=some (.int .i64 y.vn):=K2.out.cell 2
 have x3:w2.cell? ⟨g,3,none⟩=some (str y.vt):=K2.out.cell 3
 have x4:w2.cell? ⟨g,4,none⟩=some (.int .i64 y.rect.c1):=K2.out.cell 4
 have x5:w2.cell? ⟨g,5,none⟩=some (.int .i64 y.rect.r1):=K2.out.cell 5
 have x6:w2.cell? ⟨g,6,none⟩=some (.int .i64 y.rect.c2):=K2.out.cell 6
 have x7:w2.cell? ⟨g,7,none⟩=some (.int .i64 y.rect.r2):=K2.out.cell 7
 have x8:w2.cell? ⟨g,8,none⟩=some (.int .i64 y.op):=K2.out.cell 8
 have x9:w2.cell? ⟨g,9,none⟩=some (.int .u8 y.fn):=K2.out.cell 9
 have x10:w2.cell? ⟨g,10,none⟩=some (.int .i64 y.n):=K2.out.cell 10
 go_upto_if 24 with (fail)
 go_cut [9,10] from 24 (fun _ _ wx=>Blk wx g 297 #[.int .u8 y.kind,.int .u8 y.vk,.int .i64 y.vn,str y.vt,.int .i64 y.rect.c1,.int .i64 y.rect.r1,.int .i64 y.rect.c2,.int .i64 y.rect.r2,.int .i64 y.op,.int .u8 y.fn,.int .i64 y.n]∧Below w.heap.size w wx)
 case first=>
  by_cases h7:y.kind=7
  rotate_left
  ·have b7:(y.kind==7)=false:=by simpa using h7
   clear h7 H7 HN HD HFI HNB
   go_wp2
   go_meet
   case rel=>exact ⟨K2.out,HB2.out⟩
  have b7:(y.kind==7)=true:=by simpa using h7
  obtain ⟨fn,m,hfn,hfm,h1,h2,h3,h4⟩:=H7.out h7
  have HNA:=Hd (zq4 fn h1 h2)
  have HAR:=Hd (zjn fn h1 h2)
  have HNE:=Hd (zrw fn h1 h2)
  have hl1:¬(m:Int)<(zam fn).1:=by omega
  have hl2:¬(zam fn).2.1<(m:Int):=by omega
  have x9':w2.cell? ⟨g,9,none⟩=some (.int .u8 fn):=by rw [x9,hfn]
  have HFN:=Hd hfn
  have HFM:=Hd hfm
  clear hfn hfm
  clear h7 HN HD H7 HFI HNB
  obtain ⟨lo,hlo⟩:∃z,(zam fn).1=z:=⟨_,rfl⟩
  obtain ⟨up,hup⟩:∃z,(zam fn).2.1=z:=⟨_,rfl⟩
  obtain ⟨nm,hnm⟩:∃z,zfr fn=z:=⟨_,rfl⟩
  rw [hlo,hup] at HAR
  rw [hlo] at hl1
  rw [hup] at hl2
  rw [hnm] at HNA HNE
  have hne:(nm== [])=false:=HNE.out
  clear hlo hup hnm h3 h4 x0
  have x0:w2.cell? ⟨g,0,none⟩=some (.int .u8 y.kind):=K2.out.cell 0
  clear x9
  go_wp2_with fail
  refine (HNA.out _).mono ?_
  rintro u w3 ⟨rfl,hb3⟩
  have K3:=Hd (K2.out.below_ hb3)
  have HB3:=Hd (Below.next_ HB2.out hb3)
  clear hb3 x0 x1 x2 x3 x4 x5 x6 x7 x8 x9' x10
  have x9:w3.cell? ⟨g,9,none⟩=some (.int .u8 fn):=by rw [← HFN.out];exact K3.out.cell 9
  have x10:w3.cell? ⟨g,10,none⟩=some (.int .i64 m):=by rw [← HFM.out];exact K3.out.cell 10
  go_wp2_with fail
  refine (HAR.out _).mono ?_
  rintro u w4 ⟨rfl,rfl⟩
  dsimp only
  go_wp2
  go_meet
  case rel=>exact ⟨K3.out,HB3.out⟩
 obtain ⟨K5,HB5⟩:=hcut
 have K5:=Hd K5
 have HB5:=Hd HB5
 clear H7 HN HB2 K2 x0 x1 x2 x3 x4 x5 x6 x7 x8 x9 x10
 have x0:wc.cell? ⟨g,0,none⟩=some (.int .u8 y.kind):=K5.out.cell 0
 have x1:wc.cell? ⟨g,1,none⟩=some (.int .u8 y.vk):=K5.out.cell 1
 have x2:wc.cell? ⟨g,2,none⟩=some (.int .i64 y.vn):=K5.out.cell 2
 have x3:wc.cell? ⟨g,3,none⟩=some (str y.vt):=K5.out.cell 3
 have x4:wc.cell? ⟨g,4,none⟩=some (.int .i64 y.rect.c1):=K5.out.cell 4
 have x5:wc.cell? ⟨g,5,none⟩=some (.int .i64 y.rect.r1):=K5.out.cell 5
 have x6:wc.cell? ⟨g,6,none⟩=some (.int .i64 y.rect.c2):=K5.out.cell 6
 have x7:wc.cell? ⟨g,7,none⟩=some (.int .i64 y.rect.r2):=K5.out.cell 7
 have x8:wc.cell? ⟨g,8,none⟩=some (.int .i64 y.op):=K5.out.cell 8
 have x9:wc.cell? ⟨g,9,none⟩=some (.int .u8 y.fn):=K5.out.cell 9
 have x10:wc.cell? ⟨g,10,none⟩=some (.int .i64 y.n):=K5.out.cell 10
 go_wp2_with fail
 refine (HNB.out _).mono ?_
 rintro u w6 ⟨rfl,hb6⟩
 have K6:=Hd (K5.out.below_ hb6)
 have HB6:=Hd (Below.next_ HB5.out hb6)
 clear hb6 x0 x1 x2 x3 x4 x5 x6 x7 x8 x9 x10 HNB K5 HB5
 have kb0:(0:Int)≤(q:Int):=Int.natCast_nonneg _
 by_cases hlb:st.length<q
 ·have HE:=Hd (show zgo t k y st=.error 4 by rw [HD.out,if_pos (.inl hlb)])
  have lb:(st.length:Int)<(q:Int):=by omega
  clear hlb HD
  go_wp2
  refine bodyPost_ret (v:=.tuple #[.slice none 0 0,.int .i64 4]) (by simp (maxDischargeDepth:=9) [results,results319,go_sem]) rfl ?_
  exact ⟨NodeR.err HE.out rfl,HB6.out⟩
 have lb:¬(st.length:Int)<(q:Int):=by omega
 obtain ⟨m,hm⟩:∃m,st.length=m+q:=⟨st.length-q,by omega⟩
 have HMN:=Hd hm
 have hsu:(st.length:Int)≤2000:=by omega
 have hmi:(st.length:Int)-(q:Int)=(m:Int):=by omega
 have hml:(m:Int)≤(st.length:Int):=by omega
 have hmz:(0:Int)≤(m:Int):=Int.natCast_nonneg _
 rw [show st.length-q=m by omega] at HD
 clear hm
 have HKQ:=Hd (show (st.drop m).length=q by rw [List.length_drop];have:=HMN.out;omega)
 have HDB:=Hd (show ∀j,1≤zct ((st.drop m).take j)∧zct ((st.drop m).take j)≤33 from fun j=>zfy ((st.drop m).take j) (fun p hp=>(HST.out p (List.mem_of_mem_drop (List.mem_of_mem_take hp))).2.2.1) 1 (by omega) (by omega))
 go_wp2_with fail
 go_loopw [13,14] (fun dv jv wr=>∃j:Nat,j≤q∧jv=.int .i64 j∧dv=.int .i64 (zct ((st.drop m).take j))∧zdt t y 0 (st.drop m)=zdt t y j ((st.drop m).drop j)∧Blk wr g 297 #[.int .u8 y.kind,.int .u8 y.vk,.int .i64 y.vn,str y.vt,.int .i64 y.rect.c1,.int .i64 y.rect.r1,.int .i64 y.rect.c2,.int .i64 y.rect.r2,.int .i64 y.op,.int .u8 y.fn,.int .i64 y.n]∧Below w.heap.size w wr) (fun _ jv _=>q-(intOf jv).toNat)
 case atStart=>exact ⟨0,by omega,rfl,rfl,rfl,K6.out,HB6.out⟩
 rename World=>w7
 obtain ⟨j,hj,rfl,rfl,hft,hk7,hb7⟩:=hrel
 have HF:=Hd hft
 have K7:=Hd hk7
 have HB7:=Hd hb7
 clear hft hk7 hb7 K6 HB6
 have hj0:(0:Int)≤(j:Int):=Int.natCast_nonneg _
 have hdb:=HDB.out j
 by_cases hjl:j<q
 rotate_left
 ·obtain rfl:j=q:=by omega
  have HFT:=Hd (show zdt t y 0 (st.drop m)=true by rw [HF.out,List.drop_eq_nil_of_le (by rw [HKQ.out];exact Nat.le_refl _)];rfl)
  have HTK:(st.drop m).take j=st.drop m:=by rw [List.take_of_length_le (by rw [HKQ.out];exact Nat.le_refl _)]
  have HD2:=Hd (HD.out.trans (if_neg (by rw [HFT.out];simpa using hlb)))
  rw [HTK] at hdb ⊢
  obtain ⟨d,hd⟩:∃d,zct (st.drop m)=d:=⟨_,rfl⟩
  rw [hd] at hdb HD2 ⊢
  clear hd HD HF HTK HFT HDB HFI K7
  by_cases hd32:32<d
  ·have HE:=Hd (HD2.out.trans (if_pos hd32))
   clear HD2
   go_wp2
   refine bodyPost_ret (v:=.tuple #[.slice none 0 0,.int .i64 9]) (by simp (maxDischargeDepth:=9) [results,results319,go_sem]) rfl ?_
   exact ⟨NodeR.err HE.out rfl,HB7.out⟩
  have HE:=Hd (HD2.out.trans (if_neg hd32))
  have hd32':¬32<d:=hd32
  clear HD2 hd32 hdb
  have hmc:(m:Int)≤(cap2:Int):=by omega
  have ha0:=add_zero A2
  obtain ⟨ip,ip0,ip1,ip2,ip3⟩:=zv0
  have HS7:=Hd ((Sls.head zfz (HL.out.below (HB7.out.mono hB)) (j:=m) (by have:=HMN.out;omega)).below ((Below.refl B w7).alloc (Nat.le_trans hB HB7.out.size) (.cells #[] 312)))
  have hmL:(st.take m).length=m:=by rw [List.length_take];omega
  go_wp2_with (at_builtin;refine RowKit.Hid.out ?_)
  refine Hd ?_
  refine zbo cTop rfl _ _ 308 rfl 312 ip _ 2 16 underlying308 ip0 ip1 ip2 ip3 rfl (by omega) (.slice (some ⟨w7.heap.size,0,none⟩) 0 0) [] rfl (zu2 _ _ _ _) B (.slice A2 m cap2) (st.take m) rfl HS7.out zfz zoe (by simp;omega) (by omega) ?_
  intro v8 w8 o8 t8
  have HZ:=Hd (show ∀q,(Value.slice (some ⟨w7.heap.size,0,none⟩) 0 0).ownBlock=some q→w.heap.size≤q from fun q hq=>by
   have e:w7.heap.size=q:=Option.some.inj hq
   rw [← e]
   exact HB7.out.size)
  have HB8:=Hd (Below.trans (HB7.out.alloc HB7.out.size _) (t8.old (B:=w.heap.size) (by have:=HB7.out.size;simp;omega) HZ.out))
  have HQ8:=Hd (t8.newer (B:=w.heap.size) (by have:=HB7.out.size;simp;omega) HZ.out)
  have O8:=Hd o8
  clear o8 t8 HZ HS7
  go_wp2_with (at_builtin;refine RowKit.Hid.out ?_)
  refine Hd ?_
  refine zbo cTop rfl _ _ 308 rfl 312 ip _ 2 16 underlying308 ip0 ip1 ip2 ip3 rfl (by omega) v8 ([]++st.take m) rfl (O8.out.alloc _) _ _ [(⟨k,d,decide (y.kind=3)⟩:Part)] rfl (Sls.one (x:=(⟨k,d,decide (y.kind=3)⟩:Part)) (Blk.new _ _ _) rfl) zfz zoe (by simp;omega) (by omega) ?_
  intro v9 w9 o9 t9
  have HB9:=Hd (Below.trans (HB8.out.alloc HB8.out.size _) (t9.old (B:=w.heap.size) (by have:=HB8.out.size;simp;omega) HQ8.out))
  have HQ9:=Hd (t9.newer (B:=w.heap.size) (by have:=HB8.out.size;simp;omega) HQ8.out)
  have O9:=Hd o9
  clear o9 t9
  go_wp2
  refine bodyPost_ret (v:=.tuple #[v9,.int .i64 0]) (by simp (maxDischargeDepth:=9) [results,results319,go_sem]) rfl ?_
  exact ⟨NodeR.ok HE.out rfl O9.out HQ9.out,HB9.out⟩
 obtain ⟨p,hyj⟩:∃p,(st.drop m)[j]?=some p:=⟨_,List.getElem?_eq_getElem (by rw [HKQ.out];exact hjl)⟩
 have hps:=HST.out p (List.mem_of_mem_drop (List.mem_of_getElem? hyj))
 obtain ⟨c,hc⟩:∃c,t[p.root]?=some c:=⟨_,List.getElem?_eq_getElem hps.1⟩
 have HFC:=Hd (show zdt t y 0 (st.drop m)=if fitR y c j=true then zdt t y (j+1) ((st.drop m).drop (j+1)) else false by
  rw [HF.out,zlv hyj,zp4 t y j _ _ hps.2.2.2,show t.getD p.root (nod0 0)=c by rw [List.getD_eq_getElem?_getD,hc];rfl])
 have HDS:=Hd (zh0 (st.drop m) hyj)
 obtain ⟨mj,hMJ⟩:∃mj:Nat,mj=m+j:=⟨_,rfl⟩
 obtain ⟨b3,o3,hA,hb3,r⟩:=(HL.out.below (HB7.out.mono hB)).get 2 zfz (show st[mj]?=some p by rw [hMJ,← List.getElem?_drop];exact hyj)
 obtain ⟨b',o',hA',hbb,rc⟩:=(HT.out.below (HB7.out.mono hB)).get 11 zbq hc
 obtain ⟨rfl,rfl⟩:b=b'∧o=o':=⟨congrArg Addr.block (Option.some.inj hA'),congrArg Addr.off (Option.some.inj hA')⟩
 subst hA
 have hq7:=Nat.le_trans hB HB7.out.size
 have RC:=Hd rc
 have LY:=Hd (show ∀W:World,Below w7.heap.size w7 W→W.rangeAt g 0 [.int .u8 y.kind,.int .u8 y.vk,.int .i64 y.vn,str y.vt,.int .i64 y.rect.c1,.int .i64 y.rect.r1,.int .i64 y.rect.c2,.int .i64 y.rect.r2,.int .i64 y.op,.int .u8 y.fn,.int .i64 y.n] from fun W h=>(K7.out.below_ h).range (l:=cNod y) (o:=0) (by intro j v hj;rw [Nat.zero_add];exact List.getElem?_toArray.trans hj))
 have LC:=Hd (show ∀W:World,Below w7.heap.size w7 W→W.rangeAt b (o+p.root*11) [.int .u8 c.kind,.int .u8 c.vk,.int .i64 c.vn,str c.vt,.int .i64 c.rect.c1,.int .i64 c.rect.r1,.int .i64 c.rect.c2,.int .i64 c.rect.r2,.int .i64 c.op,.int .u8 c.fn,.int .i64 c.n] from fun W h i v hi=>(h.cell (p:=⟨b,o+p.root*11+i,none⟩) (Nat.lt_of_lt_of_le hbb hq7)).trans (RC.out i v hi))
 have q0:w7.cell? ⟨b3,o3+mj*2,none⟩=some (.int .i64 p.root):=r 0 _ rfl
 have q1:w7.cell? ⟨b3,o3+mj*2+1,none⟩=some (.int .i64 p.depth):=r 1 _ rfl
 have LP:=Hd (show ∀W:World,Below w7.heap.size w7 W→W.cell? ⟨b3,o3+mj*2,none⟩=some (.int .i64 p.root) from fun W h=>(h.cell (p:=⟨b3,o3+mj*2,none⟩) (Nat.lt_of_lt_of_le hb3 hq7)).trans q0)
 have LD:=Hd (show ∀W:World,Below w7.heap.size w7 W→W.cell? ⟨b3,o3+mj*2+1,none⟩=some (.int .i64 p.depth) from fun W h=>(h.cell (p:=⟨b3,o3+mj*2+1,none⟩) (Nat.lt_of_lt_of_le hb3 hq7)).trans q1)
 have HPS:=Hd hps
 have hmj:(m:Int)+(j:Int)=(mj:Int):=by omega
 have hm0:(0:Int)≤(mj:Int):=Int.natCast_nonneg _
 have hm1:(mj:Int)<(st.length:Int):=by have:=HMN.out;omega
 have hr0:(0:Int)≤(p.root:Int):=Int.natCast_nonneg _
 have hr1:(p.root:Int)<(t.length:Int):=by have:=hps.1;omega
 have hjq:(j:Int)<(q:Int):=by omega
 have hmu:(mj:Int)≤2000:=by omega
 clear hps hyj hc rc r hA' HF q0 q1 hMJ
 go_upto_region 18 with (fail)
 obtain ⟨z,hz⟩:∃z,fitR y c j=z:=⟨_,rfl⟩
 rw [hz] at HFC
 have HFJ:Hid (∀w:World,Calls prog 339 #[.agg #[.int .u8 y.kind,.int .u8 y.vk,.int .i64 y.vn,str y.vt,.int .i64 y.rect.c1,.int .i64 y.rect.r1,.int .i64 y.rect.c2,.int .i64 y.rect.r2,.int .i64 y.op,.int .u8 y.fn,.int .i64 y.n],.int .i64 j,.agg #[.int .u8 c.kind,.int .u8 c.vk,.int .i64 c.vn,str c.vt,.int .i64 c.rect.c1,.int .i64 c.rect.r1,.int .i64 c.rect.c2,.int .i64 c.rect.r2,.int .i64 c.op,.int .u8 c.fn,.int .i64 c.n]] w fun u w'=>u=.returned (.bool (fitR y c j))∧Below w.heap.size w w'):=Hd (HFI.out c j hjl (by omega))
 rw [hz] at HFJ
 clear hz
 refine wp_region_noPanic ?_
 refine wp_region_held_drew (S:=fun W=>Below w7.heap.size w7 W) (by kernel_rfl) (Below.refl _ _).drew (fun hHeld=>?_)
 refine tH 0 ⟨some 60,.load 297 (.tmp 8),297,_,_,none⟩ (.agg _) rfl hHeld ?_ (hy:=yieldsIf_load_mid rfl _ _ rfl (g) (0) rfl _ _ LY.out rfl rfl (by kernel_rfl))
 try go_frame
 refine tH 1 ⟨some 61,.move (.tmp 14),3,_,_,none⟩ (.int .i64 j) rfl hHeld ?_
 try go_frame
 refine tH 2 ⟨some 62,.move (.tmp 0),190,_,_,none⟩ (.slice (some ⟨b,o,none⟩) t.length cap) rfl hHeld ?_
 try go_frame
 refine tH 3 ⟨some 63,.move (.tmp 2),308,_,_,none⟩ (.slice (some ⟨b3,o3,none⟩) st.length cap2) rfl hHeld ?_
 try go_frame
 refine tH 4 ⟨some 64,.move (.tmp 12),3,_,_,none⟩ (.int .i64 m) rfl hHeld ?_
 try go_frame
 refine tH 5 ⟨some 65,.move (.tmp 14),3,_,_,none⟩ (.int .i64 j) rfl hHeld ?_
 try go_frame
 refine tH 6 ⟨some 66,.binOp .add 3 (.tmp 64) (.tmp 65) 3,3,_,_,none⟩ (.int .i64 mj) rfl hHeld ?_ (hy:=Or.inl ⟨by rfl,by intro W hW;go_simp;rw [IntKind.wrap_i64];omega⟩)
 try go_frame
 refine tH 7 ⟨some 67,.indexAddr 308 (.tmp 63) (.tmp 66),_,_,_,none⟩ (.pointer (some ⟨b3,o3+mj*2,none⟩)) rfl hHeld ?_
 try go_frame
 refine tH 8 ⟨some 68,.fieldAddr 312 (.tmp 67) 0,_,_,_,none⟩ (.pointer (some ⟨b3,o3+mj*2,none⟩)) rfl hHeld ?_
 try go_frame
 refine tH 9 ⟨some 69,.load 3 (.tmp 68),3,_,_,none⟩ (.int .i64 p.root) rfl hHeld ?_ (hy:=Or.inl ⟨by rfl,by intro W hW;have hc:=LP.out W hW;go_simp⟩)
 try go_frame
 refine tH 10 ⟨some 70,.indexAddr 190 (.tmp 62) (.tmp 69),_,_,_,none⟩ (.pointer (some ⟨b,o+p.root*11,none⟩)) rfl hHeld ?_
 try go_frame
 refine tH 11 ⟨some 71,.load 297 (.tmp 70),297,_,_,none⟩ (.agg _) rfl hHeld ?_ (hy:=yieldsIf_load_mid rfl _ _ rfl (b) (o+p.root*11) rfl _ _ LC.out rfl rfl (by kernel_rfl))
 try go_frame
 refine tC 12 ⟨some 72,.call { callee:=.value (.func 339),args:=#[.tmp 60,.tmp 61,.tmp 71],argTypes:=#[297,3,297] },4,_,_,none⟩ rfl fun K hK=>?_
 go_simp
 go_at_call 339
 refine (HFJ.out _).mono ?_
 rintro u w8 ⟨rfl,hb8⟩
 refine hK.out _ _ (Below.next hHeld hb8 hHeld.size) (fun hHeld=>?_)
 clear hK K
 try go_frame
 refine tH 13 ⟨some 73,.unOp .not 4 (.tmp 72),4,_,_,none⟩ (.bool (!z)) rfl hHeld ?_
 try go_frame
 refine wpAnyH_done (by kernel_rfl) ?_ _
 refine NoPanic.normal ?_
 have HB8:=Hd (Below.next HB7.out hHeld HB7.out.size)
 have K8:=Hd (K7.out.below_ hHeld)
 have q1:=LD.out _ hHeld
 clear hHeld LY LC LP LD RC HFJ HFI
 cases z with
 | false=>
  have HE:=Hd (show zgo t k y st=.error 4 by rw [HD.out,if_pos (.inr (by rw [HFC.out];rfl))])
  clear HD HFC
  go_wp2
  refine bodyPost_ret (v:=.tuple #[.slice none 0 0,.int .i64 4]) (by simp (maxDischargeDepth:=9) [results,results319,go_sem]) rfl ?_
  exact ⟨NodeR.err HE.out rfl,HB8.out⟩
 | true=>
  have HF8:=Hd (HFC.out.trans (if_pos rfl))
  obtain ⟨d,hd⟩:∃d,zct ((st.drop m).take j)=d:=⟨_,rfl⟩
  rw [hd] at hdb HDS ⊢
  have hd1:1≤d:=hdb.1
  have hd2:d≤33:=hdb.2
  have hx1:1≤p.depth:=HPS.out.2.1
  have hx2:p.depth≤32:=HPS.out.2.2.1
  have hmx:∀x y:Int,(if x<y then y else x)=max x y:=fun x y=>by rw [Int.max_def];split <;> split <;> omega
  have hcm:1+p.depth=p.depth+1:=by omega
  clear hd hdb HD HFC
  go_wp2
  exact ⟨⟨j+1,by omega,by go_num,by rw [HDS.out],HF8.out,K8.out,HB8.out⟩,by simp [intOf];omega⟩
abbrev zzk (t:List Nod) (p:Part):Prop:=p.root<t.length∧1≤p.depth∧p.depth≤32∧p.wide=decide ((t.getD p.root (nod0 0)).kind=3)
theorem zrq {t:List Nod} {k:Nat} {y:Nod} {st:List Part} {e:Int} (h:NodOk y) (he:zgo t k y st=.error e):e≠0:=by
 rw [zgw t k h st] at he
 split at he
 ·injection he with he;omega
 split at he
 ·injection he with he;omega
 cases he
theorem zmh {t:List Nod} {k:Nat} {y:Nod} {st st':List Part} (hy:t[k]?=some y) (h:NodOk y) (hst:∀p∈st,zzk t p) (hsl:st.length≤k) (he:zgo t k y st=.ok st'):st'.length≤k+1∧∀p∈st',zzk t p:=by
 rw [zgw t k h st] at he
 split at he
 ·cases he
 split at he
 ·cases he
 rename_i h1 h2
 injection he with he
 subst he
 refine ⟨?_,fun p hp=>?_⟩
 ·simp only [List.length_append,List.length_take,List.length_cons,List.length_nil]
  omega
 rcases List.mem_append.1 hp with hp | hp
 ·exact hst p (List.mem_of_mem_take hp)
 rw [List.mem_singleton] at hp
 subst hp
 have hb:=zfy (st.drop (st.length-zb8 y)) (fun p hp=>(hst p (List.mem_of_mem_drop hp)).2.2.1) 1 (by omega) (by omega)
 refine ⟨(List.getElem?_eq_some_iff.1 hy).1,hb.1,by have:=h2;show zct _≤32;omega,?_⟩
 show decide (y.kind=3)=decide ((t.getD k (nod0 0)).kind=3)
 rw [List.getD_eq_getElem?_getD,hy]
 rfl
def JudgeR (t:List Nod) (B:Nat) (u:Ending) (w':World):Prop:=
 (∃e,e≠0∧zb1 t 0 t []=e∧u=.returned (.tuple #[.slice none 0 0,.int .i64 e]))∨
 ∃sv st,u=.returned (.tuple #[sv,.int .i64 0])∧zb1 t 0 t []=(if st.length=1 then 0 else 4)∧Own cTop 312 2 w' sv st∧(∀q,sv.ownBlock=some q→B≤q)∧st.length≤2000
theorem JudgeR.bad {t:List Nod} {B:Nat} {u:Ending} {w':World} {e:Int} (h:e≠0) (hw:zb1 t 0 t []=e) (hu:u=.returned (.tuple #[.slice none 0 0,.int .i64 e])):JudgeR t B u w':=.inl ⟨e,h,hw,hu⟩
theorem JudgeR.good {t:List Nod} {B:Nat} {u:Ending} {w':World} {sv:Value} {st:List Part} (hu:u=.returned (.tuple #[sv,.int .i64 0])) (hw:zb1 t 0 t []=(if st.length=1 then 0 else 4)) (ho:Own cTop 312 2 w' sv st) (hq:∀q,sv.ownBlock=some q→B≤q) (hl:st.length≤2000):JudgeR t B u w':=.inr ⟨sv,st,hu,hw,ho,hq,hl⟩
theorem zt9 (tv:Value) (t:List Nod) (B:Nat) (w:World) (hB:B≤w.heap.size) (ht:Sls cNod w B tv t) (htl:t.length≤2000) (hn:∀n∈t,NodOk n):
 Calls prog 298 #[tv] w fun u w'=>JudgeR t w.heap.size u w'∧Below w.heap.size w w':=by
 obtain ⟨A,cap,rfl,hc1,hm1,ha1⟩:=id ht
 have HT:=Hd ht
 have HN:=Hd hn
 clear ht hn ha1
 unfold maxLen at hm1
 go_enter func298,ntmps298
 go_wp2_with fail
 go_loopw [4,5] (fun sv iv wr=>∃(k:Nat) (st:List Part),k≤t.length∧iv=.int .i64 k∧Own cTop 312 2 wr sv st∧(∀q,sv.ownBlock=some q→w.heap.size≤q)∧Below w.heap.size w wr∧zb1 t 0 t []=zb1 t k (t.drop k) st∧st.length≤k∧(∀p∈st,zzk t p)) (fun _ iv _=>t.length-(intOf iv).toNat)
 case atStart=>exact ⟨0,[],by omega,rfl,Own.nil _ _ _ _,fun q hq=>by simp [Value.ownBlock] at hq,Below.refl _ _,by simp,by simp,by simp⟩
 rename World=>w0
 obtain ⟨k,st,hk,rfl,how,hob,hbw,hwk,hsl,hrt⟩:=hrel
 have HW:=Hd hwk
 have HBW:=Hd hbw
 have HOW:=Hd how
 have HOB:=Hd hob
 have HRT:=Hd hrt
 clear hwk hob hrt hbw how
 have hk0:(0:Int)≤(k:Int):=Int.natCast_nonneg _
 by_cases hlt:k<t.length
 rotate_left
 ·have HE:=Hd (show zb1 t 0 t []=if st.length=1 then 0 else 4 by rw [HW.out,List.drop_eq_nil_of_le (by omega)];rfl)
  have hil:¬(k:Int)<(t.length:Int):=by omega
  go_wp2
  refine bodyPost_ret (v:=.tuple #[u4,.int .i64 0]) (by simp (maxDischargeDepth:=9) [results,results298,go_sem]) rfl ?_
  exact ⟨JudgeR.good rfl HE.out HOW.out HOB.out (by omega),HBW.out⟩
 have hil:(k:Int)<(t.length:Int):=by omega
 obtain ⟨y,hy⟩:∃y,t[k]?=some y:=⟨_,List.getElem?_eq_getElem hlt⟩
 have hny:=HN.out y (List.mem_of_getElem? hy)
 have HD:=Hd (zig t st hy)
 have HKP:=Hd (fun st'=>@zmh t k y st st' hy hny HRT.out hsl)
 have HER:=Hd (fun e=>@zrq t k y st e hny)
 have HC:=Hd (zx0 _ _ t k y st w0.heap.size w0 (Nat.le_refl _) ((HT.out.below (HBW.out.mono hB)).more (Nat.le_trans hB HBW.out.size)) (HOW.out.sls (by unfold maxLen;omega)) htl hy hny hsl HRT.out)
 clear hny hy
 go_wp2_with fail
 refine HC.out.mono ?_
 rintro u w2 ⟨hr,hb2⟩
 have HB2:=Hd (Below.next HBW.out hb2 HBW.out.size)
 have hsz:=HBW.out.size
 clear hb2
 cases hnd:zgo t k y st with
 | error e=>
  unfold NodeR at hr
  rw [hnd] at hr
  obtain rfl:=hr
  have he0:=HER.out e hnd
  have HE:=Hd (show zb1 t 0 t []=e by rw [HW.out,HD.out,hnd])
  have hne:(e != 0)=true:=by simpa using he0
  have HE0:=Hd he0
  clear hnd he0
  go_wp2
  refine bodyPost_ret (v:=.tuple #[.slice none 0 0,.int .i64 e]) (by simp (maxDischargeDepth:=9) [results,results298,go_sem]) rfl ?_
  exact ⟨JudgeR.bad HE0.out HE.out rfl,HB2.out⟩
 | ok st'=>
  unfold NodeR at hr
  rw [hnd] at hr
  obtain ⟨sv,rfl,ho,hq⟩:=hr
  have HE:=Hd (show zb1 t 0 t []=zb1 t (k+1) (t.drop (k+1)) st' by rw [HW.out,HD.out,hnd])
  have HKS:=Hd (HKP.out st' hnd)
  have HO2:=Hd ho
  have HQ2:=Hd (show ∀q,sv.ownBlock=some q→w.heap.size≤q from fun q h=>Nat.le_trans hsz (hq q h))
  clear hnd ho hq
  go_wp2
  exact ⟨⟨k+1,st',by omega,by go_num,HO2.out,HQ2.out,HB2.out,HE.out,HKS.out.1,HKS.out.2⟩,by simp [intOf];omega⟩
theorem zw4 (st:List Part):(((st.length:Int) != 1)=true↔¬st.length=1):=by
 simp only [bne_iff_ne,ne_eq]
 omega
def DepthR (e:Int) (u:Ending):Prop:=∃d:Int,u=.returned (.tuple #[.int .i64 d,.int .i64 e])
theorem zua (tv:Value) (t:List Nod) (B:Nat) (w:World) (hB:B≤w.heap.size) (ht:Sls cNod w B tv t) (htl:t.length≤2000) (hn:∀n∈t,NodOk n):
 Calls prog 264 #[tv] w fun u w'=>DepthR (zbx t) u∧Below w.heap.size w w':=by
 obtain ⟨A,cap,rfl,hc1,hm1,ha1⟩:=id ht
 have HT:=Hd ht
 have HN:=Hd hn
 have HJ:=Hd (zt9 _ t B w hB ht htl hn)
 clear ht hn ha1
 unfold maxLen at hm1
 by_cases h256:256<t.length
 ·have HE:=Hd (show zbx t=5 by unfold zbx;rw [if_pos h256])
  obtain ⟨te,hte⟩:∃z,zbx t=z:=⟨_,rfl⟩
  rw [hte] at HE ⊢
  clear hte
  have g256:(256:Int)<(t.length:Int):=by omega
  go_enter func264,ntmps264
  go_wp2
  refine bodyPost_ret (v:=.tuple #[.int .i64 0,.int .i64 5]) (by simp (maxDischargeDepth:=9) [results,results264,go_sem]) rfl ?_
  exact ⟨⟨0,by rw [HE.out]⟩,Below.refl _ _⟩
 have g256:¬(256:Int)<(t.length:Int):=by omega
 by_cases h0:t=[]
 ·have HE:=Hd (show zbx t=4 by unfold zbx;rw [if_neg h256,if_pos h0])
  have HW0:=Hd (show zb1 t 0 t []=4 by rw [h0];rfl)
  obtain ⟨te,hte⟩:∃z,zbx t=z:=⟨_,rfl⟩
  rw [hte] at HE ⊢
  clear hte h0 h256
  go_enter func264,ntmps264
  go_wp2_with fail
  refine HJ.out.mono ?_
  rintro u w2 ⟨hr,hb2⟩
  have HB2:=Hd hb2
  clear hb2
  rcases hr with ⟨e,he,hw,rfl⟩ | ⟨sv,st,rfl,hw,ho,hq,hl⟩
  ·obtain rfl:e=4:=hw.symm.trans HW0.out
   clear hw he
   go_wp2
   refine bodyPost_ret (v:=.tuple #[.int .i64 0,.int .i64 4]) (by simp (maxDischargeDepth:=9) [results,results264,go_sem]) rfl ?_
   exact ⟨⟨0,by rw [HE.out]⟩,HB2.out⟩
  obtain ⟨A2,cap2,rfl,hc2,hm2,ha2⟩:=id (ho.sls (by unfold maxLen;omega))
  have h1:¬st.length=1:=fun h=>by rw [HW0.out,if_pos h] at hw;omega
  have b1:((st.length:Int) != 1)=true:=(zw4 st).2 h1
  clear hw ho hq ha2 h1
  go_wp2
  refine bodyPost_ret (v:=.tuple #[.int .i64 0,.int .i64 4]) (by simp (maxDischargeDepth:=9) [results,results264,go_sem]) rfl ?_
  exact ⟨⟨0,by rw [HE.out]⟩,HB2.out⟩
 have HE0:=Hd (show zbx t=if zb1 t 0 t []≠0 then zb1 t 0 t [] else if (t.getLast?.map (·.kind))=some 3 then 4 else 0 by unfold zbx;rw [if_neg h256,if_neg h0])
 have hpos:0<t.length:=List.length_pos_iff.2 h0
 obtain ⟨m,hm⟩:∃m,t.length=m+1:=⟨t.length-1,by omega⟩
 obtain ⟨x,hx⟩:∃x,t[m]?=some x:=⟨_,List.getElem?_eq_getElem (by omega)⟩
 have hlast:t.getLast?=some x:=by rw [List.getLast?_eq_getElem?,show t.length-1=m by omega];exact hx
 obtain ⟨b,o,hA,hb,r⟩:=HT.out.get 11 zbq hx
 subst hA
 have r0:w.cell? ⟨b,o+m*11,none⟩=some (.int .u8 x.kind):=r 0 _ rfl
 rw [hlast] at HE0
 have HE1:Hid (zbx t=if zb1 t 0 t []≠0 then zb1 t 0 t [] else if x.kind=3 then 4 else 0):=Hd (by
  rw [HE0.out]
  simp only [Option.map_some,Option.some.injEq])
 obtain ⟨te,hte⟩:∃z,zbx t=z:=⟨_,rfl⟩
 rw [hte] at HE1 ⊢
 have hmz:(0:Int)≤(m:Int):=Int.natCast_nonneg _
 have hmi:(t.length:Int)-1=(m:Int):=by omega
 have hml:(m:Int)<(t.length:Int):=by omega
 have hblt:b<w.heap.size:=by omega
 clear hx hlast r HE0 h0 hm h256 hte hpos
 obtain ⟨xk,hxk⟩:∃z,x.kind=z:=⟨_,rfl⟩
 rw [hxk] at HE1 r0
 clear hxk x
 go_enter func264,ntmps264
 go_wp2_with fail
 refine HJ.out.mono ?_
 rintro u w2 ⟨hr,hb2⟩
 have HB2:=Hd hb2
 have r2:w2.cell? ⟨b,o+m*11,none⟩=some (.int .u8 xk):=(hb2.cell (p:=⟨b,o+m*11,none⟩) hblt).trans r0
 clear hb2 r0
 rcases hr with ⟨e,he,hw,rfl⟩ | ⟨sv,st,rfl,hw,ho,hq,hl⟩
 ·have HE2:=Hd (show te=e by rw [HE1.out,hw,if_pos he])
  have hne:(e != 0)=true:=by simpa using he
  clear hw he HE1
  go_wp2
  refine bodyPost_ret (v:=.tuple #[.int .i64 0,.int .i64 e]) (by simp (maxDischargeDepth:=9) [results,results264,go_sem]) rfl ?_
  exact ⟨⟨0,by rw [HE2.out]⟩,HB2.out⟩
 obtain ⟨A2,cap2,rfl,hc2,hm2,ha2⟩:=id (ho.sls (by unfold maxLen;omega))
 by_cases h1:st.length=1
 rotate_left
 ·have b1:((st.length:Int) != 1)=true:=(zw4 st).2 h1
  have HE2:=Hd (show te=4 by rw [HE1.out,hw,if_neg h1,if_pos (by decide)])
  clear hw h1 HE1 ho hq ha2
  go_wp2
  refine bodyPost_ret (v:=.tuple #[.int .i64 0,.int .i64 4]) (by simp (maxDischargeDepth:=9) [results,results264,go_sem]) rfl ?_
  exact ⟨⟨0,by rw [HE2.out]⟩,HB2.out⟩
 have HE2:=Hd (show te=if xk=3 then 4 else 0 by rw [HE1.out,hw,if_pos h1,if_neg (by decide)])
 have hs:=ho.sls (by unfold maxLen;omega)
 obtain ⟨p,hp⟩:∃p,st[0]?=some p:=⟨_,List.getElem?_eq_getElem (by omega)⟩
 obtain ⟨b3,o3,hA,hb3,rp⟩:=hs.get 2 zfz hp
 subst hA
 have q1:w2.cell? ⟨b3,o3+1,none⟩=some (.int .i64 p.depth):=by have:=rp 1 _ rfl;simpa using this
 rw [h1] at hc2 hm2 ⊢
 clear hw h1 HE1 ho hq ha2 hs hp rp
 by_cases h3:xk=3
 ·have HE3:=Hd (HE2.out.trans (if_pos h3))
  have b3':(xk==3)=true:=by simpa using h3
  clear h3
  go_wp2
  refine bodyPost_ret (v:=.tuple #[.int .i64 0,.int .i64 4]) (by simp (maxDischargeDepth:=9) [results,results264,go_sem]) rfl ?_
  exact ⟨⟨0,by rw [HE3.out]⟩,HB2.out⟩
 have HE3:=Hd (HE2.out.trans (if_neg h3))
 have b3':(xk==3)=false:=by simpa using h3
 clear h3
 go_wp2
 refine bodyPost_ret (v:=.tuple #[.int .i64 p.depth,.int .i64 0]) (by simp (maxDischargeDepth:=9) [results,results264,go_sem]) rfl ?_
 exact ⟨⟨p.depth,by rw [HE3.out]⟩,HB2.out⟩
end Go.Proofs.YtamcgggmfghljaaGreatDoor
