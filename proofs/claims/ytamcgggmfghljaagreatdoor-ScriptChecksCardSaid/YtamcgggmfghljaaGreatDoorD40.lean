/- Layer 9 (reference): the parser's call (printed by tools/gen_rph.py). -/
import Derived.Test.YtamcgggmfghljaaGreatDoorD35
import Derived.Test.YtamcgggmfghljaaGreatDoorD39
set_option maxRecDepth 100000
set_option maxHeartbeats 8000000
open Go.Proofs.Tryz
namespace Go.Proofs.YtamcgggmfghljaaGreatDoor
open Go.RowKit
theorem growR {e:Int} {f:Nat} {g:Stg} {L:List Tok} {i i':Nat} {T T':List Nod} (h:parS e f g (L.drop i,T)=.ok (L.drop i',T')):T.length+zay g≤T'.length:=zbi e f g _ _ h
def nxtA (e:Int) (f:Nat) (name:Tok) (fn n:Nat) (st:PSt):PRes:=if (zak e st).kind=11 then parS e f (.args name fn n) (zan st) else zd5 e name fn n st
theorem zte (e:Int) (f:Nat) (name:Tok) (fn n:Nat) (st:PSt):parS e (f+1) (.args name fn n) st=thenS (parS e f (.arg fn n) st) (nxtA e f name fn (n+1)):=rfl
def ArR (p:Nat) (s:zaa) (L:List Tok) (W:World) (ov:Value) (a:Int) (name:Tok) (fn b m f:Nat) (R:PRes) (nv:Value) (wr:World):Prop:=∃n:Nat,nv=.int .i64 n∧1≤n∧n≤L.length+1∧
 ((∃f' i' T' ov',R=nxtA s.length f' name fn n (L.drop i',T')∧n≤i'∧i'≤L.length∧10*(L.length-i')+3≤f'∧f'≤f∧L.length-i'+T'.length≤b∧1≤T'.length∧PR wr p s L ov' i' T' a 0∧PTo p W ov wr ov')∨
  (∃x er i' T' ov',R=.error (x,er)∧er≠0∧i'≤L.length+1∧T'.length≤m∧PR wr p s L ov' i' T' x er∧PTo p W ov wr ov'))
def EnR (p:Nat) (s:zaa) (L:List Tok) (W:World) (ov:Value) (a:Int) (name:Tok) (fn b m:Nat) (R:PRes) (nv:Value) (wr:World):Prop:=∃n:Nat,nv=.int .i64 n∧n≤L.length+1∧
 ((∃i' T' ov',R=zd5 s.length name fn n (L.drop i',T')∧i'≤L.length∧L.length-i'+T'.length≤b∧(1≤n→1≤T'.length)∧PR wr p s L ov' i' T' a 0∧PTo p W ov wr ov')∨
  (∃x er i' T' ov',R=.error (x,er)∧er≠0∧i'≤L.length+1∧T'.length≤m∧PR wr p s L ov' i' T' x er∧PTo p W ov wr ov'))
theorem zx5 (s:zaa) (L:List Tok) (hL:L.length≤1000) (hN:zfi L=true) (f:Nat) (hl:∀f' fn n,f'≤f→1≤fn→fn≤50→n≤2000→RunR 363 (arg1 fn n) s L f' (.arg fn n)):zzl s L (f+1):=by
 intro t p ov i T a W h hil hx hk hn hf hf5
 have HL:=Hd hl
 have HH:=Hd h
 have HPL:=Hd h.lt
 have HG0:=Hd (show ∀q,W.heap.size≤q→ov.ownBlock≠some q from fun q hq e=>by have:=h.ow.lt _ e;omega)
 obtain ⟨y,hy1,hy2⟩:=zry L i t hN hx hk
 have hil2:i+1<L.length:=(List.getElem?_eq_some_iff.1 hy1).1
 have H9:=Hd (show (zak s.length (L.drop (i+1),T)).kind=9 by
  rw [zhu _ L (i+1) T hil2]
  have:L[i+1]=y:=by rw [List.getElem?_eq_getElem hil2] at hy1;simpa using hy1
  rw [this,hy2])
 have HR:Hid (parS s.length (f+1) (.call t) (L.drop i,T)=if fnOf t.text=0 then .error (t.at_,10) else
  if (zak s.length (L.drop (i+2),T)).kind=10 then zd5 s.length t (fnOf t.text) 0 (L.drop (i+2),T) else parS s.length f (.args t (fnOf t.text) 0) (L.drop (i+2),T)):=Hd (by
  show (if fnOf t.text=0 then _ else thenS (zd6 s.length 9 (zan (L.drop i,T))) _)=_
  split
  ·rfl
  rw [zaz]
  unfold zd6
  rw [if_neg (fun e=>e H9.out),zaz]
  rfl)
 generalize parS s.length (f+1) (.call t) (L.drop i,T)=R at HR ⊢
 have HFN:=Hd (zw8 t.text)
 clear hl h hx hk hN hy1 hy2
 have K0:=Hd (Blk.new W 239 (cTok t).toArray)
 have HB0:=Hd (show Below W.heap.size W (W.alloc (.cells (cTok t).toArray 239)) from by go_grown)
 rw [show (cTok t).toArray=#[.int .u8 t.kind,.int .i64 t.num,str t.text,.int .i64 t.rect.c1,.int .i64 t.rect.r1,.int .i64 t.rect.c2,.int .i64 t.rect.r2,.int .i64 t.at_] from rfl] at K0 HB0 ⊢
 have H0:=Hd (HH.out.below HB0.out)
 have hi0:(0:Int)≤(i:Int):=Int.natCast_nonneg _
 have hi9:(i:Int)≤1000:=by omega
 go_enter func349,ntmps349
 go_upto_region 1 with (fail)
 obtain ⟨W1,hW1⟩:∃W1,W.alloc (.cells #[.int .u8 t.kind,.int .i64 t.num,str t.text,.int .i64 t.rect.c1,.int .i64 t.rect.r1,.int .i64 t.rect.c2,.int .i64 t.rect.r2,.int .i64 t.at_] 239)=W1:=⟨_,rfl⟩
 rw [hW1] at K0 HB0 H0 ⊢
 clear hW1
 have KU:Hid (∀W' ov',PTo p W1 ov W' ov'→Blk W' W.heap.size 239 #[.int .u8 t.kind,.int .i64 t.num,str t.text,.int .i64 t.rect.c1,.int .i64 t.rect.r1,.int .i64 t.rect.c2,.int .i64 t.rect.r2,.int .i64 t.at_]):=Hd (fun W' ov' h=>h.blk K0.out (by have:=HPL.out;omega) (HG0.out _ (Nat.le_refl _)))
 have TU:Hid (∀W' ov',PTo p W1 ov W' ov'→PTo p W ov W' ov'):=Hd (fun W' ov' h=>(PTo.below (PTo.refl p W ov) HB0.out).trans h)
 have x2:W1.cell? ⟨W.heap.size,2,none⟩=some (str t.text):=K0.out.cell 2
 go_wp2_with fail
 refine (zl8 t.text _).mono ?_
 rintro u w2 ⟨rfl,hb2⟩
 have H2:=Hd (H0.out.below hb2)
 have U2:=Hd (PTo.below (PTo.refl p W1 ov) hb2)
 clear hb2 x2
 obtain ⟨fn,hfn⟩:∃fn,fnOf t.text=fn:=⟨_,rfl⟩
 rw [hfn] at HR HFN ⊢
 clear hfn
 by_cases hf0:fn=0
 ·rw [if_pos hf0]
  have x7:w2.cell? ⟨W.heap.size,7,none⟩=some (.int .i64 t.at_):=(KU.out _ _ U2.out).cell 7
  have HR2:=Hd (HR.out.trans (if_pos hf0))
  clear hf0 HR
  go_wp2_with fail
  refine (zbp p s L ov (i+1) T a t.at_ 10 _ H2.out).mono ?_
  rintro u w3 ⟨rfl,ha,ht⟩
  have H3:=Hd ha
  have U3:=Hd (U2.out.trans ht)
  clear ha ht x7
  go_wp2
  refine bR ?_
  exact za3 HR2.out (by decide) (by omega) (by omega) H3.out (TU.out _ _ U3.out)
 rw [if_neg hf0]
 have hfr:=HFN.out hf0
 have HR2:=Hd (HR.out.trans (if_neg hf0))
 obtain ⟨hfr1,hfr2⟩:=hfr
 have hfi1:(1:Int)≤(fn:Int):=by omega
 have hfi2:(fn:Int)≤50:=by omega
 clear hf0 HR HFN
 go_wp2_with fail
 refine (zez _ H2.out (by omega) (by decide) H9.out).mono ?_
 rintro u w3 ⟨rfl, -,ha,ht⟩
 have H3:=Hd (show PR w3 p s L ov (i+2) T a 0 from ha)
 have U3:=Hd (U2.out.trans ht)
 have HN3:=Hd (zcl p s L ov (i+2) T a 0 _ H3.out (by omega))
 clear ha ht H9
 obtain ⟨q,hq⟩:∃q,zak s.length (L.drop (i+2),T)=q:=⟨_,rfl⟩
 rw [hq] at HR2 HN3
 clear hq
 have hf0:∀W,(Instr.field 239 (.agg #[.int .u8 q.kind,.int .i64 q.num,str q.text,.int .i64 q.rect.c1,.int .i64 q.rect.r1,.int .i64 q.rect.c2,.int .i64 q.rect.r2,.int .i64 q.at_]) 0).run prog W=.ok (.int .u8 q.kind) W:=fun _=>by rfl
 rw [show (cTok q).toArray=#[.int .u8 q.kind,.int .i64 q.num,str q.text,.int .i64 q.rect.c1,.int .i64 q.rect.r1,.int .i64 q.rect.c2,.int .i64 q.rect.r2,.int .i64 q.at_] from rfl] at HN3
 go_wp2_with fail
 refine HN3.out.mono ?_
 rintro u w4 ⟨rfl,hb4⟩
 have H4:=Hd (H3.out.below hb4)
 have U4:=Hd (PTo.below U3.out hb4)
 clear hb4 HN3
 go_upto_if 27 with (fail)
 go_cut [6] from 27 (fun nv wx=>EnR p s L W1 ov a t fn (L.length-i+T.length) (T.length+(L.length-i)+(f+1)) R nv wx)
 case first=>
  by_cases hq:q.kind=10
  ·have bq:(q.kind != 10)=false:=by simpa using hq
   have HR3:=Hd (HR2.out.trans (if_pos hq))
   clear hq HR2
   go_wp2
   go_meet
   case rel=>exact ⟨0,rfl,by omega,.inl ⟨i+2,T,ov,HR3.out,by omega,by omega,fun h=>by omega,H4.out,U4.out⟩⟩
  have bq:(q.kind != 10)=true:=by simpa using hq
  obtain ⟨f1,rfl⟩:∃f1,f=f1+1:=⟨f-1,by omega⟩
  have HR3:=Hd ((HR2.out.trans (if_neg hq)).trans (zte _ _ _ _ _ _))
  clear hq HR2
  have HA0:Hid (RunR 363 (fun p=>#[.pointer (some ⟨p,0,none⟩),.int .u8 fn,.int .i64 0]) s L f1 (.arg fn 0)):=Hd (HL.out f1 fn 0 (by omega) hfr1 hfr2 (by omega))
  go_wp2_with fail
  refine (HA0.out p ov (i+2) T a _ H4.out (by omega) (by omega) (by simp only [zbd];omega) (by omega)).mono ?_
  intro u w5 hw
  have HLP0:Hid (u=.returned (.tuple #[])∧ArR p s L W1 ov a t fn (L.length-i+T.length) (T.length+(L.length-i)+(f1+1+1)) (f1+1) R (.int .i64 1) w5):=Hd (by
   rcases zba hw with ⟨i3,T3,ov3,hr,hi3,rfl,ha,ht⟩ | ⟨x,er,i3,T3,ov3,hr,he,hi3,hm,rfl,ha,ht⟩
   ·have hl3:=zjy hr (by omega) hi3
    have hg3:=growR hr
    simp only [zay] at hl3 hg3
    exact ⟨rfl,1,rfl,by omega,by omega,.inl ⟨f1,i3,T3,ov3,by rw [HR3.out,hr];rfl,by omega,hi3,by omega,by omega,by omega,by omega,ha,U4.out.trans ht⟩⟩
   exact ⟨rfl,1,rfl,by omega,by omega,.inr ⟨x,er,i3,T3,ov3,by rw [HR3.out,hr];rfl,he,hi3,by omega,ha,U4.out.trans ht⟩⟩)
  clear hw
  obtain rfl:=HLP0.out.1
  go_wp2_with fail
  go_loopw [6] (fun nv wr=>ArR p s L W1 ov a t fn (L.length-i+T.length) (T.length+(L.length-i)+(f1+1+1)) (f1+1) R nv wr) (fun _ wr=>zjv p L.length wr)
  case atStart=>exact HLP0.out.2
  obtain ⟨n,rfl,hn1,hn2,hcs⟩:=hrel
  have hnz:(1:Int)≤(n:Int):=by omega
  have hnx:(n:Int)≤1001:=by omega
  rcases hcs with ⟨f',i',T',ov',hr,hni,hi',hf',hff,hb',hT1,ha,ht⟩ | ⟨x,er,i',T',ov',hr,he,hi',hm,ha,ht⟩
  ·have HR4:=Hd hr
   have HM:=Hd (ze1 ha L.length)
   have H5:=Hd ha
   have U5:=Hd ht
   have HHL:Hid ((zak s.length (L.drop i',T')).kind≠0→i'<L.length):=Hd zfk
   have HN5:=Hd (zcl p s L ov' i' T' a 0 _ H5.out (by omega))
   obtain ⟨_,_, -, -, -, -, -,c5, -, -,dl⟩:=ha.cells
   have hi0':(0:Int)≤(i':Int):=Int.natCast_nonneg _
   have hi9':(i':Int)≤1000:=by omega
   clear hr ha ht HLP0 hf0
   obtain ⟨q,hq⟩:∃q,zak s.length (L.drop i',T')=q:=⟨_,rfl⟩
   unfold nxtA at HR4
   rw [hq] at HR4 HN5 HHL
   clear hq
   have hf0:∀W,(Instr.field 239 (.agg #[.int .u8 q.kind,.int .i64 q.num,str q.text,.int .i64 q.rect.c1,.int .i64 q.rect.r1,.int .i64 q.rect.c2,.int .i64 q.rect.r2,.int .i64 q.at_]) 0).run prog W=.ok (.int .u8 q.kind) W:=fun _=>by rfl
   rw [show (cTok q).toArray=#[.int .u8 q.kind,.int .i64 q.num,str q.text,.int .i64 q.rect.c1,.int .i64 q.rect.r1,.int .i64 q.rect.c2,.int .i64 q.rect.r2,.int .i64 q.at_] from rfl] at HN5
   go_wp2_with fail
   refine HN5.out.mono ?_
   rintro u w6 ⟨rfl,hb6⟩
   have H6:=Hd (H5.out.below hb6)
   have U6:=Hd (PTo.below U5.out hb6)
   clear hb6 HN5 c5 dl
   by_cases hq:q.kind=11
   rotate_left
   ·have bq:(q.kind==11)=false:=by simpa using hq
    have HR5:=Hd (HR4.out.trans (if_neg hq))
    clear hq HR4 HHL
    go_wp2
    go_meet
    case rel=>exact ⟨n,rfl,hn2,.inl ⟨i',T',ov',HR5.out,hi',hb',fun _=>hT1,H6.out,U6.out⟩⟩
   have bq:(q.kind==11)=true:=by simpa using hq
   have hil':i'<L.length:=HHL.out (by omega)
   obtain ⟨f2,rfl⟩:∃f2,f'=f2+1:=⟨f'-1,by omega⟩
   have HR5:=Hd (HR4.out.trans ((if_pos hq).trans (zte _ _ _ _ _ _)))
   clear hq HR4 HHL
   obtain ⟨_,_, -, -,c2, -, -, -,cf, -,dl⟩:=H6.out.cells
   have H7:=Hd H6.out.step
   have HA:Hid (RunR 363 (fun p=>#[.pointer (some ⟨p,0,none⟩),.int .u8 fn,.int .i64 n]) s L f2 (.arg fn n)):=Hd (HL.out f2 fn n (by omega) hfr1 hfr2 (by omega))
   go_wp2_with fail
   refine (HA.out p ov' (i'+1) T' a _ H7.out.1 (by omega) (by omega) (by simp only [zbd];omega) (by omega)).mono ?_
   intro u w8 hw
   clear c2 cf dl
   have HNX:Hid (u=.returned (.tuple #[])∧ArR p s L W1 ov a t fn (L.length-i+T.length) (T.length+(L.length-i)+(f1+1+1)) (f1+1) R (.int .i64 ((n:Int)+1)) w8∧zjv p L.length w8<zjv p L.length wr):=Hd (by
    rcases zba hw with ⟨i3,T3,ov3,hr,hi3,rfl,ha,ht⟩ | ⟨x,er,i3,T3,ov3,hr,he,hi3,hm,rfl,ha,ht⟩
    ·have hl3:=zjy hr (by omega) hi3
     have hg3:=growR hr
     simp only [zay] at hl3 hg3
     refine ⟨rfl,⟨n+1,rfl,by omega,by omega,.inl ⟨f2,i3,T3,ov3,by rw [HR5.out,zaz,hr];rfl,by omega,hi3,by omega,by omega,by omega,by omega,ha,(U6.out.trans H7.out.2).trans ht⟩⟩,?_⟩
     rw [ze1 ha,HM.out]
     omega
    refine ⟨rfl,⟨n+1,rfl,by omega,by omega,.inr ⟨x,er,i3,T3,ov3,by rw [HR5.out,zaz,hr];rfl,he,hi3,by omega,ha,(U6.out.trans H7.out.2).trans ht⟩⟩,?_⟩
    rw [zlg ha he,HM.out]
    omega)
   clear hw
   obtain rfl:=HNX.out.1
   go_wp2
   exact HNX.out.2
  have H5:=Hd ha
  have U5:=Hd ht
  have HR5:=Hd hr
  obtain ⟨_,_, -, -, -, -, -,c5, -, -,dl⟩:=ha.cells
  have e5:(er==0)=false:=by simpa using he
  clear hr ha ht HLP0 hf0
  go_wp2
  go_meet
  case rel=>exact ⟨n,rfl,hn2,.inr ⟨x,er,i',T',ov',HR5.out,he,hi',by omega,H5.out,U5.out⟩⟩
 case rest=>
  obtain ⟨n,rfl,hn2,hcs⟩:=hcut
  have hnz:(0:Int)≤(n:Int):=by omega
  have hnx:(n:Int)≤1001:=by omega
  clear HL HR2 H4 U4 H3 U3 H2 U2 H0 hf0
  rcases hcs with ⟨i',T',ov',hr,hi',hb',hT1,ha,ht⟩ | ⟨x,er,i',T',ov',hr,he,hi',hm,ha,ht⟩
  rotate_left
  ·have H5:=Hd ha
   have U5:=Hd ht
   have HR5:=Hd hr
   obtain ⟨_,_, -, -, -, -, -,c5, -, -,dl⟩:=ha.cells
   have e5:(er != 0)=true:=by simpa using he
   clear hr ha ht
   go_wp2
   refine bR ?_
   exact za3 HR5.out he hi' hm H5.out (TU.out _ _ U5.out)
  have H5:=Hd ha
  have U5:=Hd ht
  have HR5:=Hd hr
  obtain ⟨_,_, -, -, -, -, -,c5, -, -,dl⟩:=ha.cells
  have HAR:=Hd (zjn fn hfr1 hfr2)
  have HA1:=Hd (show 1≤(zam fn).1 from by unfold zam;(repeat' split);all_goals omega)
  clear hr ha ht
  by_cases hw:(zak s.length (L.drop i',T')).kind=10
  rotate_left
  ·have HR6:=Hd (show R=.error ((zak s.length (L.drop i',T')).at_,4) by rw [HR5.out];unfold zd5;rw [if_pos hw])
   go_wp2_with fail
   refine (zim _ H5.out (by omega) hw).mono ?_
   rintro u w6 ⟨rfl,ha,ht⟩
   have H6:=Hd ha
   have U6:=Hd (U5.out.trans ht)
   clear ha ht hw c5 dl HR5
   generalize (zak s.length (L.drop i',T')).at_=x at *
   go_wp2_with fail
   refine (HAR.out _).mono ?_
   rintro u w7 ⟨rfl,rfl⟩
   generalize (zam fn).1=m0 at *
   generalize (zam fn).2.1=m1 at *
   have x7:w6.cell? ⟨W.heap.size,7,none⟩=some (.int .i64 t.at_):=(KU.out _ _ U6.out).cell 7
   obtain ⟨_,_, -, -, -, -, -,c5, -, -,dl⟩:=H6.out.cells
   by_cases hm0:(n:Int)<m0
   ·go_wp2_with fail
    refine (zdi p s L ov' i' T' x 4 t.at_ 11 _ H6.out (by decide)).mono ?_
    rintro u w8 ⟨rfl,rfl⟩
    go_wp2
    refine bR ?_
    exact za3 HR6.out (by decide) (by omega) (by omega) H6.out (TU.out _ _ U6.out)
   by_cases hm1:m1<(n:Int)
   ·go_wp2_with fail
    refine (zdi p s L ov' i' T' x 4 t.at_ 11 _ H6.out (by decide)).mono ?_
    rintro u w8 ⟨rfl,rfl⟩
    go_wp2
    refine bR ?_
    exact za3 HR6.out (by decide) (by omega) (by omega) H6.out (TU.out _ _ U6.out)
   go_wp2
   refine bR ?_
   exact za3 HR6.out (by decide) (by omega) (by omega) H6.out (TU.out _ _ U6.out)
  have HR6:=Hd (show R=if (n:Int)<(zam fn).1∨(zam fn).2.1<(n:Int) then .error (t.at_,11) else if 46≤fn∧(T'.getLast?.map (·.kind))≠some 2∧(T'.getLast?.map (·.kind))≠some 3 then .error (t.at_,4) else .ok (L.drop (i'+1),T'++ [{ nod0 7 with fn:=fn,n:=n }]) by
   rw [HR5.out]
   unfold zd5
   rw [if_neg (fun e=>e hw),zaz]
   rfl)
  go_wp2_with fail
  refine (zez _ H5.out (by omega) (by decide) hw).mono ?_
  rintro u w6 ⟨rfl,hil',ha,ht⟩
  have H6:=Hd ha
  have U6:=Hd (U5.out.trans ht)
  clear ha ht hw c5 dl HR5
  go_wp2_with fail
  refine (HAR.out _).mono ?_
  rintro u w7 ⟨rfl,rfl⟩
  obtain ⟨m0,hm0⟩:∃x,(zam fn).1=x:=⟨_,rfl⟩
  obtain ⟨m1,hm1⟩:∃x,(zam fn).2.1=x:=⟨_,rfl⟩
  rw [hm0,hm1] at HR6 ⊢
  rw [hm0] at HA1
  clear hm0 hm1 HAR
  have x7:w6.cell? ⟨W.heap.size,7,none⟩=some (.int .i64 t.at_):=(KU.out _ _ U6.out).cell 7
  obtain ⟨_,_, -, -, -, -, -,c5, -, -,dl⟩:=H6.out.cells
  by_cases hcnt:(n:Int)<m0∨m1<(n:Int)
  ·have HR7:=Hd (HR6.out.trans (if_pos hcnt))
   have HC:=Hd (zbp p s L ov' (i'+1) T' a t.at_ 11 _ H6.out)
   have HDO:=Hd hcnt
   by_cases hm0:(n:Int)<m0
   case' neg=>have hm1:m1<(n:Int):=HDO.out.resolve_left hm0
   all_goals
    clear hcnt HR6
    go_wp2_with fail
    refine HC.out.mono ?_
    rintro u w8 ⟨rfl,ha,ht⟩
    have H8:=Hd ha
    have U8:=Hd (U6.out.trans ht)
    clear ha ht x7 c5 dl
    obtain ⟨_,_, -, -, -, -, -,c5, -, -,dl⟩:=H8.out.cells
    go_wp2
    refine bR ?_
    exact za3 HR7.out (by decide) (by omega) (by omega) H8.out (TU.out _ _ U8.out)
  have HR7:=Hd (HR6.out.trans (if_neg hcnt))
  have hm0:¬(n:Int)<m0:=fun h=>hcnt (.inl h)
  have hm1:¬m1<(n:Int):=fun h=>hcnt (.inr h)
  have hTn:1≤T'.length:=hT1 (by have:=HA1.out;omega)
  clear hcnt HR6
  obtain ⟨m,hm⟩:∃m,T'.length=m+1:=⟨T'.length-1,by omega⟩
  have hx:=List.getElem?_eq_getElem (l:=T') (i:=m) (by omega)
  have hlast:T'.getLast?=some (T'[m]'(by omega)):=by rw [List.getLast?_eq_getElem?,show T'.length-1=m by omega];exact hx
  generalize T'[m]'(by omega)=x at hx hlast
  obtain ⟨g,cap,hv,hcells⟩:∃g cap,ov'=.slice (some ⟨g,0,none⟩) (m+1) cap∧w6.cell? ⟨g,m*11,none⟩=some (.int .u8 x.kind):=by
   obtain ⟨g,cap,hv,_⟩:=World.ownsRow.form H6.out.ow (by omega)
   have hs:=H6.out.ow.sls (by unfold maxLen;omega)
   rw [hv] at hs
   obtain ⟨b,o,e1,_,hr⟩:=Sls.get hs 11 zbq hx
   injection e1 with e1
   injection e1 with e1 e2
   subst e1 e2
   refine ⟨g,cap,by rw [hv,hm],?_⟩
   have:=hr 0 _ rfl
   rwa [Nat.zero_add,Nat.add_zero] at this
  have HR8:Hid (R=if 46≤fn∧x.kind≠2∧x.kind≠3 then .error (t.at_,4) else .ok (L.drop (i'+1),T'++ [{ nod0 7 with fn:=fn,n:=n }])):=Hd (by
   rw [HR7.out,hlast]
   simp only [Option.map_some,ne_eq,Option.some.injEq])
  obtain ⟨_,_, -, -, -,c3, -, -, -, -, -⟩:=H6.out.cells
  have p3:w6.cell? ⟨p,3,none⟩=some (.slice (some ⟨g,0,none⟩) (m+1) cap):=by rw [← hv];exact c3
  have HV:=Hd hv
  have hmz:(0:Int)≤(m:Int):=by omega
  have hmy:(m:Int)≤3000:=by omega
  have hTm:T'.length≤3000:=by omega
  clear hx hlast hm hv HR7 c3
  generalize x.kind=xk at HR8 hcells
  clear x
  go_upto_region 19 with (fail)
  go_region
  have HH10:=Hd (H6.out.below ((Below.refl _ _).drew))
  have UU10:=Hd (PTo.below U6.out ((Below.refl _ _).drew))
  clear hcells p3 H6 U6 x7 c5 dl
  have H6:=HH10
  have U6:=UU10
  clear HH10 UU10
  have x7:w6.drew.cell? ⟨W.heap.size,7,none⟩=some (.int .i64 t.at_):=(KU.out _ _ U6.out).cell 7
  by_cases hbad:46≤fn∧xk≠2∧xk≠3
  ·have HR9:=Hd (HR8.out.trans (if_pos hbad))
   obtain ⟨h46,k2,k3⟩:=hbad
   have g46:(46:Int)≤(fn:Int):=by omega
   have b2:(xk != 2)=true:=by simpa using k2
   have b3:(xk != 3)=true:=by simpa using k3
   clear HR8 h46 k2 k3
   go_wp2_with fail
   refine (zbp p s L ov' (i'+1) T' a t.at_ 4 _ H6.out).mono ?_
   rintro u w8 ⟨rfl,ha,ht⟩
   have H8:=Hd ha
   have U8:=Hd (U6.out.trans ht)
   clear ha ht x7
   have KN9:=Hd (Blk.new w8 297 (cNod { nod0 7 with fn:=fn,n:=n }).toArray)
   have HN9:=Hd (H8.out.ow.alloc (.cells (cNod { nod0 7 with fn:=fn,n:=n }).toArray 297))
   have HW9:=Hd (show Below w8.heap.size w8 (w8.alloc (.cells (cNod { nod0 7 with fn:=fn,n:=n }).toArray 297)) by go_grown)
   obtain ⟨_,_, -, -, -,d3, -, -,df, -,dl⟩:=H8.out.cells
   go_wp2_with (at_builtin;refine RowKit.Hid.out ?_)
   refine Hd ?_
   refine zbf rfl _ _ rfl { nod0 7 with fn:=fn,n:=n } HN9.out KN9.out rfl rfl (by omega) ?_
   intro A9 m9 cp9 y9 o9 q9
   have HF9:=Hd (H8.out.putAt HW9.out o9 q9)
   obtain ⟨e3,e3f⟩:=H8.out.slot HW9.out q9
   clear o9 q9 d3 df dl
   go_wp2
   refine bE ?_
   exact za3 HR9.out (by decide) (by omega) (by simp;omega) HF9.out.1 (TU.out _ _ (U8.out.trans HF9.out.2))
  have HR9:=Hd (HR8.out.trans (if_neg hbad))
  have HBD:=Hd hbad
  clear HR8 hbad
  obtain ⟨V,hV⟩:∃V,w6.drew=V:=⟨_,rfl⟩
  rw [hV] at H6 U6 x7 ⊢
  clear hV
  by_cases g46:(46:Int)≤(fn:Int)
  rotate_left
  ·have KN9:=Hd (Blk.new V 297 (cNod { nod0 7 with fn:=fn,n:=n }).toArray)
   have HN9:=Hd (H6.out.ow.alloc (.cells (cNod { nod0 7 with fn:=fn,n:=n }).toArray 297))
   have HW9:=Hd (show Below V.heap.size V (V.alloc (.cells (cNod { nod0 7 with fn:=fn,n:=n }).toArray 297)) by go_grown)
   obtain ⟨_,_, -, -, -,d3, -, -,df, -,dl⟩:=H6.out.cells
   go_wp2_with (at_builtin;refine RowKit.Hid.out ?_)
   refine Hd ?_
   refine zbf rfl _ _ rfl { nod0 7 with fn:=fn,n:=n } HN9.out KN9.out rfl rfl (by omega) ?_
   intro A9 m9 cp9 y9 o9 q9
   have HF9:=Hd (H6.out.putAt HW9.out o9 q9)
   obtain ⟨e3,e3f⟩:=H6.out.slot HW9.out q9
   clear o9 q9 d3 df dl
   go_wp2
   refine bE ?_
   exact zbl HR9.out (by omega) HF9.out.1 (TU.out _ _ (U6.out.trans HF9.out.2))
  by_cases k2:xk=2
  ·have b2:(xk != 2)=false:=by simpa using k2
   clear k2
   have KN9:=Hd (Blk.new V 297 (cNod { nod0 7 with fn:=fn,n:=n }).toArray)
   have HN9:=Hd (H6.out.ow.alloc (.cells (cNod { nod0 7 with fn:=fn,n:=n }).toArray 297))
   have HW9:=Hd (show Below V.heap.size V (V.alloc (.cells (cNod { nod0 7 with fn:=fn,n:=n }).toArray 297)) by go_grown)
   obtain ⟨_,_, -, -, -,d3, -, -,df, -,dl⟩:=H6.out.cells
   go_wp2_with (at_builtin;refine RowKit.Hid.out ?_)
   refine Hd ?_
   refine zbf rfl _ _ rfl { nod0 7 with fn:=fn,n:=n } HN9.out KN9.out rfl rfl (by omega) ?_
   intro A9 m9 cp9 y9 o9 q9
   have HF9:=Hd (H6.out.putAt HW9.out o9 q9)
   obtain ⟨e3,e3f⟩:=H6.out.slot HW9.out q9
   clear o9 q9 d3 df dl
   go_wp2
   refine bE ?_
   exact zbl HR9.out (by omega) HF9.out.1 (TU.out _ _ (U6.out.trans HF9.out.2))
  have b2:(xk != 2)=true:=by simpa using k2
  have k3:xk=3:=Classical.byContradiction (fun h=>HBD.out ⟨by omega,k2,h⟩)
  have b3:(xk != 3)=false:=by simpa using k3
  clear k2 k3
  have KN9:=Hd (Blk.new V 297 (cNod { nod0 7 with fn:=fn,n:=n }).toArray)
  have HN9:=Hd (H6.out.ow.alloc (.cells (cNod { nod0 7 with fn:=fn,n:=n }).toArray 297))
  have HW9:=Hd (show Below V.heap.size V (V.alloc (.cells (cNod { nod0 7 with fn:=fn,n:=n }).toArray 297)) by go_grown)
  obtain ⟨_,_, -, -, -,d3, -, -,df, -,dl⟩:=H6.out.cells
  go_wp2_with (at_builtin;refine RowKit.Hid.out ?_)
  refine Hd ?_
  refine zbf rfl _ _ rfl { nod0 7 with fn:=fn,n:=n } HN9.out KN9.out rfl rfl (by omega) ?_
  intro A9 m9 cp9 y9 o9 q9
  have HF9:=Hd (H6.out.putAt HW9.out o9 q9)
  obtain ⟨e3,e3f⟩:=H6.out.slot HW9.out q9
  clear o9 q9 d3 df dl
  go_wp2
  refine bE ?_
  exact zbl HR9.out (by omega) HF9.out.1 (TU.out _ _ (U6.out.trans HF9.out.2))
theorem zxy (s:zaa) (i:Nat):(zck s i).2≤2*s.length+1:=by
 unfold zck
 split
 ·exact zff s i 0
 split
 ·exact zff s i 1
 split
 ·exact zff s i 2
 split
 ·exact zff s i 3
 exact zff s i 4
theorem zop (s:zaa) (i:Nat) (h:i<s.length) (hc:ub s i≠32) (h0:(zck s i).2=0):zdf s i=none:=by
 unfold zdf
 conv=>lhs;unfold zd1
 rw [if_neg (by omega),if_neg hc,if_pos h0]
theorem zqm (s:zaa) (i:Nat) (h:i<s.length) (hc:ub s i≠32) (h1:0<(zck s i).2):
 zdf s i=(zdf s (i+(zck s i).2)).map ((zck s i).1::·):=by
 unfold zdf
 conv=>lhs;unfold zd1
 rw [if_neg (by omega),if_neg hc,if_neg (by omega)]
 rw [zep s s.length (s.length+1) (i+(zck s i).2) (by omega) (by omega) (by omega) (by omega)]
def TokensR (s:zaa) (w:World) (u:Ending) (w':World):Prop:=∃v,∃p:Int,u=.returned (.tuple #[v,.int .i64 p,.int .i64 (zae s).2])∧Sls cTok w' w'.heap.size v (zae s).1∧Below w.heap.size w w'∧∀q,v.ownBlock=some q→w.heap.size≤q
theorem TokensR.of {s:zaa} {w:World} {u:Ending} {w':World} {l:List Tok} {e:Int} (h:zae s=(l,e)) (v:Value) (p:Int) (hu:u=.returned (.tuple #[v,.int .i64 p,.int .i64 e])) (hs:Sls cTok w' w'.heap.size v l) (hb:Below w.heap.size w w') (hq:∀q,v.ownBlock=some q→w.heap.size≤q):TokensR s w u w':=
 ⟨v,p,by rw [h];exact hu,by rw [h];exact hs,hb,hq⟩
theorem zoz (s:zaa) (w:World) (hs:s.length≤1000000):
 Calls prog 260 #[str s] w fun u w'=>TokensR s w u w':=by
 obtain ⟨it,ti0,ti1,ti2,ti3⟩:=znw
 by_cases h256:256<s.length
 ·have h256':(256:Int)<s.length:=by omega
  have HE:=Hd (show zae s=([],5) by unfold zae;rw [if_pos h256])
  go_enter func260,ntmps260
  go_wp2
  refine bodyPost_ret (v:=.tuple #[.slice none 0 0,.int .i64 0,.int .i64 5]) (by simp (maxDischargeDepth:=9) [results,results260,go_sem]) rfl ?_
  exact TokensR.of HE.out _ _ rfl (Sls.nil _ _ _ _ _) (by go_grown) (fun q hq=>by simp [Value.ownBlock] at hq)
 have h256':¬(256:Int)<s.length:=by omega
 have h256n:s.length≤256:=by omega
 go_enter func260,ntmps260
 go_wp2_with fail
 go_loopw [5] (fun v wr=>∃k:Nat,k≤s.length∧v=.int .i64 k∧(∀j,j<k→32≤ub s j∧ub s j≤126)∧w=wr) (fun v _=>s.length-(intOf v).toNat)
 case atStart=>exact ⟨0,by omega,rfl,fun j hj=>by omega,rfl⟩
 obtain ⟨k,hk,rfl,hall,rfl⟩:=hrel
 have HA:=Hd hall
 clear hall
 have k0:(0:Int)≤(k:Int):=by omega
 by_cases hkn:k<s.length
 ·have hk1:(k:Int)<(s.length:Int):=by omega
  have hx:=za2 s k (by rw [zad];exact hkn)
  have HU:=Hd (show ub s k=(s.getD k 0).toNat from rfl)
  generalize s.getD k 0=c at hx HU
  by_cases hc:32≤c.toNat∧c.toNat≤126
  ·have c1:¬(c.toNat:Int)<32:=by omega
   have c2:¬126<(c.toNat:Int):=by omega
   have HA2:=Hd (show ∀j,j<k+1→32≤ub s j∧ub s j≤126 from fun j hj=>by
    rcases Nat.lt_or_ge j k with h | h
    ·exact HA.out j h
    obtain rfl:j=k:=by omega
    rw [HU.out];exact hc)
   clear hc
   go_wp2
   exact ⟨⟨k+1,by omega,by go_num,HA2.out,trivial⟩,by simp [intOf];omega⟩
  have HE:=Hd (zij s h256n (znm s k hkn (by rw [HU.out];exact hc)))
  by_cases c1:c.toNat<32
  ·have c1':(c.toNat:Int)<32:=by omega
   clear hc
   go_wp2
   refine bodyPost_ret (v:=.tuple #[.slice none 0 0,.int .i64 k,.int .i64 4]) (by simp (maxDischargeDepth:=9) [results,results260,go_sem]) rfl ?_
   exact TokensR.of HE.out _ _ rfl (Sls.nil _ _ _ _ _) (by go_grown) (fun q hq=>by simp [Value.ownBlock] at hq)
  have c1':¬(c.toNat:Int)<32:=by omega
  have c2':126<(c.toNat:Int):=by omega
  clear hc
  go_wp2
  refine bodyPost_ret (v:=.tuple #[.slice none 0 0,.int .i64 k,.int .i64 4]) (by simp (maxDischargeDepth:=9) [results,results260,go_sem]) rfl ?_
  exact TokensR.of HE.out _ _ rfl (Sls.nil _ _ _ _ _) (by go_grown) (fun q hq=>by simp [Value.ownBlock] at hq)
 have hk1:¬(k:Int)<(s.length:Int):=by omega
 have HP:=Hd (zjs s (fun j hj=>HA.out j (by omega)))
 clear HA
 go_wp2_with fail
 go_loopw [6,7] (fun v iv w3=>∃(i:Nat) (l:List Tok),i≤2000∧iv=.int .i64 i∧l.length≤i∧Own cTok 239 8 w3 v l∧OutTo w (.slice none 0 0) w3 v∧zdf s 0=(zdf s i).map (l++·)) (fun _ iv _=>2000-(intOf iv).toNat)
 case atStart=>exact ⟨0,[],by omega,rfl,by simp,Own.nil _ _ _ _,OutTo.refl _ _,by cases zdf s 0 <;> simp⟩
 rename World=>wr
 obtain ⟨i,l,hi2,rfl,hll,hown,hot,htk⟩:=hrel
 have HO:=Hd hown
 have HT:=Hd hot
 have HK:=Hd htk
 have HBW:=Hd (hot.old (B:=w.heap.size) (Nat.le_refl _) (fun k hk=>by simp [Value.ownBlock] at hk))
 clear hown hot htk
 have i0:(0:Int)≤(i:Int):=by omega
 have i2:(i:Int)≤2000:=by omega
 by_cases hin:i<s.length
 rotate_left
 ·have hi1:¬(i:Int)<(s.length:Int):=by omega
  have HE:=Hd (zg9 s h256n HP.out (l:=l) (by rw [HK.out,zm5 s i (by omega)];simp))
  have HS:=Hd (HO.out.sls (by unfold maxLen;omega))
  go_wp2
  refine bodyPost_ret (v:=.tuple #[u6,.int .i64 0,.int .i64 0]) (by simp (maxDischargeDepth:=9) [results,results260,go_sem]) rfl ?_
  exact TokensR.of HE.out _ _ rfl HS.out HBW.out (fun q hq=>by
   rcases HT.out.own q hq with e | e
   ·simp [Value.ownBlock] at e
   exact e)
 have hi1:(i:Int)<(s.length:Int):=by omega
 have hx:=za2 s i (by rw [zad];exact hin)
 have HU:=Hd (show ub s i=(s.getD i 0).toNat from rfl)
 have HC:=Hd (fun w=>zq8 s i w (by omega) hin)
 generalize s.getD i 0=c at hx HU
 by_cases h32:c.toNat=32
 ·have HE:=Hd (zih s i hin (HU.out.trans h32))
  have b32:((c.toNat:Int)==32)=true:=by rw [h32];rfl
  clear h32
  go_wp2
  exact ⟨⟨i+1,l,by omega,by go_num,by omega,HO.out,HT.out,by rw [HK.out,HE.out]⟩,by simp [intOf];omega⟩
 have HE:=Hd (show ub s i≠32 by rw [HU.out];exact h32)
 have b32:((c.toNat:Int)==32)=false:=by simp;omega
 clear h32
 have HRU:=Hd (zt8 s i h256n HP.out hin)
 have hle:=zxy s i
 have HTM:=Hd (fun h=>zqm s i hin HE.out h)
 have HTN:=Hd (fun h=>zop s i hin HE.out h)
 rw [← HRU.out] at HC
 generalize zck s i=r at HC hle HTM HTN HRU
 clear HRU
 obtain ⟨tr,n⟩:=r
 simp only at HC hle HTM HTN
 go_wp2_with fail
 refine (HC.out _).mono ?_
 rintro u w5 ⟨⟨⟨kd,nm,tx,⟨ca,cb,cc,cd⟩,ta⟩,n',ok,rfl,hok,ht⟩,hb5⟩
 simp only at hok ht
 have HB5:=Hd hb5
 clear hb5 HC
 by_cases hn:0<n
 rotate_left
 ·rw [decide_eq_false hn] at hok
  subst hok
  have HE2:=Hd (zha s h256n HP.out (by rw [HK.out,HTN.out (by omega)];rfl))
  clear ht HTM HTN
  dsimp only [cTok,List.toArray]
  go_wp2
  refine bodyPost_ret (v:=.tuple #[.slice none 0 0,.int .i64 i,.int .i64 4]) (by simp (maxDischargeDepth:=9) [results,results260,go_sem]) rfl ?_
  exact TokensR.of HE2.out _ _ rfl (Sls.nil _ _ _ _ _) ((Below.next HBW.out HB5.out HBW.out.size).alloc (by have:=HBW.out.size;have:=HB5.out.size;omega) _) (fun q hq=>by simp [Value.ownBlock] at hq)
 obtain ⟨rfl,rfl⟩:=ht hn
 rw [decide_eq_true hn] at hok
 subst hok
 have HTK:=Hd (HTM.out hn)
 clear HTM HTN ht
 have hn5:(n:Int)≤513:=by omega
 obtain ⟨tk,htk⟩:∃tk:Tok,tk=⟨kd,nm,tx,⟨ca,cb,cc,cd⟩,ta⟩:=⟨_,rfl⟩
 rw [← htk] at HTK
 have HKC:=Hd (show (cTok tk).toArray=#[.int .u8 kd,.int .i64 nm,str tx,.int .i64 ca,.int .i64 cb,.int .i64 cc,.int .i64 cd,.int .i64 ta] by rw [htk];rfl)
 clear htk
 have HT5:=Hd (show OutTo w (.slice none 0 0) (w5.alloc (.cells (cTok tk).toArray 239)) u6 from (HT.out.below HB5.out).alloc _)
 have KN:=Hd (show Blk ((w5.alloc (.cells (cTok tk).toArray 239)).alloc (.cells (cTok tk).toArray 239)) (w5.heap.size+1) 239 (cTok tk).toArray by
  have:=Blk.new (w5.alloc (.cells (cTok tk).toArray 239)) 239 (cTok tk).toArray
  simpa using this)
 have HO5:=Hd (((HO.out.below HB5.out).alloc (.cells (cTok tk).toArray 239)).alloc (.cells (cTok tk).toArray 239))
 have HT6:=Hd (HT5.out.alloc (.cells (cTok tk).toArray 239))
 have HS1:=Hd (Sls.one (x:=tk) KN.out rfl)
 rw [HKC.out] at HO5 HT6 HS1
 clear KN HT5
 dsimp only [cTok,List.toArray]
 go_wp2_with (at_builtin;refine RowKit.Hid.out ?_)
 refine Hd ?_
 refine zbo cTok rfl _ _ 230 rfl 239 it _ 8 72 underlying230 ti0 ti1 ti2 ti3 rfl (by omega) u6 l rfl HO5.out _ _ [tk] rfl HS1.out zdk ze9 (by simp;omega) (by omega) ?_
 intro v9 w9 o9 t9
 have O9:=Hd o9
 have T9:=Hd (HT6.out.trans t9)
 clear o9 t9
 go_wp2
 exact ⟨⟨i+n,l++ [tk],by omega,by go_num,by simp;omega,O9.out,T9.out,by rw [HK.out,HTK.out];exact ze3 _ _ _⟩,by simp [intOf];omega⟩
end Go.Proofs.YtamcgggmfghljaaGreatDoor
