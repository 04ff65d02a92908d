/- walk -/
import Derived.Test.YtamcgggmfghljaaGreatDoorE20
import Derived.Test.YtamcgggmfghljaaGreatDoorE21
set_option maxRecDepth 100000
set_option maxHeartbeats 8000000
open Go.Proofs.Tryz
namespace Go.Proofs.YtamcgggmfghljaaGreatDoor
open Go.RowKit
variable {a b:Bool} {e:Int} {f i i' k:Nat} {g:Stg} {α:Type}
def allI (n:Int):Int:=2 ^ n.toNat-1
def hasI (s u:Int):Bool:=decide (0<=u)&&decide (u<64)&&decide (s / 2 ^ u.toNat % 2=1)
theorem z04 (n:Int) (h1:n<=64):(1:Int)<=2 ^ n.toNat/\(2:Int) ^ n.toNat<=18446744073709551616:=by
 have a:(2:Nat) ^ n.toNat<=2 ^ 64:=Nat.pow_le_pow_right (by decide) (by omega);have b:1<=(2:Nat) ^ n.toNat:=Nat.one_le_two_pow;have e:(2:Int) ^ n.toNat=((2 ^ n.toNat:Nat):Int):=by simp
 rw[e];omega
theorem z0w (n:Int) (h1:n<=64):IntKind.u64.wrap (IntKind.u64.wrap (2 ^ n.toNat)-1)=allI n:=by
 have h:=z04 n h1;rw[IntKind.wrap_u64,IntKind.wrap_u64];unfold allI;omega
theorem zmx (n:Int) (h1:n<=64):0<=allI n/\allI n<18446744073709551616:=by
 have h:=z04 n h1;unfold allI;omega
theorem z31 (x:Int) (h0:0<=x) (h1:x<18446744073709551616):(bits .and .u64 x 1==1)=decide (x % 2=1):=by
 rw[u64_and x 1 h0 h1 (by decide) (by decide),show (1:Int).toNat=1 from rfl,nat_mask1];by_cases h:x % 2=1
 ·have:((x.toNat % 2:Nat):Int)=1:=by omega
  simp[this,h]
 have:((x.toNat % 2:Nat):Int)=0:=by omega
 simp[this,h]
theorem shr_bd (s:Int) (k:Nat) (h0:0<=s) (h1:s<18446744073709551616):0<=s / 2 ^ k/\s / 2 ^ k<18446744073709551616:=by
 have hp:(0:Int)<2 ^ k:=Int.pow_pos (by decide);exact ⟨Int.ediv_nonneg h0 (Int.le_of_lt hp),Int.lt_of_le_of_lt (Int.ediv_le_self _ h0) h1⟩
theorem ze7 (h:a=b):Ending.returned (.bool a)=.returned (.bool b):=by rw[h]
theorem zxn (n:Int) (w:World) (h:n<0\/64<n):
 Calls prog 170 #[.int .i64 n] w λe w'=>e=.returned (.tuple #[.int .u64 0,.int .i64 3])/\w=w':=by
 by_cases h1:n<0
 all_goals
  go_enter func170,ntmps170;go_wp2;go_ret2;exact ⟨rfl,rfl⟩
theorem zic (n:Int) (w:World) (h0:0<=n) (h1:n<=64):
 Calls prog 170 #[.int .i64 n] w λe w'=>e=.returned (.tuple #[.int .u64 (allI n),.int .i64 0])/\w=w':=by
 have H:=Hd (z0w n h1);go_enter func170,ntmps170;go_wp2;go_ret2;exact ⟨by rw[H.o];rfl,rfl⟩
theorem zh6 (s u:Int) (w:World) (s0:0<=s) (s1:s<18446744073709551616):
 Calls prog 173 #[.int .u64 s,.int .i64 u] w λe w'=>e=.returned (.bool (hasI s u))/\w=w':=by
 have hb:=shr_bd s u.toNat s0 s1;have H:=Hd (z31 _ hb.1 hb.2);clear hb s0 s1;by_cases h0:0<=u
 ·by_cases h1:u<64
  ·have HH:=jM (hasI s u=decide (s / 2 ^ u.toNat % 2=1)) (by simp[hasI,h0,h1]);go_enter func173,ntmps173;go_wp2;go_ret;exact ⟨ze7 (by rw[HH.o,H.o]),rfl⟩
  have HH:=jM (hasI s u=false) (by simp[hasI,h1]);go_enter func173,ntmps173;go_wp2;go_ret;exact ⟨ze7 (by rw[HH.o]),rfl⟩
 have HH:=jM (hasI s u=false) (by simp[hasI,h0]);go_enter func173,ntmps173;go_wp2;go_ret;exact ⟨ze7 (by rw[HH.o]),rfl⟩
def rulE (u:Int) (x:Rul):Int:=
 if rctE x.rect≠0 then 3 else if bits .andNot .u64 (bits .or .u64 (bits .or .u64 x.rights.rd x.rights.wr) x.rights.ow) (allI u)≠0 then 2 else 0
def zc0 {α:Type} (f:α->Int):List α->Int
 | []=>0
 | x::l=>if f x≠0 then f x else zc0 f l
def aclE (u:Int) (l:List Rul):Int:=
 if u<1\/64<u\/l=[] then 2 else if 64<l.length then 5 else if (l.head?.map (·.rect))≠some ⟨1,1,1024,1024⟩ then 2 else zc0 (rulE u) l
theorem zfq (f:α->Int) {l:List α} {x:α} (h:l[k]?=some x):zc0 f (l.drop k)=if f x≠0 then f x else zc0 f (l.drop (k+1)):=by
 have hk:=(jE.1 h).1;rw[jo hk];have:l[k]=x:=by rw[jz hk] at h;simpa using h
 rw[this];rfl
theorem zv1 (x y:Rct) (w:World):(binOp .neq 43 (.agg (cRct x).toArray) (.agg (cRct y).toArray)).run prog w=.ok (.bool (!decide (x=y))) w:=by
 obtain ⟨a,b,c,d⟩:=x;obtain ⟨a',b',c',d'⟩:=y;simp[go_sem,cRct];by_cases q0:a=a'
 ·by_cases q1:b=b'
  ·by_cases q2:c=c'
   ·by_cases q3:d=d'
    ·simp[q0,q1,q2,q3]
    simp[q0,q1,q2,q3]
   simp[q0,q1,q2]
  simp[q0,q1]
 simp[q0]
theorem zxz (u:Int) (sv:Value) (l:List Rul) (B:Nat) (w:World) (hB:B<=w.heap.size) (hs:Sls cRul w B sv l):
 Calls prog 111 #[.int .i64 u,sv] w λe w'=>∃i,e=.returned (.tuple #[.int .i64 i,.int .i64 (aclE u l)])/\Below w w w':=by
 obtain ⟨A,cap,rfl,hc,hm,hr⟩:=id hs;have HS:=Hd hs;clear hs hr;unfold maxLen at hm;by_cases hu:u<0\/64<u
 ·have HE:=jM (aclE u l=2) (by unfold aclE;rw[jT]);go_enter func111,ntmps111;go_wp2_with fail;refine (zxn u _ hu).mono ?_;rintro e w1 ⟨rfl,rfl⟩;go_wp2;go_ret2;exact ⟨_,by rw[HE.o];rfl,by go_grown⟩
 skip
 go_enter func111,ntmps111;go_wp2_with fail;refine (zic u _ (by omega) (by omega)).mono ?_;rintro e w1 ⟨rfl,rfl⟩;by_cases h0:u=0
 ·subst h0;have HE:=jM (aclE 0 l=2) (by unfold aclE;rw[jT]);go_wp2;go_ret2;exact ⟨_,by rw[HE.o];rfl,by go_grown⟩
 have u0:(u==0)=false:=by simpa using h0
 by_cases hl0:l.length=0
 ·have l0:((l.length:Int)==0)=true:=by simp[hl0]
  have HE:=jM (aclE u l=2) (by unfold aclE;rw[jb (.inr (.inr (js hl0)))]);clear hl0;go_wp2;go_ret2;exact ⟨_,by rw[HE.o];rfl,by go_grown⟩
 have l0:((l.length:Int)==0)=false:=by simpa using hl0
 have hne:l≠ []:=λe=>hl0 (by rw[e];rfl);by_cases h64:64<l.length
 ·have HE:=jM (aclE u l=5) (by unfold aclE;rw[ja (by simp[hne];omega),jb h64]);clear hne hl0;go_wp2;go_ret2;exact ⟨_,by rw[HE.o];rfl,by go_grown⟩
 have hx:l[0]?=some (l[0]'(by omega)):=jz (by omega);obtain ⟨b,o,rfl,hb,r⟩:=HS.o.get 7 zdr hx;have HE:=Hd (show aclE u l=if (l[0]'(by omega)).rect≠⟨1,1,1024,1024⟩ then 2 else zc0 (rulE u) l by
  unfold aclE;rw[ja (by simp[hne];omega),ja h64,List.head?_eq_getElem?,hx];simp)
 generalize l[0]'(by omega)=x at *;have r0:w.cell? (b,o)=some (.int .i64 x.rect.c1):=by simpa using r 0 _ rfl
 have r1:w.cell? (b,o+1)=some (.int .i64 x.rect.r1):=by simpa using r 1 _ rfl
 have r2:w.cell? (b,o+2)=some (.int .i64 x.rect.c2):=by simpa using r 2 _ rfl
 have r3:w.cell? (b,o+3)=some (.int .i64 x.rect.r2):=by simpa using r 3 _ rfl
 have hn:∀W,(binOp .neq 43 (.agg x.rect) (.agg #[.int .i64 1,.int .i64 1,.int .i64 1024,.int .i64 1024])).run prog W=.ok (.bool (!decide (x.rect=⟨1,1,1024,1024⟩))) W:=λW=>zv1 x.rect ⟨1,1,1024,1024⟩ W;have hi0:(0:Int)<(l.length:Int):=by omega
 have hi1:0<l.length:=by omega
 clear hx r hne hl0;have hbl:=block_lt_of_cell r0;by_cases hxs:x.rect=⟨1,1,1024,1024⟩;rotate_left
 ·have hd:decide (x.rect=⟨1,1,1024,1024⟩)=false:=by simpa using hxs
  rw[hd] at hn;have HX:=Hd hxs;clear hd hxs;go_wp2
  go_region_held3 (λW:World=>W.cell? ⟨b,o,none⟩=some (.int .i64 x.rect.c1)/\W.cell? ⟨b,o+1,none⟩=some (.int .i64 x.rect.r1)/\W.cell? ⟨b,o+2,none⟩=some (.int .i64 x.rect.c2)/\W.cell? ⟨b,o+3,none⟩=some (.int .i64 x.rect.r2))
   (first
    | exact ⟨r0,r1,r2,r3⟩
    | exact ⟨(hb1.cell hbl).trans r0,(hb1.cell hbl).trans r1,(hb1.cell hbl).trans r2,(hb1.cell hbl).trans r3⟩)
   (first
    | (go_at_call 171;refine (zoy _).mono ?_;rintro e w1 ⟨rfl,hb1⟩))
  go_wp2;go_ret2;exact ⟨_,by rw[HE.o,jb HX.o];rfl,(jg w.heap.size w).drew.trans hb1⟩
 have hd:decide (x.rect=⟨1,1,1024,1024⟩)=true:=by simpa using hxs
 rw[hd] at hn;have HX:=Hd hxs;clear hd hxs;go_wp2
 go_region_held3 (λW:World=>W.cell? ⟨b,o,none⟩=some (.int .i64 x.rect.c1)/\W.cell? ⟨b,o+1,none⟩=some (.int .i64 x.rect.r1)/\W.cell? ⟨b,o+2,none⟩=some (.int .i64 x.rect.c2)/\W.cell? ⟨b,o+3,none⟩=some (.int .i64 x.rect.r2))
  (first
   | exact ⟨r0,r1,r2,r3⟩
   | exact ⟨(hb1.cell hbl).trans r0,(hb1.cell hbl).trans r1,(hb1.cell hbl).trans r2,(hb1.cell hbl).trans r3⟩)
  (first
   | (go_at_call 171;refine (zoy _).mono ?_;rintro e w1 ⟨rfl,hb1⟩))
 go_wp2;have HB1:=Hd ((jg w.heap.size w).drew.trans hb1);clear r0 r1 r2 r3 hn hi0 hi1 hb1;go_loopw [39] (λi wr=>∃k:Nat,k<=l.length/\i=.int .i64 k/\Below w w wr/\zc0 (rulE u) l=zc0 (rulE u) (l.drop k)) (λi _=>l.length-(intOf i).toNat)
 case atStart=>exact ⟨0,by omega,rfl,HB1.o,by simp⟩
 obtain ⟨k,hk,rfl,hbw,hfe⟩:=hrel;have HF:=Hd hfe;have HBW:=Hd hbw;clear hfe;by_cases hlt:k<l.length;rotate_left
 ·go_wp2;go_ret2;refine ⟨0,?_,HBW.o⟩;rw[HE.o,ja (by simpa using HX.o),HF.o,jm (by omega)];rfl
 have hy:l[k]?=some l[k]:=jz hlt;obtain ⟨b2,o2,hA,hb2,r⟩:=(HS.o.below (hbw.mono hB)).get 7 zdr hy;have HD:=Hd (zfq (rulE u) hy);generalize l[k]=y at *;obtain ⟨rfl,rfl⟩:b=b2/\o=o2:=by simpa using hA
 obtain ⟨r0,r1,r2,r3,r4,r5,r6⟩:=rRul r;have hi0:(0:Int)<=(k:Int):=jw _;have hi1:(k:Int)<(l.length:Int):=by omega
 clear r hy hA hbw;go_wp2_with fail;refine (zdm _ _ _ _ _).mono ?_;rintro e w3 ⟨rfl,hb3⟩;have q4:w3.cell? (wr,4)=some (.int .u64 y.rights.rd):=(hb3.cell (p:=(wr,4)) (by simp)).trans (by go_simp);have q5:w3.cell? (wr,5)=some (.int .u64 y.rights.wr):=(hb3.cell (p:=(wr,5)) (by simp)).trans (by go_simp);have q6:w3.cell? (wr,6)=some (.int .u64 y.rights.ow):=(hb3.cell (p:=(wr,6)) (by simp)).trans (by go_simp);have HB3:=Hd (Below.trans (HBW.o.alloc HBW.o.size _) (hb3.mono (by have:=HBW.o.size;simp;omega)));clear hb3 r0 r1 r2 r3 r4 r5 r6;by_cases hre:rctE ⟨y.rect.c1,y.rect.r1,y.rect.c2,y.rect.r2⟩=0
 ·rw[hre];by_cases hbt:bits .andNot .u64 (bits .or .u64 (bits .or .u64 y.rights.rd y.rights.wr) y.rights.ow) (allI u)=0
  ·have HY:=jM (rulE u y=0) (by unfold rulE;rw[ja (by simpa using hre),ja (by simpa using hbt)]);have t1:(bits .andNot .u64 (bits .or .u64 (bits .or .u64 y.rights.rd y.rights.wr) y.rights.ow) (allI u) != 0)=false:=by simpa using hbt
   clear hbt hre;go_wp2;exact ⟨⟨k+1,by omega,by go_num,HB3.o,by rw[HF.o,HD.o,HY.o];rfl⟩,by simp[intOf];omega⟩
  have HY:=jM (rulE u y=2) (by unfold rulE;rw[ja (by simpa using hre),jb (by simpa using hbt)]);have t1:(bits .andNot .u64 (bits .or .u64 (bits .or .u64 y.rights.rd y.rights.wr) y.rights.ow) (allI u) != 0)=true:=by simpa using hbt
  clear hbt hre;go_wp2;go_ret2;refine ⟨k,?_,HB3.o⟩;rw[HE.o,ja (by simpa using HX.o),HF.o,HD.o,HY.o];rfl
 have HY:=jM (rulE u y=3) (by unfold rulE;rw[jb (by simpa using hre)]);have t1:(rctE ⟨y.rect.c1,y.rect.r1,y.rect.c2,y.rect.r2⟩ != 0)=true:=by simpa using hre
 clear hre;go_wp2;go_ret2;refine ⟨k,?_,HB3.o⟩;rw[HE.o,ja (by simpa using HX.o),HF.o,HD.o,HY.o];rfl
theorem zx3 {fn i:Int} (h:(zcm fn i).2≠0):(zcm fn i).1=false:=by
 unfold zcm at h ⊢
 repeat' split at h
 all_goals simp_all
theorem rp_arg (s:zaa) (L:List Tok) (hL:L.length<=1000) (f fn n:Nat) (h1:1<=fn) (h2:fn<=50) (hn2:n<=2000) (hl:RunR 261 (lev1 1) s L f (.level 1)):RunR 363 (arg1 fn n) s L (f+1) (.arg fn n):=by
 intro p ov i T a W h hi hn hf hf5;have HLV:Hid (RunR 261 (λp=>#[.pointer (some ⟨p,0,none⟩),.int .i64 1]) s L f (.level 1)):=Hd hl;have HH:=Hd h;simp only[zbg] at hf;have HWI:Hid (∀W:World,Calls prog 352 #[.int .u8 fn,.int .i64 n] W λu W'=>u=.returned (.bool (zcm fn n).1)/\W=W'):=Hd (λW=>zux fn n h1 h2 hn2 W);obtain ⟨t,ht0⟩:=jN (zak s.length (L.drop i,T));have HR:Hid (parS s.length (f+1) (.arg fn n) (L.drop i,T)=if t.kind≠6 then parS s.length f (.level 1) (L.drop i,T)
  else if (zcm fn n).1=false\/(zcm fn n).2≠0 then .error (t.at_,4)
  else .ok (putS { nod0 3 with rect:=t.rect } (zap (L.drop i,T)))):=Hd (by rw[<- ht0];rfl)
 generalize parS s.length (f+1) (.arg fn n) (L.drop i,T)=R at HR ⊢;have HWT:=Hd (@zx3 fn n);generalize zcm fn n=wd at HWI HR HWT;obtain ⟨wb,we⟩:=wd;have HHL:Hid (t.kind≠0->i<L.length):=Hd (ht0▸zg7);have hi0:(0:Int)<=(i:Int):=jw _;have hi9:(i:Int)<=1000:=by omega
 have HG0:=jM (∀q,W.heap.size<=q->ov.ownBlock≠some q) (λq hq e=>by have:=h.ow.lt _ e;omega);have HPL:=Hd h.lt;clear hl h;unfold arg1;go_enter func363,ntmps363;go_wp2_with fail;refine (zc5 p s L ov i T a 0 _ HH.o (by omega)).mono ?_;rintro u w1 ⟨rfl,hb1⟩;rw[ht0];clear ht0;have KT1:=Hd (je w1 239 (cTok t).toArray);have HB1:=jM (Below W W (w1.alloc (.cells (cTok t).toArray 239))) (hb1.alloc hb1.size _);have HS1:=Hd hb1.size;clear hb1;obtain ⟨V1,hV1⟩:=jN (w1.alloc (.cells (cTok t).toArray 239));rw[hV1] at KT1 HB1;have HH1:=Hd (HH.o.below HB1.o);have P1:=Hd (PTo.below (PTo.refl p W ov) HB1.o);rw[show (cTok t).toArray=#[.int .u8 t.kind,.int .i64 t.num,str t.text,.int .i64 t.rect.c1,.int .i64 t.rect.r1,.int .i64 t.rect.c2,.int .i64 t.rect.r2,.int .i64 t.at_] from rfl] at hV1 ⊢;obtain ⟨g,hg⟩:∃g,g=w1.heap.size:=⟨_,rfl⟩;rw[<- hg] at KT1 HS1;have HGO:=Hd (HG0.o g HS1.o);have HGP:=jM (g≠p) (by have:=HPL.o;have:=HS1.o;omega);go_upto_region 1 with (fail)
 rw[<- hg];clear hV1 hg;obtain ⟨x0,x7⟩:V1.cell? (g,0)=some (.int .u8 t.kind)/\V1.cell? (g,7)=some (.int .i64 t.at_):=KT1.o.c2 0 7;have hT:T.length<=2000:=by omega
 by_cases h6:t.kind=6;rotate_left
 ·have b6:(t.kind != 6)=true:=by simpa using h6
  have HR1:=Hd (HR.o.trans (jb h6));have HC:=Hd (HLV.o p ov i T a V1 HH1.o hi hn (by simp only[zbg];omega) (by omega));rw[<- HR1.o] at HC;have HX:=Hd (λu W' (h:zmy p s L V1 ov a (T.length+(L.length-i)+f) R u W')=>(show u=.returned (.tuple #[])/\zmy p s L W ov a (T.length+(L.length-i)+(f+1)) R u W' from ⟨h.1,by
   rcases zbd h with ⟨i6,T6,ov6,hr,hi6,rfl,ha,ht⟩ | ⟨x,er,i6,T6,ov6,hr,he,hi6,hm,rfl,ha,ht⟩
   ·exact zbs hr hi6 ha (P1.o.trans ht)
   exact za8 hr he hi6 (by omega) ha (P1.o.trans ht)⟩))
  clear h6 HR HHL;go_wp2_with fail;refine HC.o.mono ?_;intro u w6 hw;have HW:=Hd (HX.o u w6 hw);obtain rfl:=HW.o.1;clear hw x0 x7;go_wp2;refine bR ?_;exact HW.o.2
 have b6:(t.kind != 6)=false:=by simpa using h6
 have hil:i<L.length:=HHL.o (by omega);have HR1:=Hd (HR.o.trans (ja (by simpa using h6)));have HIL:=jM (i+1<=L.length) hil;clear h6 HR HHL;go_wp2_with fail;refine (HWI.o _).mono ?_;rintro u w2 ⟨rfl,rfl⟩;dsimp only;cases wb
 ·have HR2:=jM (R=.error (t.at_,4)) (by rw[HR1.o,jb (.inl rfl)]);go_wp2_with fail;refine (zbv p s L ov i T a t.at_ 4 _ HH1.o).mono ?_;rintro u w6 ⟨rfl,ha,ht⟩;have H6:=Hd ha;have P6:=Hd (P1.o.trans ht);clear ha ht x0 x7;go_wp2;refine bR ?_;exact za8 HR2.o (by decide) (by omega) (by omega) H6.o P6.o
 have HR2:=Hd (show R=.ok (L.drop (i+1),T++ [{ nod0 3 with rect:=t.rect }]) by
  rw[HR1.o,ja (by rintro (h | h);exact absurd h (by decide);exact absurd (HWT.o h) (by decide)),za1];rfl)
 have H5:=Hd HH1.o.step;have P5:=Hd (P1.o.trans H5.o.2);have KG:=jM (Blk (V1.setCell (p,2) (.int .i64 ((i:Int)+1))) g 239 #[.int .u8 t.kind,.int .i64 t.num,str t.text,.int .i64 t.rect.c1,.int .i64 t.rect.r1,.int .i64 t.rect.c2,.int .i64 t.rect.r2,.int .i64 t.at_]) (Blk.far (p:=⟨p,2,none⟩) KT1.o HGP.o _);obtain ⟨_,_, -, -,c2, -, -, -,cf, -,dl⟩:=HH1.o.cells;go_upto_region 6 with (fail)
 obtain ⟨W5,hW5⟩:=jN (V1.setCell (p,2) (.int .i64 ((i:Int)+1)));rw[hW5] at H5 P5 KG ⊢;clear hW5 c2 cf dl x0 x7;obtain ⟨lv,hbx, -⟩:=H5.o.1.bx;obtain ⟨it,ti0,ti1,ti2,ti3⟩:=zeu;have HNP:=jM ((ov).ownBlock≠some p) H5.o.1.ne;have HNG:=jM ((ov).ownBlock≠some g) HGO.o;have Q0:=Hd hbx.drew;have Q1:=Hd (hbx.drew.alloc (.cells (cNod { nod0 3 with rect:=t.rect }).toArray 297));have KG0:=jM (Blk W5.drew g 239 t) KG.o.drew;have KG1:=jM (Blk (W5.drew.alloc (.cells (cNod { nod0 3 with rect:=t.rect }).toArray 297)) g 239 #[.int .u8 t.kind,.int .i64 t.num,str t.text,.int .i64 t.rect.c1,.int .i64 t.rect.r1,.int .i64 t.rect.c2,.int .i64 t.rect.r2,.int .i64 t.at_]) (KG.o.drew.alloc _);have KN1:=jM (Blk (W5.drew.alloc (.cells (cNod { nod0 3 with rect:=t.rect }).toArray 297)) W5.heap.size 297 (cNod { nod0 3 with rect:=t.rect }).toArray) (je W5.drew _ _);have HO1:=Hd (H5.o.1.ow.drew.alloc (.cells (cNod { nod0 3 with rect:=t.rect }).toArray 297));have HW1:=jM (Below W5 W5 (W5.drew.alloc (.cells (cNod { nod0 3 with rect:=t.rect }).toArray 297))) (by go_grown);clear hbx;go_wp2_with fail;refine wp_region_noPanic ?_;refine zaw (λW'=>Blk W' p 272 #[str s,lv,.int .i64 ((i:Int)+1),ov,.int .i64 a,.int .i64 0]/\Blk W' g 239 t) 12 (by kernel_rfl) ?_;have hHeld:(λW'=>Blk W' p 272 #[str s,lv,.int .i64 ((i:Int)+1),ov,.int .i64 a,.int .i64 0]/\Blk W' g 239 t) _:=⟨Q0.o,KG0.o⟩;refine tU 0 (.pointer (some ⟨p,0,none⟩)) (λ_=>hHeld) ?_
 try go_frame
 refine tU 1 (.pointer (some ⟨p,0,none⟩)) (λ_=>hHeld) ?_
 try go_frame
 refine tU 2 (.pointer (some ⟨p,0,none⟩)) (λ_=>hHeld) ?_
 try go_frame
 refine tU 3 (.pointer (some ⟨p,3,none⟩)) (λ_=>hHeld) ?_
 try go_frame
 refine tV 4 ov rfl hHeld (Or.inl ⟨by rfl,by intro W hW;have hc:W.cell? ⟨p,3,none⟩=some (ov):=hW.1.cell 3;go_simp⟩) ?_
 try go_frame
 refine tU 5 (.pointer (some ⟨g,3,none⟩)) (λ_=>hHeld) ?_
 try go_frame
 refine tV 6 (.agg _) rfl hHeld (yieldsIf_load_mid rfl _ _ rfl (g) (3) rfl _ _ (λW' h=>h.2.range (l:=cRct t.rect) (o:=3) (by intro j v hj;rcases j with _ | _ | _ | _ | j <;> first | exact hj | (simp[cRct] at hj))) rfl rfl (by kernel_rfl)) ?_
 try go_frame
 refine tU 7 (.agg (aR 3 t.rect)) (λ_=>hHeld) ?_
 try go_frame
 refine tS 8 rfl λK hK=>?_;go_simp;refine hK.out _ _ (λ_=>⟨Q1.o,KG1.o⟩) ?_;have hHeld:(λW'=>Blk W' p 272 #[str s,lv,.int .i64 ((i:Int)+1),ov,.int .i64 a,.int .i64 0]/\Blk W' g 239 t) _:=⟨Q1.o,KG1.o⟩;clear hK K
 try go_frame
 refine tS 9 rfl λK hK=>?_;obtain ⟨r9,w9,hr9,o9,t9⟩:=zdp (P:=prog) _ cNod 190 190 297 it _ 11 96 underlying190 ti0 ti1 ti2 ti3 rfl (by omega) (ov) T HO1.o _ _ [{ nod0 3 with rect:=t.rect }] (Sls.one (x:={ nod0 3 with rect:=t.rect }) KN1.o rfl) zbx zew (by simp;omega) (by omega);obtain ⟨A9,c9,hv9, -⟩:=zfk o9;obtain ⟨m9,hm9⟩:=jN ((T++ [{ nod0 3 with rect:=t.rect }]).length);rw[hm9] at hv9;clear hm9;subst hv9;have hB9:=Q1.o.outTo t9 HNP.o;refine zbl _ _ _ _ rfl _ _ _ _ rfl rfl hr9 ?_;refine hK.out _ _ (λ_=>⟨hB9,KG1.o.outTo t9 HNG.o⟩) ?_;have hHeld:(λW'=>Blk W' p 272 #[str s,lv,.int .i64 ((i:Int)+1),ov,.int .i64 a,.int .i64 0]/\Blk W' g 239 t) _:=⟨hB9,KG1.o.outTo t9 HNG.o⟩;clear hK K
 try go_frame
 refine tU 10 (.pointer (some ⟨p,0,none⟩)) (λ_=>hHeld) ?_
 try go_frame
 refine tU 11 (.pointer (some ⟨p,3,none⟩)) (λ_=>hHeld) ?_
 try go_frame
 refine tS 12 rfl λK hK=>?_;have kc:=hB9.cell 3;have kf:=hB9.frozen;go_simp;refine hK.out _ _ (λh=>absurd h (by decide)) ?_;clear hK K
 try go_frame
 refine zax (by kernel_rfl) ?_;refine NoPanic.normal ?_;have HF:=Hd (H5.o.1.putAt HW1.o o9 t9);clear hHeld hB9 o9 t9 hr9;go_wp2;refine bE ?_;exact zbs HR2.o HIL.o HF.o.1 (P5.o.trans HF.o.2)
def rowN:Array Value:=(([]::zbo).map str).toArray
def zhk (k:Nat):zaa:=zbo.getD (k-1) []
theorem z2f:∀k:Fin 50,rowN[k.val+1]?=some (str (zhk (k.val+1))):=by
 intro k;have h:([]::zbo)[k.val+1]?=some (zhk (k.val+1)):=by
  have:∀k:Fin 50,([]::zbo)[k.val+1]?=some (zhk (k.val+1)):=by decide
  exact this k
 unfold rowN;rw[List.getElem?_toArray,List.getElem?_map,h];rfl
theorem zv9:∀k:Fin 50,fnOf (zhk (k.val+1))=k.val+1:=by decide
theorem zzp (s:zaa) (h:fnOf s≠0):zhk (fnOf s)=s/\1<=fnOf s/\fnOf s<=50:=by
 unfold fnOf at h ⊢;split at h
 ·rename_i hc;rw[jb hc];have hm:s∈zbo:=by simpa using hc
  have hlt:zbo.idxOf s<zbo.length:=List.idxOf_lt_length_of_mem hm;have hlen:zbo.length=50:=rfl;refine ⟨?_,by omega,by omega⟩;unfold zhk;rw[Nat.add_sub_cancel,jL,jz hlt,List.getElem_idxOf];rfl
 exact absurd rfl h
theorem zu2 (k:Nat) (h1:1<=k) (h2:k<=50) (W:World):Calls prog 336 #[.int .u8 k] W λu W'=>u=.returned (str (zhk k))/\Below W W W':=by
 obtain ⟨ie,hi0,hi1,hi2,hi3⟩:=info_parts (show (prog.info? 9).map (λi=>(i.zero,i.size,i.bytes))=some (some (.string ⟨#[]⟩),1,16) by kernel_rfl);have hr:=z2f ⟨k-1,by omega⟩;simp only[show k-1+1=k by omega] at hr;obtain ⟨x,hx⟩:=jN (zhk k);rw[hx] at hr ⊢;clear hx;have KB:=Hd (je W 9 rowN);have HR:=Hd hr;have HB:=jM (Below W W (W.alloc (.cells rowN 9))) (by go_grown);clear hr;have k0:(0:Int)<=(k:Int):=by omega
 have k1:(k:Int)<51:=by omega
 go_enter func336,ntmps336;go_upto_region 1 with (fail)
 apply wp_region_lit;refine wpList_buildSlice rfl 289 9 51 _ rfl rowN ie _ underlying289 hi0 hi1 (by rw[hi2];decide) (by rw[hi2];decide) (by rw[hi2];kernel_rfl) ?_;obtain ⟨V,hV⟩:=jN (W.alloc (.cells rowN 9));have kc:(W.alloc (.cells rowN 9)).cell? (W,k)=some (str x):=(KB.o.cell k).trans HR.o;rw[hV] at kc HB ⊢;clear hV;go_wp2;go_ret;exact ⟨rfl,HB.o⟩
theorem zo9 (s:zaa) (W:World):Calls prog 362 #[str s] W λu W'=>u=.returned (.tuple #[.int .u8 (fnOf s),.int .i64 (if fnOf s=0 then 6 else 0)])/\Below W W W':=by
 obtain ⟨q,hq⟩:=jN ((if fnOf s=0 then (6:Int) else 0):Int);rw[hq];have HQ:=Hd hq;have HN:=Hd (zzp s);obtain ⟨z,hz⟩:=jN (fnOf s);rw[hz];have HZ:=Hd hz;clear hq hz;go_enter func362,ntmps362;go_wp2;go_loopw [4] (λv wr=>∃k:Nat,1<=k/\k<=51/\v=.int .u8 k/\(∀j,1<=j->j<k->zhk j≠s)/\Below W W wr) (λv _=>51-(intOf v).toNat)
 case atStart=>exact ⟨1,by omega,by omega,rfl,λj h1 h2=>by omega,jg _ _⟩
 obtain ⟨k,hk1,hk2,rfl,hz,hbw⟩:=hrel;have HB:=Hd hbw;have HJ:=Hd hz;clear hz hbw;have k0:(0:Int)<=(k:Int):=by omega
 by_cases hlt:k<=50;rotate_left
 ·have hlt':¬(k:Int)<=50:=by omega
  have HE:=Hd (show z=0 by
   rw[<- HZ.o];by_cases h0:fnOf s=0
   ·exact h0
   obtain ⟨a,b,c⟩:=HN.o h0;exact absurd a (HJ.o _ b (by omega)))
  have HE2:=jM (q=6) (by rw[<- HQ.o,jb (by rw[HZ.o,HE.o])]);go_wp2;go_ret2;exact ⟨by rw[HE.o,HE2.o];rfl,HB.o⟩
 have hlt':(k:Int)<=50:=by omega
 go_wp2_with fail;refine (zu2 k hk1 hlt _).mono ?_;rintro u w1 ⟨rfl,hb1⟩;have HB1:=Hd (jd HB.o hb1 HB.o.size);have HI:=Hd (zv9 ⟨k-1,by omega⟩);clear hb1;obtain ⟨x,hx⟩:=jN (zhk k);rw[hx];have HX:=Hd hx;clear hx;by_cases hs:x=s
 ·have be:(x==s)=true:=by simpa using hs
  have HE:=Hd (show z=k by
   have:=HI.o;simp only[show k-1+1=k by omega] at this;rw[HX.o,hs] at this;rw[<- HZ.o,this])
  have HE2:=jM (q=0) (by rw[<- HQ.o,ja (by rw[HZ.o,HE.o];omega)]);clear hs;go_wp2;go_ret2;exact ⟨by rw[HE.o,HE2.o];rfl,HB1.o⟩
 have be:(x==s)=false:=by simpa using hs
 have HJ2:=jM (∀j,1<=j->j<k+1->zhk j≠s) (λj h1 h2=>by
  rcases Nat.lt_or_ge j k with c | c
  ·exact HJ.o j h1 c
  obtain rfl:j=k:=by omega
  rw[HX.o];exact hs)
 clear hs;go_wp2;exact ⟨⟨k+1,by omega,by omega,by go_num,HJ2.o,HB1.o⟩,by simp[intOf];omega⟩
theorem growR {L:List Tok} {T T':List Nod} (h:parS e f g (L.drop i,T)=.ok (L.drop i',T')):T.length+za0 g<=T'.length:=zbp e f g _ _ h
def nxtA (e:Int) (f:Nat) (name:Tok) (fn n:Nat) (st:PSt):PRes:=if (zak e st).kind=11 then parS e f (.args name fn n) (zap st) else ze3 e name fn n st
theorem zxm (e:Int) (f:Nat) (name:Tok) (fn n:Nat) (st:PSt):parS e (f+1) (.args name fn n) st=thenS (parS e f (.arg fn n) st) (nxtA e f name fn (n+1)):=rfl
def ArR (p:Nat) (s:zaa) (L:List Tok) (W:World) (ov:Value) (a:Int) (name:Tok) (fn b m f:Nat) (R:PRes) (nv:Value) (wr:World):Prop:=∃n:Nat,nv=.int .i64 n/\1<=n/\n<=L.length+1/\
 ((∃f' i' T' ov',R=nxtA s.length f' name fn n (L.drop i',T')/\n<=i'/\i'<=L.length/\10*(L.length-i')+3<=f'/\f'<=f/\L.length-i'+T'.length<=b/\1<=T'.length/\PR wr p s L ov' i' T' a 0/\PTo p W ov wr ov')\/
  (∃x er i' T' ov',R=.error (x,er)/\er≠0/\i'<=L.length+1/\T'.length<=m/\PR wr p s L ov' i' T' x er/\PTo p W ov wr ov'))
def EnR (p:Nat) (s:zaa) (L:List Tok) (W:World) (ov:Value) (a:Int) (name:Tok) (fn b m:Nat) (R:PRes) (nv:Value) (wr:World):Prop:=∃n:Nat,nv=.int .i64 n/\n<=L.length+1/\
 ((∃i' T' ov',R=ze3 s.length name fn n (L.drop i',T')/\i'<=L.length/\L.length-i'+T'.length<=b/\(1<=n->1<=T'.length)/\PR wr p s L ov' i' T' a 0/\PTo p W ov wr ov')\/
  (∃x er i' T' ov',R=.error (x,er)/\er≠0/\i'<=L.length+1/\T'.length<=m/\PR wr p s L ov' i' T' x er/\PTo p W ov wr ov'))
theorem z2e (s:zaa) (L:List Tok) (hL:L.length<=1000) (hN:zg3 L=true) (f:Nat) (hl:∀f' fn n,f'<=f->1<=fn->fn<=50->n<=2000->RunR 363 (arg1 fn n) s L f' (.arg fn n)):z39 s L (f+1):=by
 intro t p ov i T a W h hil hx hk hn hf hf5;have HL:=Hd hl;have HH:=Hd h;have HPL:=Hd h.lt;have HG0:=jM (∀q,W.heap.size<=q->ov.ownBlock≠some q) (λq hq e=>by have:=h.ow.lt _ e;omega);obtain ⟨y,hy1,hy2⟩:=zv8 L i t hN hx hk;have hil2:i+1<L.length:=(jE.1 hy1).1;have H9:=Hd (show (zak s.length (L.drop (i+1),T)).kind=9 by
  rw[zjy _ L (i+1) T hil2];have:L[i+1]=y:=by rw[jz hil2] at hy1;simpa using hy1
  rw[this,hy2])
 have HR:Hid (parS s.length (f+1) (.call t) (L.drop i,T)=if fnOf t.text=0 then .error (t.at_,10) else
  if (zak s.length (L.drop (i+2),T)).kind=10 then ze3 s.length t (fnOf t.text) 0 (L.drop (i+2),T) else parS s.length f (.args t (fnOf t.text) 0) (L.drop (i+2),T)):=Hd (by
  show (if fnOf t.text=0 then _ else thenS (ze4 s.length 9 (zap (L.drop i,T))) _)=_;split
  ·rfl
  rw[za1];unfold ze4;rw[ja (λe=>e H9.o),za1];rfl)
 generalize parS s.length (f+1) (.call t) (L.drop i,T)=R at HR ⊢;have HFN:=Hd (z1a t.text);clear hl h hx hk hN hy1 hy2;have K0:=Hd (je W 239 (cTok t).toArray);have HB0:=jM (Below W W (W.alloc (.cells (cTok t).toArray 239))) (by go_grown);rw[show (cTok t).toArray=#[.int .u8 t.kind,.int .i64 t.num,str t.text,.int .i64 t.rect.c1,.int .i64 t.rect.r1,.int .i64 t.rect.c2,.int .i64 t.rect.r2,.int .i64 t.at_] from rfl] at K0 HB0 ⊢;have H0:=Hd (HH.o.below HB0.o);have hi0:(0:Int)<=(i:Int):=jw _;have hi9:(i:Int)<=1000:=by omega
 go_enter func349,ntmps349;go_upto_region 1 with (fail)
 obtain ⟨W1,hW1⟩:=jN (W.alloc (.cells t 239));rw[hW1] at K0 HB0 H0 ⊢;clear hW1;have KU:Hid (∀W' ov',PTo p W1 ov W' ov'->Blk W' W.heap.size 239 t):=Hd (λW' ov' h=>h.blk K0.o (by have:=HPL.o;omega) (HG0.o _ jy));have TU:Hid (∀W' ov',PTo p W1 ov W' ov'->PTo p W ov W' ov'):=Hd (λW' ov' h=>(PTo.below (PTo.refl p W ov) HB0.o).trans h);have x2:=K0.o.cell 2;go_wp2_with fail;refine (zo9 t.text _).mono ?_;rintro u w2 ⟨rfl,hb2⟩;have H2:=Hd (H0.o.below hb2);have U2:=Hd (PTo.below (PTo.refl p W1 ov) hb2);clear hb2 x2;obtain ⟨fn,hfn⟩:=jN (fnOf t.text);rw[hfn] at HR HFN ⊢;clear hfn;by_cases hf0:fn=0
 ·rw[jb hf0];have x7:w2.cell? (W,7)=some (.int .i64 t.at_):=(KU.o _ _ U2.o).cell 7;have HR2:=Hd (HR.o.trans (jb hf0));clear hf0 HR;go_wp2_with fail;refine (zbv p s L ov (i+1) T a t.at_ 10 _ H2.o).mono ?_;rintro u w3 ⟨rfl,ha,ht⟩;have H3:=Hd ha;have U3:=Hd (U2.o.trans ht);clear ha ht x7;go_wp2;refine bR ?_;exact za8 HR2.o (by decide) (by omega) (by omega) H3.o (TU.o _ _ U3.o)
 rw[ja hf0];have hfr:=HFN.o hf0;have HR2:=Hd (HR.o.trans (ja hf0));obtain ⟨hfr1,hfr2⟩:=hfr;have hfi1:(1:Int)<=(fn:Int):=by omega
 have hfi2:(fn:Int)<=50:=by omega
 clear hf0 HR HFN;go_wp2_with fail;refine (zgc _ H2.o (by omega) (by decide) H9.o).mono ?_;rintro u w3 ⟨rfl, -,ha,ht⟩;have H3:=jM (PR w3 p s L ov (i+2) T a 0) ha;have U3:=Hd (U2.o.trans ht);have HN3:=Hd (zc5 p s L ov (i+2) T a 0 _ H3.o (by omega));clear ha ht H9;obtain ⟨q,hq⟩:=jN (zak s.length (L.drop (i+2),T));rw[hq] at HR2 HN3;clear hq;have hf0:∀W,(Instr.field 239 (.agg q) 0).run prog W=.ok (.int .u8 q.kind) W:=λ_=>by rfl
 rw[show (cTok q).toArray=#[.int .u8 q.kind,.int .i64 q.num,str q.text,.int .i64 q.rect.c1,.int .i64 q.rect.r1,.int .i64 q.rect.c2,.int .i64 q.rect.r2,.int .i64 q.at_] from rfl] at HN3;go_wp2_with fail;refine HN3.o.mono ?_;rintro u w4 ⟨rfl,hb4⟩;have H4:=Hd (H3.o.below hb4);have U4:=Hd (PTo.below U3.o hb4);clear hb4 HN3;go_upto_if 27 with (fail)
 go_cut [6] from 27 (λnv wx=>EnR p s L W1 ov a t fn (L.length-i+T.length) (T.length+(L.length-i)+(f+1)) R nv wx)
 case first=>
  by_cases hq:q.kind=10
  ·have bq:(q.kind != 10)=false:=by simpa using hq
   have HR3:=Hd (HR2.o.trans (jb hq));clear hq HR2;go_wp2;go_meet
   case rel=>exact ⟨0,rfl,by omega,.inl ⟨i+2,T,ov,HR3.o,by omega,by omega,λh=>by omega,H4.o,U4.o⟩⟩
  have bq:(q.kind != 10)=true:=by simpa using hq
  obtain ⟨f1,rfl⟩:∃f1,f=f1+1:=⟨f-1,by omega⟩;have HR3:=Hd ((HR2.o.trans (ja hq)).trans (zxm _ _ _ _ _ _));clear hq HR2;have HA0:Hid (RunR 363 (λp=>#[.pointer (some ⟨p,0,none⟩),.int .u8 fn,.int .i64 0]) s L f1 (.arg fn 0)):=Hd (HL.o f1 fn 0 (by omega) hfr1 hfr2 (by omega));go_wp2_with fail;refine (HA0.o p ov (i+2) T a _ H4.o (by omega) (by omega) (by simp only[zbg];omega) (by omega)).mono ?_;intro u w5 hw;have HLP0:Hid (u=.returned (.tuple #[])/\ArR p s L W1 ov a t fn (L.length-i+T.length) (T.length+(L.length-i)+(f1+1+1)) (f1+1) R (.int .i64 1) w5):=Hd (by
   rcases zbd hw with ⟨i3,T3,ov3,hr,hi3,rfl,ha,ht⟩ | ⟨x,er,i3,T3,ov3,hr,he,hi3,hm,rfl,ha,ht⟩
   ·have hl3:=zmb hr (by omega) hi3;have hg3:=growR hr;simp only[za0] at hl3 hg3;exact ⟨rfl,1,rfl,by omega,by omega,.inl ⟨f1,i3,T3,ov3,by rw[HR3.o,hr];rfl,by omega,hi3,by omega,by omega,by omega,by omega,ha,U4.o.trans ht⟩⟩
   exact ⟨rfl,1,rfl,by omega,by omega,.inr ⟨x,er,i3,T3,ov3,by rw[HR3.o,hr];rfl,he,hi3,by omega,ha,U4.o.trans ht⟩⟩)
  clear hw;obtain rfl:=HLP0.o.1;go_wp2_with fail;go_loopw [6] (λnv wr=>ArR p s L W1 ov a t fn (L.length-i+T.length) (T.length+(L.length-i)+(f1+1+1)) (f1+1) R nv wr) (λ_ wr=>zl9 p L.length wr)
  case atStart=>exact HLP0.o.2
  obtain ⟨n,rfl,hn1,hn2,hcs⟩:=hrel;have hnz:(1:Int)<=(n:Int):=by omega
  have hnx:(n:Int)<=1001:=by omega
  rcases hcs with ⟨f',i',T',ov',hr,hni,hi',hf',hff,hb',hT1,ha,ht⟩ | ⟨x,er,i',T',ov',hr,he,hi',hm,ha,ht⟩
  ·have HR4:=Hd hr;have HM:=Hd (zge ha L.length);have H5:=Hd ha;have U5:=Hd ht;have HHL:Hid ((zak s.length (L.drop i',T')).kind≠0->i'<L.length):=Hd zg7;have HN5:=Hd (zc5 p s L ov' i' T' a 0 _ H5.o (by omega));obtain ⟨_,_, -, -, -, -, -,c5, -, -,dl⟩:=ha.cells;have hi0':(0:Int)<=(i':Int):=jw _;have hi9':(i':Int)<=1000:=by omega
   clear hr ha ht HLP0 hf0;obtain ⟨q,hq⟩:=jN (zak s.length (L.drop i',T'));unfold nxtA at HR4;rw[hq] at HR4 HN5 HHL;clear hq;have hf0:∀W,(Instr.field 239 (.agg q) 0).run prog W=.ok (.int .u8 q.kind) W:=λ_=>by rfl
   rw[show (cTok q).toArray=#[.int .u8 q.kind,.int .i64 q.num,str q.text,.int .i64 q.rect.c1,.int .i64 q.rect.r1,.int .i64 q.rect.c2,.int .i64 q.rect.r2,.int .i64 q.at_] from rfl] at HN5;go_wp2_with fail;refine HN5.o.mono ?_;rintro u w6 ⟨rfl,hb6⟩;have H6:=Hd (H5.o.below hb6);have U6:=Hd (PTo.below U5.o hb6);clear hb6 HN5 c5 dl;by_cases hq:q.kind=11;rotate_left
   ·have bq:(q.kind==11)=false:=by simpa using hq
    have HR5:=Hd (HR4.o.trans (ja hq));clear hq HR4 HHL;go_wp2;go_meet
    case rel=>exact ⟨n,rfl,hn2,.inl ⟨i',T',ov',HR5.o,hi',hb',λ_=>hT1,H6.o,U6.o⟩⟩
   have bq:(q.kind==11)=true:=by simpa using hq
   have hil':i'<L.length:=HHL.o (by omega);obtain ⟨f2,rfl⟩:∃f2,f'=f2+1:=⟨f'-1,by omega⟩;have HR5:=Hd (HR4.o.trans ((jb hq).trans (zxm _ _ _ _ _ _)));clear hq HR4 HHL;obtain ⟨_,_, -, -,c2, -, -, -,cf, -,dl⟩:=H6.o.cells;have H7:=Hd H6.o.step;have HA:Hid (RunR 363 (λp=>#[.pointer (some ⟨p,0,none⟩),.int .u8 fn,.int .i64 n]) s L f2 (.arg fn n)):=Hd (HL.o f2 fn n (by omega) hfr1 hfr2 (by omega));go_wp2_with fail;refine (HA.o p ov' (i'+1) T' a _ H7.o.1 (by omega) (by omega) (by simp only[zbg];omega) (by omega)).mono ?_;intro u w8 hw;clear c2 cf dl;have HNX:Hid (u=.returned (.tuple #[])/\ArR p s L W1 ov a t fn (L.length-i+T.length) (T.length+(L.length-i)+(f1+1+1)) (f1+1) R (.int .i64 ((n:Int)+1)) w8/\zl9 p L.length w8<zl9 p L.length wr):=Hd (by
    rcases zbd hw with ⟨i3,T3,ov3,hr,hi3,rfl,ha,ht⟩ | ⟨x,er,i3,T3,ov3,hr,he,hi3,hm,rfl,ha,ht⟩
    ·have hl3:=zmb hr (by omega) hi3;have hg3:=growR hr;simp only[za0] at hl3 hg3;refine ⟨rfl,⟨n+1,rfl,by omega,by omega,.inl ⟨f2,i3,T3,ov3,by rw[HR5.o,za1,hr];rfl,by omega,hi3,by omega,by omega,by omega,by omega,ha,(U6.o.trans H7.o.2).trans ht⟩⟩,?_⟩;rw[zge ha,HM.o];omega
    refine ⟨rfl,⟨n+1,rfl,by omega,by omega,.inr ⟨x,er,i3,T3,ov3,by rw[HR5.o,za1,hr];rfl,he,hi3,by omega,ha,(U6.o.trans H7.o.2).trans ht⟩⟩,?_⟩;rw[zoa ha he,HM.o];omega)
   clear hw;obtain rfl:=HNX.o.1;go_wp2;exact HNX.o.2
  have H5:=Hd ha;have U5:=Hd ht;have HR5:=Hd hr;obtain ⟨_,_, -, -, -, -, -,c5, -, -,dl⟩:=ha.cells;have e5:(er==0)=false:=by simpa using he
  clear hr ha ht HLP0 hf0;go_wp2;go_meet
  case rel=>exact ⟨n,rfl,hn2,.inr ⟨x,er,i',T',ov',HR5.o,he,hi',by omega,H5.o,U5.o⟩⟩
 case rest=>
  obtain ⟨n,rfl,hn2,hcs⟩:=hcut;have hnz:(0:Int)<=(n:Int):=by omega
  have hnx:(n:Int)<=1001:=by omega
  clear HL HR2 H4 U4 H3 U3 H2 U2 H0 hf0;rcases hcs with ⟨i',T',ov',hr,hi',hb',hT1,ha,ht⟩ | ⟨x,er,i',T',ov',hr,he,hi',hm,ha,ht⟩
  rotate_left
  ·have H5:=Hd ha;have U5:=Hd ht;have HR5:=Hd hr;obtain ⟨_,_, -, -, -, -, -,c5, -, -,dl⟩:=ha.cells;have e5:(er != 0)=true:=by simpa using he
   clear hr ha ht;go_wp2;refine bR ?_;exact za8 HR5.o he hi' hm H5.o (TU.o _ _ U5.o)
  have H5:=Hd ha;have U5:=Hd ht;have HR5:=Hd hr;obtain ⟨_,_, -, -, -, -, -,c5, -, -,dl⟩:=ha.cells;have HAR:=Hd (zly fn hfr1 hfr2);have HA1:=jM (1<=(zao fn).1) (by unfold zao;(repeat' split);all_goals omega)
  clear hr ha ht;by_cases hw:(zak s.length (L.drop i',T')).kind=10;rotate_left
  ·have HR6:=jM (R=.error ((zak s.length (L.drop i',T')).at_,4)) (by rw[HR5.o];unfold ze3;rw[jb hw]);go_wp2_with fail;refine (zks _ H5.o (by omega) hw).mono ?_;rintro u w6 ⟨rfl,ha,ht⟩;have H6:=Hd ha;have U6:=Hd (U5.o.trans ht);clear ha ht hw c5 dl HR5;generalize (zak s.length (L.drop i',T')).at_=x at *;go_wp2_with fail;refine (HAR.o _).mono ?_;rintro u w7 ⟨rfl,rfl⟩;generalize (zao fn).1=m0 at *;generalize (zao fn).2.1=m1 at *;have x7:w6.cell? (W,7)=some (.int .i64 t.at_):=(KU.o _ _ U6.o).cell 7;obtain ⟨_,_, -, -, -, -, -,c5, -, -,dl⟩:=H6.o.cells;by_cases hm0:(n:Int)<m0
   ·go_wp2_with fail;refine (zd6 p s L ov' i' T' x 4 t.at_ 11 _ H6.o (by decide)).mono ?_;rintro u w8 ⟨rfl,rfl⟩;go_wp2;refine bR ?_;exact za8 HR6.o (by decide) (by omega) (by omega) H6.o (TU.o _ _ U6.o)
   by_cases hm1:m1<(n:Int)
   ·go_wp2_with fail;refine (zd6 p s L ov' i' T' x 4 t.at_ 11 _ H6.o (by decide)).mono ?_;rintro u w8 ⟨rfl,rfl⟩;go_wp2;refine bR ?_;exact za8 HR6.o (by decide) (by omega) (by omega) H6.o (TU.o _ _ U6.o)
   go_wp2;refine bR ?_;exact za8 HR6.o (by decide) (by omega) (by omega) H6.o (TU.o _ _ U6.o)
  have HR6:=Hd (show R=if (n:Int)<(zao fn).1\/(zao fn).2.1<(n:Int) then .error (t.at_,11) else if 46<=fn/\(T'.getLast?.map (·.kind))≠some 2/\(T'.getLast?.map (·.kind))≠some 3 then .error (t.at_,4) else .ok (L.drop (i'+1),T'++ [{ nod0 7 with fn:=fn,n:=n }]) by
   rw[HR5.o];unfold ze3;rw[ja (λe=>e hw),za1];rfl)
  go_wp2_with fail;refine (zgc _ H5.o (by omega) (by decide) hw).mono ?_;rintro u w6 ⟨rfl,hil',ha,ht⟩;have H6:=Hd ha;have U6:=Hd (U5.o.trans ht);clear ha ht hw c5 dl HR5;go_wp2_with fail;refine (HAR.o _).mono ?_;rintro u w7 ⟨rfl,rfl⟩;obtain ⟨m0,hm0⟩:=jN ((zao fn).1);obtain ⟨m1,hm1⟩:=jN ((zao fn).2.1);rw[hm0,hm1] at HR6 ⊢;rw[hm0] at HA1;clear hm0 hm1 HAR;have x7:w6.cell? (W,7)=some (.int .i64 t.at_):=(KU.o _ _ U6.o).cell 7;obtain ⟨_,_, -, -, -, -, -,c5, -, -,dl⟩:=H6.o.cells;by_cases hcnt:(n:Int)<m0\/m1<(n:Int)
  ·have HR7:=Hd (HR6.o.trans (jb hcnt));have HC:=Hd (zbv p s L ov' (i'+1) T' a t.at_ 11 _ H6.o);have HDO:=Hd hcnt;by_cases hm0:(n:Int)<m0
   case' neg=>have hm1:m1<(n:Int):=HDO.o.resolve_left hm0
   all_goals
    clear hcnt HR6;go_wp2_with fail;refine HC.o.mono ?_;rintro u w8 ⟨rfl,ha,ht⟩;have H8:=Hd ha;have U8:=Hd (U6.o.trans ht);clear ha ht x7 c5 dl;obtain ⟨_,_, -, -, -, -, -,c5, -, -,dl⟩:=H8.o.cells;go_wp2;refine bR ?_;exact za8 HR7.o (by decide) (by omega) (by omega) H8.o (TU.o _ _ U8.o)
  have HR7:=Hd (HR6.o.trans (ja hcnt));have hm0:¬(n:Int)<m0:=λh=>hcnt (.inl h);have hm1:¬m1<(n:Int):=λh=>hcnt (.inr h);have hTn:1<=T'.length:=hT1 (by have:=HA1.o;omega);clear hcnt HR6;obtain ⟨m,hm⟩:∃m,T'.length=m+1:=⟨T'.length-1,by omega⟩;have hx:=jz (l:=T') (i:=m) (by omega);have hlast:T'.getLast?=some (T'[m]'(by omega)):=by rw[List.getLast?_eq_getElem?,show T'.length-1=m by omega];exact hx
  generalize T'[m]'(by omega)=x at hx hlast;obtain ⟨g,cap,hv,hcells⟩:∃g cap,ov'=.slice (some ⟨g,0,none⟩) (m+1) cap/\w6.cell? ⟨g,m*11,none⟩=some (.int .u8 x.kind):=by
   obtain ⟨g,cap,hv,_⟩:=World.ownsRow.form H6.o.ow (by omega);have hs:=H6.o.ow.sls (by unfold maxLen;omega);rw[hv] at hs;obtain ⟨b,o,e1,_,hr⟩:=Sls.get hs 11 zbx hx;injection e1 with e1
   injection e1 with e1 e2
   subst e1 e2;refine ⟨g,cap,by rw[hv,hm],?_⟩;have:=hr 0 _ rfl
   rwa [Nat.zero_add,Nat.add_zero] at this
  have HR8:Hid (R=if 46<=fn/\x.kind≠2/\x.kind≠3 then .error (t.at_,4) else .ok (L.drop (i'+1),T'++ [{ nod0 7 with fn:=fn,n:=n }])):=Hd (by
   rw[HR7.o,hlast];simp only[Option.map_some,ne_eq,jl])
  obtain ⟨_,_, -, -, -,c3, -, -, -, -, -⟩:=H6.o.cells;have p3:w6.cell? (p,3)=some (.slice (some (g,0)) (m+1) cap):=by rw[<- hv];exact c3
  have HV:=Hd hv;have hmz:(0:Int)<=(m:Int):=by omega
  have hmy:(m:Int)<=3000:=by omega
  have hTm:T'.length<=3000:=by omega
  clear hx hlast hm hv HR7 c3;generalize x.kind=xk at HR8 hcells;clear x;go_upto_region 19 with (fail)
  go_region
  have HH10:=Hd (H6.o.below ((jg _ _).drew));have UU10:=Hd (PTo.below U6.o ((jg _ _).drew));clear hcells p3 H6 U6 x7 c5 dl;have H6:=HH10;have U6:=UU10;clear HH10 UU10;have x7:w6.drew.cell? (W,7)=some (.int .i64 t.at_):=(KU.o _ _ U6.o).cell 7;by_cases hbad:46<=fn/\xk≠2/\xk≠3
  ·have HR9:=Hd (HR8.o.trans (jb hbad));obtain ⟨h46,k2,k3⟩:=hbad;have g46:(46:Int)<=(fn:Int):=by omega
   have b2:(xk != 2)=true:=by simpa using k2
   have b3:(xk != 3)=true:=by simpa using k3
   clear HR8 h46 k2 k3;go_wp2_with fail;refine (zbv p s L ov' (i'+1) T' a t.at_ 4 _ H6.o).mono ?_;rintro u w8 ⟨rfl,ha,ht⟩;have H8:=Hd ha;have U8:=Hd (U6.o.trans ht);clear ha ht x7;have KN9:=Hd (je w8 297 (cNod { nod0 7 with fn:=fn,n:=n }).toArray);have HN9:=Hd (H8.o.ow.alloc (.cells (cNod { nod0 7 with fn:=fn,n:=n }).toArray 297));have HW9:=jM (Below w8 w8 (w8.alloc (.cells (cNod { nod0 7 with fn:=fn,n:=n }).toArray 297))) (by go_grown);obtain ⟨_,_, -, -, -,d3, -, -,df, -,dl⟩:=H8.o.cells;go_wp2_with (at_builtin;refine ju ?_);refine Hd ?_;refine zbm rfl _ _ rfl { nod0 7 with fn:=fn,n:=n } HN9.o KN9.o rfl rfl (by omega) ?_;intro A9 m9 cp9 y9 o9 q9;have HF9:=Hd (H8.o.putAt HW9.o o9 q9);obtain ⟨e3,e3f⟩:=H8.o.slot HW9.o q9;clear o9 q9 d3 df dl;go_wp2;refine bE ?_;exact za8 HR9.o (by decide) (by omega) (by simp;omega) HF9.o.1 (TU.o _ _ (U8.o.trans HF9.o.2))
  have HR9:=Hd (HR8.o.trans (ja hbad));have HBD:=Hd hbad;clear HR8 hbad;obtain ⟨V,hV⟩:=jN w6.drew;rw[hV] at H6 U6 x7 ⊢;clear hV;by_cases g46:(46:Int)<=(fn:Int);rotate_left
  ·have KN9:=Hd (je V 297 (cNod { nod0 7 with fn:=fn,n:=n }).toArray);have HN9:=Hd (H6.o.ow.alloc (.cells (cNod { nod0 7 with fn:=fn,n:=n }).toArray 297));have HW9:=jM (Below V V (V.alloc (.cells (cNod { nod0 7 with fn:=fn,n:=n }).toArray 297))) (by go_grown);obtain ⟨_,_, -, -, -,d3, -, -,df, -,dl⟩:=H6.o.cells;go_wp2_with (at_builtin;refine ju ?_);refine Hd ?_;refine zbm rfl _ _ rfl { nod0 7 with fn:=fn,n:=n } HN9.o KN9.o rfl rfl (by omega) ?_;intro A9 m9 cp9 y9 o9 q9;have HF9:=Hd (H6.o.putAt HW9.o o9 q9);obtain ⟨e3,e3f⟩:=H6.o.slot HW9.o q9;clear o9 q9 d3 df dl;go_wp2;refine bE ?_;exact zbs HR9.o (by omega) HF9.o.1 (TU.o _ _ (U6.o.trans HF9.o.2))
  by_cases k2:xk=2
  ·have b2:(xk != 2)=false:=by simpa using k2
   clear k2;have KN9:=Hd (je V 297 (cNod { nod0 7 with fn:=fn,n:=n }).toArray);have HN9:=Hd (H6.o.ow.alloc (.cells (cNod { nod0 7 with fn:=fn,n:=n }).toArray 297));have HW9:=jM (Below V V (V.alloc (.cells (cNod { nod0 7 with fn:=fn,n:=n }).toArray 297))) (by go_grown);obtain ⟨_,_, -, -, -,d3, -, -,df, -,dl⟩:=H6.o.cells;go_wp2_with (at_builtin;refine ju ?_);refine Hd ?_;refine zbm rfl _ _ rfl { nod0 7 with fn:=fn,n:=n } HN9.o KN9.o rfl rfl (by omega) ?_;intro A9 m9 cp9 y9 o9 q9;have HF9:=Hd (H6.o.putAt HW9.o o9 q9);obtain ⟨e3,e3f⟩:=H6.o.slot HW9.o q9;clear o9 q9 d3 df dl;go_wp2;refine bE ?_;exact zbs HR9.o (by omega) HF9.o.1 (TU.o _ _ (U6.o.trans HF9.o.2))
  have b2:(xk != 2)=true:=by simpa using k2
  have k3:xk=3:=Classical.byContradiction (λh=>HBD.o ⟨by omega,k2,h⟩);have b3:(xk != 3)=false:=by simpa using k3
  clear k2 k3;have KN9:=Hd (je V 297 (cNod { nod0 7 with fn:=fn,n:=n }).toArray);have HN9:=Hd (H6.o.ow.alloc (.cells (cNod { nod0 7 with fn:=fn,n:=n }).toArray 297));have HW9:=jM (Below V V (V.alloc (.cells (cNod { nod0 7 with fn:=fn,n:=n }).toArray 297))) (by go_grown);obtain ⟨_,_, -, -, -,d3, -, -,df, -,dl⟩:=H6.o.cells;go_wp2_with (at_builtin;refine ju ?_);refine Hd ?_;refine zbm rfl _ _ rfl { nod0 7 with fn:=fn,n:=n } HN9.o KN9.o rfl rfl (by omega) ?_;intro A9 m9 cp9 y9 o9 q9;have HF9:=Hd (H6.o.putAt HW9.o o9 q9);obtain ⟨e3,e3f⟩:=H6.o.slot HW9.o q9;clear o9 q9 d3 df dl;go_wp2;refine bE ?_;exact zbs HR9.o (by omega) HF9.o.1 (TU.o _ _ (U6.o.trans HF9.o.2))
structure AllR (s:zaa) (L:List Tok) (f:Nat):Prop where
 sign:RunR 296 one1 s L f .sign
 pct:RunR 317 one1 s L f .pct
 prim:RunR 334 one1 s L f .prim
 level:∀k,1<=k->k<=4->RunR 261 (lev1 k) s L f (.level k)
 call:z39 s L f
 arg:∀fn n,1<=fn->fn<=50->n<=2000->RunR 363 (arg1 fn n) s L f (.arg fn n)
theorem zxo (s:zaa) (L:List Tok):AllR s L 0 where
 sign:=λp ov i T a W h hi hn hf=>by simp only[zbg] at hf;omega
 pct:=λp ov i T a W h hi hn hf=>by simp only[zbg] at hf;omega
 prim:=λp ov i T a W h hi hn hf=>by simp only[zbg] at hf;omega
 level:=λk h1 h4 p ov i T a W h hi hn hf=>by simp only[zbg] at hf;omega
 call:=λt p ov i T a W h hi hx hk hn hf=>by omega
 arg:=λfn n h1 h2 h3 p ov i T a W h hi hn hf=>by simp only[zbg] at hf;omega
theorem zxp (s:zaa) (L:List Tok) (hL:L.length<=1000) (hN:zg3 L=true):∀f,∀f'≤f,AllR s L f'
 | 0,f',h=>by
  obtain rfl:f'=0:=by omega
  exact zxo s L
 | f+1,f',h=>by
  have ih:=zxp s L hL hN f;rcases Nat.lt_or_ge f f' with hlt | hge
  rotate_left
  ·exact ih f' hge
  obtain rfl:f'=f+1:=by omega
  have a:=ih f jy;exact
   { sign:=z2b s L hL f a.sign a.pct
     pct:=zsk s L hL f a.prim
     prim:=z2c s L hL f (a.level 1 (by omega) (by omega)) a.call
     level:=λk h1 h4=>by
      refine zyr s L hL k h1 h4 f (λf' hf'=>?_);rcases Nat.lt_or_ge k 4 with hk | hk
      ·unfold nxtS;rw[jb hk];exact (ih f' hf').level (k+1) (by omega) (by omega)
      obtain rfl:k=4:=by omega
      exact zuz s L f' (ih f' hf').sign
     call:=z2e s L hL hN f (λf' fn n hf' h1 h2 h3=>(ih f' hf').arg fn n h1 h2 h3)
     arg:=λfn n h1 h2 h3=>rp_arg s L hL f fn n h1 h2 h3 (a.level 1 (by omega) (by omega)) }
end Go.Proofs.YtamcgggmfghljaaGreatDoor
