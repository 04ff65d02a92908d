/- walk -/
import Derived.Test.YtamcgggmfghljaaGreatDoorE17
import Derived.Test.YtamcgggmfghljaaGreatDoorE19
set_option maxRecDepth 100000
set_option maxHeartbeats 8000000
open Go.Proofs.Tryz
namespace Go.Proofs.YtamcgggmfghljaaGreatDoor
open Go.RowKit
variable {u:Ending} {e:Int} {w w':World}
def nxtS (k:Nat):Stg:=if k<4 then .level (k+1) else .sign
theorem zs6 (k:Nat) (hk:k<=4) (m:Nat):zbg (nxtS k) m<=10*m+2*(5-k)+2:=by
 unfold nxtS;split
 ·simp only[zbg];omega
 simp only[zbg];omega
theorem zvw (k:Nat):za0 (nxtS k)=1:=by
 unfold nxtS;split <;> rfl
def LpR (p:Nat) (s:zaa) (L:List Tok) (W:World) (ov:Value) (a:Int) (n m f k:Nat) (R:PRes) (wr:World):Prop:=
 (∃f' i' T' ov',R=parS s.length f' (.loop k) (L.drop i',T')/\i'<=L.length/\10*(L.length-i')+2*(5-k)+2<=f'/\f'<=f/\L.length-i'+T'.length<=n/\PR wr p s L ov' i' T' a 0/\PTo p W ov wr ov')\/
 (∃x er i' T' ov',R=.error (x,er)/\er≠0/\i'<=L.length+1/\T'.length<=m/\PR wr p s L ov' i' T' x er/\PTo p W ov wr ov')
theorem zuz (s:zaa) (L:List Tok) (f:Nat) (hs:RunR 296 one1 s L f .sign):RunR 261 (lev1 5) s L f .sign:=by
 intro p ov i T a W h hi hn hf hf5;have HC:=Hd (hs p ov i T a W h hi hn hf hf5);clear hs h;generalize parS s.length f .sign (L.drop i,T)=R at HC ⊢;unfold lev1;unfold one1 at HC;go_enter func261,ntmps261;go_wp2_with fail;refine HC.o.mono ?_;intro u w1 hw;have HW:=Hd hw;obtain rfl:=hw.1;clear hw;go_wp2;refine bR ?_;exact HW.o
theorem zyr (s:zaa) (L:List Tok) (hL:L.length<=1000) (k:Nat) (hk1:1<=k) (hk4:k<=4) (f:Nat) (hl:∀f',f'<=f->RunR 261 (lev1 (k+1)) s L f' (nxtS k)):RunR 261 (lev1 k) s L (f+1) (.level k):=by
 intro p ov i T a W h hi hn hf hf5;have HL:Hid (∀f',f'<=f->RunR 261 (λp=>#[.pointer (some ⟨p,0,none⟩),.int .i64 ((k:Int)+1)]) s L f' (nxtS k)):=Hd hl;have HH:=Hd h;simp only[zbg] at hf;have HR:Hid (parS s.length (f+1) (.level k) (L.drop i,T)=thenS (parS s.length f (nxtS k) (L.drop i,T)) (parS s.length f (.loop k))):=Hd rfl;have HLP:Hid (∀f st,parS s.length (f+1) (.loop k) st=if (zak s.length st).kind≠8\/zb4 (zak s.length st).num≠k then .ok st else thenS (parS s.length f (nxtS k) (zap st)) λst'=>parS s.length f (.loop k) (putS { nod0 6 with op:=(zak s.length st).num } st')):=Hd (λf st=>rfl);have HND:=Hd (zs6 k hk4);have HUS:=Hd (zvw k);generalize nxtS k=G at *;generalize parS s.length (f+1) (.level k) (L.drop i,T)=R at HR ⊢;have k0:(0:Int)<=(k:Int):=by omega
 have k4:(k:Int)<=4:=by omega
 have k5:((k:Int)==5)=false:=by simp only[jI,ne_eq];omega
 have hno:zbg G (L.length-i)<=f:=by have:=HND.o (L.length-i);omega
 clear hl h;unfold lev1;go_enter func261,ntmps261;go_wp2_with fail;refine (HL.o f jy p ov i T a W HH.o hi hn hno (by omega)).mono ?_;intro u w3 hw;have HLP0:Hid (u=.returned (.tuple #[])/\LpR p s L W ov a (L.length-i+T.length) (T.length+(L.length-i)+(f+1)) f k R w3):=Hd (by
  rcases zbd hw with ⟨i3,T3,ov3,hr,hi3,rfl,ha,ht⟩ | ⟨x,er,i3,T3,ov3,hr,he,hi3,hm,rfl,ha,ht⟩
  ·have hl3:=zmb hr hi hi3;rw[HUS.o] at hl3;exact ⟨rfl,.inl ⟨f,i3,T3,ov3,by rw[HR.o,hr];rfl,hi3,by omega,Nat.le_refl _,by omega,ha,ht⟩⟩
  exact ⟨rfl,.inr ⟨x,er,i3,T3,ov3,by rw[HR.o,hr];rfl,he,hi3,by omega,ha,ht⟩⟩)
 clear hw;obtain rfl:=HLP0.o.1;go_wp2_with fail;go_loopw [4] (λ_ wr=>LpR p s L W ov a (L.length-i+T.length) (T.length+(L.length-i)+(f+1)) f k R wr) (λ_ wr=>zl9 p L.length wr)
 case atStart=>exact HLP0.o.2
 rcases hrel with ⟨f',i',T',ov',hr,hi',hf',hff,hn',ha,ht⟩ | ⟨x,er,i',T',ov',hr,he,hi',hm,ha,ht⟩
 ·obtain ⟨f2,rfl⟩:∃f2,f'=f2+1:=⟨f'-1,by omega⟩;have HR2:=Hd (hr.trans (HLP.o f2 (L.drop i',T')));have HM:=Hd (zge ha L.length);have H4:=Hd ha;have P4:=Hd ht;have HHL:Hid ((zak s.length (L.drop i',T')).kind≠0->i'<L.length):=Hd zg7;have HO:=Hd (z2d p s L ov' i' T' a 0 k);have HN2:=Hd (zc5 p s L ov' i' T' a 0);obtain ⟨_,_, -, -, -, -, -,c5, -, -,dl⟩:=ha.cells;have hi0:(0:Int)<=(i':Int):=jw _;have hi9:(i':Int)<=1000:=by omega
  clear hr ha ht HLP0;generalize zak s.length (L.drop i',T')=t at *;go_wp2_with fail;refine (HO.o _ H4.o (by omega)).mono ?_;rintro u w5 ⟨rfl,hb5⟩;have H5:=Hd (H4.o.below hb5);have P5:=Hd (PTo.below P4.o hb5);clear hb5 c5 dl HO;by_cases hq:t.kind=8/\zb4 t.num=k;rotate_left
  ·have HR3:=Hd (HR2.o.trans (jb (Classical.byCases (λh8:t.kind=8=>.inr (λh2=>hq ⟨h8,h2⟩)) (λh8=>.inl h8))));rw[show (decide (t.kind=8)&&decide (zb4 t.num=(k:Int)))=false by rw[<- Bool.not_eq_true,ji,decide_eq_true_eq,decide_eq_true_eq];exact hq];clear hq HR2 HHL;go_wp2;refine bE ?_;exact zbs HR3.o hi' H5.o P5.o
  have hil:i'<L.length:=HHL.o (by omega);have HR3:=Hd (HR2.o.trans (ja (by rw[not_or];exact ⟨λh=>h hq.1,λh=>h hq.2⟩)));rw[show (decide (t.kind=8)&&decide (zb4 t.num=(k:Int)))=true by rw[hq.1,hq.2];simp];clear hq HR2 HHL;go_wp2_with fail;refine (HN2.o _ H5.o (by omega)).mono ?_;rintro u w6 ⟨rfl,hb6⟩;have H6:=Hd (H5.o.below hb6);have P6:=Hd (PTo.below P5.o hb6);obtain ⟨_,_, -, -,c2, -, -, -,cf, -,dl⟩:=H6.o.cells;have H7:=Hd H6.o.step;clear hb6 HN2;have hf1:∀W,(Instr.field 239 (.agg t) 1).run prog W=.ok (.int .i64 t.num) W:=λ_=>by rfl
  rw[show (cTok t).toArray=#[.int .u8 t.kind,.int .i64 t.num,str t.text,.int .i64 t.rect.c1,.int .i64 t.rect.r1,.int .i64 t.rect.c2,.int .i64 t.rect.r2,.int .i64 t.at_] from rfl];go_wp2_with fail;refine (HL.o f2 (by omega) p ov' (i'+1) T' a _ H7.o.1 (by omega) (by omega) (by have:=HND.o (L.length-(i'+1));omega) (by omega)).mono ?_;intro u w8 hw;clear c2 cf dl;have P7:=Hd (P6.o.trans H7.o.2);rcases zbd hw with ⟨i8,T8,ov8,hr,hi8,rfl,ha,ht⟩ | ⟨x,er,i8,T8,ov8,hr,he,hi8,hm,rfl,ha,ht⟩
  ·have hl8:=zmb hr (by omega) hi8;rw[HUS.o] at hl8;have HL8:=Hd hl8;have HR4:=jM (R=parS s.length f2 (.loop k) (L.drop i8,T8++ [{ nod0 6 with op:=t.num }])) (by rw[HR3.o,za1,hr];rfl);have H8:=Hd ha;have P8:=Hd (P7.o.trans ht);have hT8:T8.length<=3000:=by have:=HL8.o;omega
   clear ha ht hr hw hl8;have KN9:=Hd (je w8 297 (cNod { nod0 6 with op:=t.num }).toArray);have HN9:=Hd (H8.o.ow.alloc (.cells (cNod { nod0 6 with op:=t.num }).toArray 297));have HW9:=jM (Below w8 w8 (w8.alloc (.cells (cNod { nod0 6 with op:=t.num }).toArray 297))) (by go_grown);obtain ⟨_,_, -, -, -,d3, -, -,df, -,dl⟩:=H8.o.cells;go_wp2_with (at_builtin;refine ju ?_);refine Hd ?_;refine zbm rfl _ _ rfl { nod0 6 with op:=t.num } HN9.o KN9.o rfl rfl (by omega) ?_;intro A9 m9 cp9 y9 o9 q9;have HF9:=Hd (H8.o.putAt HW9.o o9 q9);obtain ⟨e3,e3f⟩:=H8.o.slot HW9.o q9;clear o9 q9 d3 df dl;go_wp2;refine ⟨.inl ⟨f2,i8,_,_,HR4.o,hi8,by have:=HL8.o;omega,by omega,by have:=HL8.o;simp;omega,HF9.o.1,P8.o.trans HF9.o.2⟩,?_⟩;rw[zge HF9.o.1,HM.o];have:=HL8.o;omega
  have HR4:=jM (R=.error (x,er)) (by rw[HR3.o,za1,hr];rfl);have H8:=Hd ha;have P8:=Hd (P7.o.trans ht);have hT8:T8.length<=9000:=by omega
  clear ha ht hr hw;have KN9:=Hd (je w8 297 (cNod { nod0 6 with op:=t.num }).toArray);have HN9:=Hd (H8.o.ow.alloc (.cells (cNod { nod0 6 with op:=t.num }).toArray 297));have HW9:=jM (Below w8 w8 (w8.alloc (.cells (cNod { nod0 6 with op:=t.num }).toArray 297))) (by go_grown);obtain ⟨_,_, -, -, -,d3, -, -,df, -,dl⟩:=H8.o.cells;go_wp2_with (at_builtin;refine ju ?_);refine Hd ?_;refine zbm rfl _ _ rfl { nod0 6 with op:=t.num } HN9.o KN9.o rfl rfl (by omega) ?_;intro A9 m9 cp9 y9 o9 q9;have HF9:=Hd (H8.o.putAt HW9.o o9 q9);obtain ⟨e3,e3f⟩:=H8.o.slot HW9.o q9;clear o9 q9 d3 df dl;go_wp2;refine ⟨.inr ⟨x,er,i8,_,_,HR4.o,he,hi8,by simp;omega,HF9.o.1,P8.o.trans HF9.o.2⟩,?_⟩;rw[zoa HF9.o.1 he,HM.o];omega
 have H4:=Hd ha;have P4:=Hd ht;have HR3:=Hd hr;obtain ⟨_,_, -, -, -, -, -,c5, -, -,dl⟩:=ha.cells;have e5:(er==0)=false:=by simpa using he
 clear hr ha ht HLP0;go_wp2;refine bE ?_;exact za8 HR3.o he hi' hm H4.o P4.o
abbrev RpS (p g:Nat) (s:zaa) (lv ov:Value) (i a:Int) (t:Tok):World->Prop:=λW'=>Blk W' p 272 #[str s,lv,.int .i64 i,ov,.int .i64 a,.int .i64 0]/\Blk W' g 239 t
def z39 (s:zaa) (L:List Tok) (f:Nat):Prop:=∀(name:Tok) (p:Nat) (ov:Value) (i:Nat) (T:List Nod) (a:Int) (W:World),PR W p s L ov (i+1) T a 0->i<L.length->L[i]?=some name->name.kind=7->L.length-i+T.length<=2000->10*(L.length-i)+1<=f->f<=5000->
 Calls prog 349 #[(aA p),.agg (cTok name).toArray] W (zmy p s L W ov a (T.length+(L.length-i)+f) (parS s.length f (.call name) (L.drop i,T)))
theorem z2c (s:zaa) (L:List Tok) (hL:L.length<=1000) (f:Nat) (hl:RunR 261 (lev1 1) s L f (.level 1)) (hc:z39 s L f):RunR 334 one1 s L (f+1) .prim:=by
 intro p ov i T a W h hi hn hf hf5;have HLV:Hid (RunR 261 (λp=>#[.pointer (some ⟨p,0,none⟩),.int .i64 1]) s L f (.level 1)):=Hd hl;have HCL:=Hd hc;have HH:=Hd h;simp only[zbg] at hf;obtain ⟨t,ht0⟩:=jN (zak s.length (L.drop i,T));have HR:Hid (parS s.length (f+1) .prim (L.drop i,T)=if t.kind=1 then .ok (putS { nod0 1 with vk:=1,vn:=t.num } (zap (L.drop i,T)))
  else if t.kind=2 then .ok (putS { nod0 1 with vk:=3,vt:=t.text } (zap (L.drop i,T)))
  else if t.kind=3 then .ok (putS { nod0 1 with vk:=2,vn:=t.num } (zap (L.drop i,T)))
  else if t.kind=4 then .ok (putS { nod0 1 with vk:=4,vn:=t.num } (zap (L.drop i,T)))
  else if t.kind=5 then .ok (putS { nod0 2 with rect:=t.rect } (zap (L.drop i,T)))
  else if t.kind=9 then thenS (parS s.length f (.level 1) (zap (L.drop i,T))) (ze4 s.length 10)
  else if t.kind=7 then parS s.length f (.call t) (L.drop i,T)
  else .error (t.at_,4)):=Hd (by rw[<- ht0];rfl)
 generalize parS s.length (f+1) .prim (L.drop i,T)=R at HR ⊢;have HHL:Hid (t.kind≠0->i<L.length):=Hd (ht0▸zg7);have HHE:Hid (t.kind≠0->L[i]?=some t):=Hd (λhk=>by
  have h1:i<L.length:=(ht0▸zg7:t.kind≠0->i<L.length) hk;rw[jz h1,<- ht0,zjy _ L i T h1])
 have hi0:(0:Int)<=(i:Int):=jw _;have hi9:(i:Int)<=1000:=by omega
 have HG0:=jM (∀q,W.heap.size<=q->ov.ownBlock≠some q) (λq hq e=>by have:=h.ow.lt _ e;omega);have HPL:=Hd h.lt;clear hl hc h;unfold one1;go_enter func334,ntmps334;go_wp2_with fail;refine (zc5 p s L ov i T a 0 _ HH.o (by omega)).mono ?_;rintro u w1 ⟨rfl,hb1⟩;rw[ht0];clear ht0;have KT1:=Hd (je w1 239 (cTok t).toArray);have HB1:=jM (Below W W (w1.alloc (.cells (cTok t).toArray 239))) (hb1.alloc hb1.size _);have HS1:=Hd hb1.size;clear hb1;obtain ⟨V1,hV1⟩:=jN (w1.alloc (.cells (cTok t).toArray 239));rw[hV1] at KT1 HB1;have HH1:=Hd (HH.o.below HB1.o);have P1:=Hd (PTo.below (PTo.refl p W ov) HB1.o);rw[show (cTok t).toArray=#[.int .u8 t.kind,.int .i64 t.num,str t.text,.int .i64 t.rect.c1,.int .i64 t.rect.r1,.int .i64 t.rect.c2,.int .i64 t.rect.r2,.int .i64 t.at_] from rfl] at hV1 ⊢;obtain ⟨g,hg⟩:∃g,g=w1.heap.size:=⟨_,rfl⟩;rw[<- hg] at KT1 HS1;have HGO:=Hd (HG0.o g HS1.o);have HGP:=jM (g≠p) (by have:=HPL.o;have:=HS1.o;omega);go_upto_region 1 with (fail)
 rw[<- hg];clear hV1 hg;have H5:=Hd HH1.o.step;have P5:=Hd (P1.o.trans H5.o.2);have KG:=jM (Blk (V1.setCell (p,2) (.int .i64 ((i:Int)+1))) g 239 #[.int .u8 t.kind,.int .i64 t.num,str t.text,.int .i64 t.rect.c1,.int .i64 t.rect.r1,.int .i64 t.rect.c2,.int .i64 t.rect.r2,.int .i64 t.at_]) (Blk.far (p:=⟨p,2,none⟩) KT1.o HGP.o _);obtain ⟨_,_, -, -,c2, -, -, -,cf, -,dl⟩:=HH1.o.cells;go_upto_region 2 with (fail)
 obtain ⟨W5,hW5⟩:=jN (V1.setCell (p,2) (.int .i64 ((i:Int)+1)));rw[hW5] at H5 P5 KG ⊢;clear hW5 c2 cf dl;have x0:=KG.o.cell 0;have hT:T.length<=2000:=by omega
 by_cases hk1:t.kind=1
 ·have HIL:=jM (i+1<=L.length) (HHL.o (by omega));have HR2:=jM (R=.ok (L.drop (i+1),T++ [{ nod0 1 with vk:=1,vn:=t.num }])) (by rw[HR.o,jb hk1,za1];rfl);have b1:(t.kind==1)=true:=by simp only[beq_iff_eq];omega
  go_upto_region 5 with (fail)
  clear x0;obtain ⟨lv,hbx, -⟩:=H5.o.1.bx;obtain ⟨it,ti0,ti1,ti2,ti3⟩:=zeu;have HNP:=jM ((ov).ownBlock≠some p) H5.o.1.ne;have HNG:=jM ((ov).ownBlock≠some g) HGO.o;have Q0:=Hd hbx.drew;have Q1:=Hd (hbx.drew.alloc (.cells (cNod { nod0 1 with vk:=1,vn:=t.num }).toArray 297));have KG0:=jM (Blk W5.drew g 239 t) KG.o.drew;have KG1:=jM (Blk (W5.drew.alloc (.cells (cNod { nod0 1 with vk:=1,vn:=t.num }).toArray 297)) g 239 #[.int .u8 t.kind,.int .i64 t.num,str t.text,.int .i64 t.rect.c1,.int .i64 t.rect.r1,.int .i64 t.rect.c2,.int .i64 t.rect.r2,.int .i64 t.at_]) (KG.o.drew.alloc _);have KN1:=jM (Blk (W5.drew.alloc (.cells (cNod { nod0 1 with vk:=1,vn:=t.num }).toArray 297)) W5.heap.size 297 (cNod { nod0 1 with vk:=1,vn:=t.num }).toArray) (je W5.drew _ _);have HO1:=Hd (H5.o.1.ow.drew.alloc (.cells (cNod { nod0 1 with vk:=1,vn:=t.num }).toArray 297));have HW1:=jM (Below W5 W5 (W5.drew.alloc (.cells (cNod { nod0 1 with vk:=1,vn:=t.num }).toArray 297))) (by go_grown);clear hbx;go_wp2_with fail;refine wp_region_noPanic ?_;refine zaw (RpS p g s lv (ov) ((i:Int)+1) a t) 13 (by kernel_rfl) ?_;have hHeld:(RpS p g s lv (ov) ((i:Int)+1) a t) _:=⟨Q0.o,KG0.o⟩;refine tU 0 (.pointer (some ⟨p,0,none⟩)) (λ_=>hHeld) ?_
  try go_frame
  refine tU 1 (.pointer (some ⟨p,0,none⟩)) (λ_=>hHeld) ?_
  try go_frame
  refine tU 2 (.pointer (some ⟨p,0,none⟩)) (λ_=>hHeld) ?_
  try go_frame
  refine tU 3 (.pointer (some ⟨p,3,none⟩)) (λ_=>hHeld) ?_
  try go_frame
  refine tV 4 ov rfl hHeld (Or.inl ⟨by rfl,by intro W hW;have hc:W.cell? ⟨p,3,none⟩=some (ov):=hW.1.cell 3;go_simp⟩) ?_
  try go_frame
  refine tU 5 (.pointer (some ⟨g,1,none⟩)) (λ_=>hHeld) ?_
  try go_frame
  refine tV 6 (.int .i64 t.num) rfl hHeld (Or.inl ⟨by rfl,by intro W hW;have hc:W.cell? ⟨g,1,none⟩=some (.int .i64 t.num):=hW.2.cell 1;go_simp⟩) ?_
  try go_frame
  refine tU 7 (.agg #[.int .u8 1,t.num,str []]) (λ_=>hHeld) ?_
  try go_frame
  refine tU 8 (.agg (aV 1 t.num)) (λ_=>hHeld) ?_
  try go_frame
  refine tS 9 rfl λK hK=>?_;go_simp;refine hK.out _ _ (λ_=>⟨Q1.o,KG1.o⟩) ?_;have hHeld:(RpS p g s lv (ov) ((i:Int)+1) a t) _:=⟨Q1.o,KG1.o⟩;clear hK K
  try go_frame
  refine tS 10 rfl λK hK=>?_;obtain ⟨r9,w9,hr9,o9,t9⟩:=zdp (P:=prog) _ cNod 190 190 297 it _ 11 96 underlying190 ti0 ti1 ti2 ti3 rfl (by omega) (ov) T HO1.o _ _ [{ nod0 1 with vk:=1,vn:=t.num }] (Sls.one (x:={ nod0 1 with vk:=1,vn:=t.num }) KN1.o rfl) zbx zew (by simp;omega) (by omega);obtain ⟨A9,c9,hv9, -⟩:=zfk o9;obtain ⟨m9,hm9⟩:=jN ((T++ [{ nod0 1 with vk:=1,vn:=t.num }]).length);rw[hm9] at hv9;clear hm9;subst hv9;have hB9:=Q1.o.outTo t9 HNP.o;refine zbl _ _ _ _ rfl _ _ _ _ rfl rfl hr9 ?_;refine hK.out _ _ (λ_=>⟨hB9,KG1.o.outTo t9 HNG.o⟩) ?_;have hHeld:(RpS p g s lv (ov) ((i:Int)+1) a t) _:=⟨hB9,KG1.o.outTo t9 HNG.o⟩;clear hK K
  try go_frame
  refine tU 11 (.pointer (some ⟨p,0,none⟩)) (λ_=>hHeld) ?_
  try go_frame
  refine tU 12 (.pointer (some ⟨p,3,none⟩)) (λ_=>hHeld) ?_
  try go_frame
  refine tS 13 rfl λK hK=>?_;have kc:=hB9.cell 3;have kf:=hB9.frozen;go_simp;refine hK.out _ _ (λh=>absurd h (by decide)) ?_;clear hK K
  try go_frame
  refine zax (by kernel_rfl) ?_;refine NoPanic.normal ?_;have HF:=Hd (H5.o.1.putAt HW1.o o9 t9);clear hHeld hB9 o9 t9 hr9;go_wp2;refine bE ?_;exact zbs HR2.o HIL.o HF.o.1 (P5.o.trans HF.o.2)
 by_cases hk2:t.kind=2
 ·have HIL:=jM (i+1<=L.length) (HHL.o (by omega));have HR2:=jM (R=.ok (L.drop (i+1),T++ [{ nod0 1 with vk:=3,vt:=t.text }])) (by rw[HR.o,ja hk1,jb hk2,za1];rfl);have b1:(t.kind==1)=false:=by simp only[jI,ne_eq];omega
  have b2:(t.kind==2)=true:=by simp only[beq_iff_eq];omega
  go_upto_region 7 with (fail)
  clear x0;obtain ⟨lv,hbx, -⟩:=H5.o.1.bx;obtain ⟨it,ti0,ti1,ti2,ti3⟩:=zeu;have HNP:=jM ((ov).ownBlock≠some p) H5.o.1.ne;have HNG:=jM ((ov).ownBlock≠some g) HGO.o;have Q0:=Hd hbx.drew;have Q1:=Hd (hbx.drew.alloc (.cells (cNod { nod0 1 with vk:=3,vt:=t.text }).toArray 297));have KG0:=jM (Blk W5.drew g 239 t) KG.o.drew;have KG1:=jM (Blk (W5.drew.alloc (.cells (cNod { nod0 1 with vk:=3,vt:=t.text }).toArray 297)) g 239 #[.int .u8 t.kind,.int .i64 t.num,str t.text,.int .i64 t.rect.c1,.int .i64 t.rect.r1,.int .i64 t.rect.c2,.int .i64 t.rect.r2,.int .i64 t.at_]) (KG.o.drew.alloc _);have KN1:=jM (Blk (W5.drew.alloc (.cells (cNod { nod0 1 with vk:=3,vt:=t.text }).toArray 297)) W5.heap.size 297 (cNod { nod0 1 with vk:=3,vt:=t.text }).toArray) (je W5.drew _ _);have HO1:=Hd (H5.o.1.ow.drew.alloc (.cells (cNod { nod0 1 with vk:=3,vt:=t.text }).toArray 297));have HW1:=jM (Below W5 W5 (W5.drew.alloc (.cells (cNod { nod0 1 with vk:=3,vt:=t.text }).toArray 297))) (by go_grown);clear hbx;go_wp2_with fail;refine wp_region_noPanic ?_;refine zaw (RpS p g s lv (ov) ((i:Int)+1) a t) 13 (by kernel_rfl) ?_;have hHeld:(RpS p g s lv (ov) ((i:Int)+1) a t) _:=⟨Q0.o,KG0.o⟩;refine tU 0 (.pointer (some ⟨p,0,none⟩)) (λ_=>hHeld) ?_
  try go_frame
  refine tU 1 (.pointer (some ⟨p,0,none⟩)) (λ_=>hHeld) ?_
  try go_frame
  refine tU 2 (.pointer (some ⟨p,0,none⟩)) (λ_=>hHeld) ?_
  try go_frame
  refine tU 3 (.pointer (some ⟨p,3,none⟩)) (λ_=>hHeld) ?_
  try go_frame
  refine tV 4 ov rfl hHeld (Or.inl ⟨by rfl,by intro W hW;have hc:W.cell? ⟨p,3,none⟩=some (ov):=hW.1.cell 3;go_simp⟩) ?_
  try go_frame
  refine tU 5 (.pointer (some ⟨g,2,none⟩)) (λ_=>hHeld) ?_
  try go_frame
  refine tV 6 (str t.text) rfl hHeld (Or.inl ⟨by rfl,by intro W hW;have hc:W.cell? ⟨g,2,none⟩=some (str t.text):=hW.2.cell 2;go_simp⟩) ?_
  try go_frame
  refine tU 7 (.agg #[.int .u8 3,.int .i64 0,str t.text]) (λ_=>hHeld) ?_
  try go_frame
  refine tU 8 (.agg (aX t.text)) (λ_=>hHeld) ?_
  try go_frame
  refine tS 9 rfl λK hK=>?_;go_simp;refine hK.out _ _ (λ_=>⟨Q1.o,KG1.o⟩) ?_;have hHeld:(RpS p g s lv (ov) ((i:Int)+1) a t) _:=⟨Q1.o,KG1.o⟩;clear hK K
  try go_frame
  refine tS 10 rfl λK hK=>?_;obtain ⟨r9,w9,hr9,o9,t9⟩:=zdp (P:=prog) _ cNod 190 190 297 it _ 11 96 underlying190 ti0 ti1 ti2 ti3 rfl (by omega) (ov) T HO1.o _ _ [{ nod0 1 with vk:=3,vt:=t.text }] (Sls.one (x:={ nod0 1 with vk:=3,vt:=t.text }) KN1.o rfl) zbx zew (by simp;omega) (by omega);obtain ⟨A9,c9,hv9, -⟩:=zfk o9;obtain ⟨m9,hm9⟩:=jN ((T++ [{ nod0 1 with vk:=3,vt:=t.text }]).length);rw[hm9] at hv9;clear hm9;subst hv9;have hB9:=Q1.o.outTo t9 HNP.o;refine zbl _ _ _ _ rfl _ _ _ _ rfl rfl hr9 ?_;refine hK.out _ _ (λ_=>⟨hB9,KG1.o.outTo t9 HNG.o⟩) ?_;have hHeld:(RpS p g s lv (ov) ((i:Int)+1) a t) _:=⟨hB9,KG1.o.outTo t9 HNG.o⟩;clear hK K
  try go_frame
  refine tU 11 (.pointer (some ⟨p,0,none⟩)) (λ_=>hHeld) ?_
  try go_frame
  refine tU 12 (.pointer (some ⟨p,3,none⟩)) (λ_=>hHeld) ?_
  try go_frame
  refine tS 13 rfl λK hK=>?_;have kc:=hB9.cell 3;have kf:=hB9.frozen;go_simp;refine hK.out _ _ (λh=>absurd h (by decide)) ?_;clear hK K
  try go_frame
  refine zax (by kernel_rfl) ?_;refine NoPanic.normal ?_;have HF:=Hd (H5.o.1.putAt HW1.o o9 t9);clear hHeld hB9 o9 t9 hr9;go_wp2;refine bE ?_;exact zbs HR2.o HIL.o HF.o.1 (P5.o.trans HF.o.2)
 by_cases hk3:t.kind=3
 ·have HIL:=jM (i+1<=L.length) (HHL.o (by omega));have HR2:=jM (R=.ok (L.drop (i+1),T++ [{ nod0 1 with vk:=2,vn:=t.num }])) (by rw[HR.o,ja hk1,ja hk2,jb hk3,za1];rfl);have b1:(t.kind==1)=false:=by simp only[jI,ne_eq];omega
  have b2:(t.kind==2)=false:=by simp only[jI,ne_eq];omega
  have b3:(t.kind==3)=true:=by simp only[beq_iff_eq];omega
  go_upto_region 9 with (fail)
  clear x0;obtain ⟨lv,hbx, -⟩:=H5.o.1.bx;obtain ⟨it,ti0,ti1,ti2,ti3⟩:=zeu;have HNP:=jM ((ov).ownBlock≠some p) H5.o.1.ne;have HNG:=jM ((ov).ownBlock≠some g) HGO.o;have Q0:=Hd hbx.drew;have Q1:=Hd (hbx.drew.alloc (.cells (cNod { nod0 1 with vk:=2,vn:=t.num }).toArray 297));have KG0:=jM (Blk W5.drew g 239 t) KG.o.drew;have KG1:=jM (Blk (W5.drew.alloc (.cells (cNod { nod0 1 with vk:=2,vn:=t.num }).toArray 297)) g 239 #[.int .u8 t.kind,.int .i64 t.num,str t.text,.int .i64 t.rect.c1,.int .i64 t.rect.r1,.int .i64 t.rect.c2,.int .i64 t.rect.r2,.int .i64 t.at_]) (KG.o.drew.alloc _);have KN1:=jM (Blk (W5.drew.alloc (.cells (cNod { nod0 1 with vk:=2,vn:=t.num }).toArray 297)) W5.heap.size 297 (cNod { nod0 1 with vk:=2,vn:=t.num }).toArray) (je W5.drew _ _);have HO1:=Hd (H5.o.1.ow.drew.alloc (.cells (cNod { nod0 1 with vk:=2,vn:=t.num }).toArray 297));have HW1:=jM (Below W5 W5 (W5.drew.alloc (.cells (cNod { nod0 1 with vk:=2,vn:=t.num }).toArray 297))) (by go_grown);clear hbx;go_wp2_with fail;refine wp_region_noPanic ?_;refine zaw (RpS p g s lv (ov) ((i:Int)+1) a t) 13 (by kernel_rfl) ?_;have hHeld:(RpS p g s lv (ov) ((i:Int)+1) a t) _:=⟨Q0.o,KG0.o⟩;refine tU 0 (.pointer (some ⟨p,0,none⟩)) (λ_=>hHeld) ?_
  try go_frame
  refine tU 1 (.pointer (some ⟨p,0,none⟩)) (λ_=>hHeld) ?_
  try go_frame
  refine tU 2 (.pointer (some ⟨p,0,none⟩)) (λ_=>hHeld) ?_
  try go_frame
  refine tU 3 (.pointer (some ⟨p,3,none⟩)) (λ_=>hHeld) ?_
  try go_frame
  refine tV 4 ov rfl hHeld (Or.inl ⟨by rfl,by intro W hW;have hc:W.cell? ⟨p,3,none⟩=some (ov):=hW.1.cell 3;go_simp⟩) ?_
  try go_frame
  refine tU 5 (.pointer (some ⟨g,1,none⟩)) (λ_=>hHeld) ?_
  try go_frame
  refine tV 6 (.int .i64 t.num) rfl hHeld (Or.inl ⟨by rfl,by intro W hW;have hc:W.cell? ⟨g,1,none⟩=some (.int .i64 t.num):=hW.2.cell 1;go_simp⟩) ?_
  try go_frame
  refine tU 7 (.agg #[.int .u8 2,t.num,str []]) (λ_=>hHeld) ?_
  try go_frame
  refine tU 8 (.agg (aV 2 t.num)) (λ_=>hHeld) ?_
  try go_frame
  refine tS 9 rfl λK hK=>?_;go_simp;refine hK.out _ _ (λ_=>⟨Q1.o,KG1.o⟩) ?_;have hHeld:(RpS p g s lv (ov) ((i:Int)+1) a t) _:=⟨Q1.o,KG1.o⟩;clear hK K
  try go_frame
  refine tS 10 rfl λK hK=>?_;obtain ⟨r9,w9,hr9,o9,t9⟩:=zdp (P:=prog) _ cNod 190 190 297 it _ 11 96 underlying190 ti0 ti1 ti2 ti3 rfl (by omega) (ov) T HO1.o _ _ [{ nod0 1 with vk:=2,vn:=t.num }] (Sls.one (x:={ nod0 1 with vk:=2,vn:=t.num }) KN1.o rfl) zbx zew (by simp;omega) (by omega);obtain ⟨A9,c9,hv9, -⟩:=zfk o9;obtain ⟨m9,hm9⟩:=jN ((T++ [{ nod0 1 with vk:=2,vn:=t.num }]).length);rw[hm9] at hv9;clear hm9;subst hv9;have hB9:=Q1.o.outTo t9 HNP.o;refine zbl _ _ _ _ rfl _ _ _ _ rfl rfl hr9 ?_;refine hK.out _ _ (λ_=>⟨hB9,KG1.o.outTo t9 HNG.o⟩) ?_;have hHeld:(RpS p g s lv (ov) ((i:Int)+1) a t) _:=⟨hB9,KG1.o.outTo t9 HNG.o⟩;clear hK K
  try go_frame
  refine tU 11 (.pointer (some ⟨p,0,none⟩)) (λ_=>hHeld) ?_
  try go_frame
  refine tU 12 (.pointer (some ⟨p,3,none⟩)) (λ_=>hHeld) ?_
  try go_frame
  refine tS 13 rfl λK hK=>?_;have kc:=hB9.cell 3;have kf:=hB9.frozen;go_simp;refine hK.out _ _ (λh=>absurd h (by decide)) ?_;clear hK K
  try go_frame
  refine zax (by kernel_rfl) ?_;refine NoPanic.normal ?_;have HF:=Hd (H5.o.1.putAt HW1.o o9 t9);clear hHeld hB9 o9 t9 hr9;go_wp2;refine bE ?_;exact zbs HR2.o HIL.o HF.o.1 (P5.o.trans HF.o.2)
 by_cases hk4:t.kind=4
 ·have HIL:=jM (i+1<=L.length) (HHL.o (by omega));have HR2:=jM (R=.ok (L.drop (i+1),T++ [{ nod0 1 with vk:=4,vn:=t.num }])) (by rw[HR.o,ja hk1,ja hk2,ja hk3,jb hk4,za1];rfl);have b1:(t.kind==1)=false:=by simp only[jI,ne_eq];omega
  have b2:(t.kind==2)=false:=by simp only[jI,ne_eq];omega
  have b3:(t.kind==3)=false:=by simp only[jI,ne_eq];omega
  have b4:(t.kind==4)=true:=by simp only[beq_iff_eq];omega
  go_upto_region 11 with (fail)
  clear x0;obtain ⟨lv,hbx, -⟩:=H5.o.1.bx;obtain ⟨it,ti0,ti1,ti2,ti3⟩:=zeu;have HNP:=jM ((ov).ownBlock≠some p) H5.o.1.ne;have HNG:=jM ((ov).ownBlock≠some g) HGO.o;have Q0:=Hd hbx.drew;have Q1:=Hd (hbx.drew.alloc (.cells (cNod { nod0 1 with vk:=4,vn:=t.num }).toArray 297));have KG0:=jM (Blk W5.drew g 239 t) KG.o.drew;have KG1:=jM (Blk (W5.drew.alloc (.cells (cNod { nod0 1 with vk:=4,vn:=t.num }).toArray 297)) g 239 #[.int .u8 t.kind,.int .i64 t.num,str t.text,.int .i64 t.rect.c1,.int .i64 t.rect.r1,.int .i64 t.rect.c2,.int .i64 t.rect.r2,.int .i64 t.at_]) (KG.o.drew.alloc _);have KN1:=jM (Blk (W5.drew.alloc (.cells (cNod { nod0 1 with vk:=4,vn:=t.num }).toArray 297)) W5.heap.size 297 (cNod { nod0 1 with vk:=4,vn:=t.num }).toArray) (je W5.drew _ _);have HO1:=Hd (H5.o.1.ow.drew.alloc (.cells (cNod { nod0 1 with vk:=4,vn:=t.num }).toArray 297));have HW1:=jM (Below W5 W5 (W5.drew.alloc (.cells (cNod { nod0 1 with vk:=4,vn:=t.num }).toArray 297))) (by go_grown);clear hbx;go_wp2_with fail;refine wp_region_noPanic ?_;refine zaw (RpS p g s lv (ov) ((i:Int)+1) a t) 13 (by kernel_rfl) ?_;have hHeld:(RpS p g s lv (ov) ((i:Int)+1) a t) _:=⟨Q0.o,KG0.o⟩;refine tU 0 (.pointer (some ⟨p,0,none⟩)) (λ_=>hHeld) ?_
  try go_frame
  refine tU 1 (.pointer (some ⟨p,0,none⟩)) (λ_=>hHeld) ?_
  try go_frame
  refine tU 2 (.pointer (some ⟨p,0,none⟩)) (λ_=>hHeld) ?_
  try go_frame
  refine tU 3 (.pointer (some ⟨p,3,none⟩)) (λ_=>hHeld) ?_
  try go_frame
  refine tV 4 ov rfl hHeld (Or.inl ⟨by rfl,by intro W hW;have hc:W.cell? ⟨p,3,none⟩=some (ov):=hW.1.cell 3;go_simp⟩) ?_
  try go_frame
  refine tU 5 (.pointer (some ⟨g,1,none⟩)) (λ_=>hHeld) ?_
  try go_frame
  refine tV 6 (.int .i64 t.num) rfl hHeld (Or.inl ⟨by rfl,by intro W hW;have hc:W.cell? ⟨g,1,none⟩=some (.int .i64 t.num):=hW.2.cell 1;go_simp⟩) ?_
  try go_frame
  refine tU 7 (.agg #[.int .u8 4,t.num,str []]) (λ_=>hHeld) ?_
  try go_frame
  refine tU 8 (.agg (aV 4 t.num)) (λ_=>hHeld) ?_
  try go_frame
  refine tS 9 rfl λK hK=>?_;go_simp;refine hK.out _ _ (λ_=>⟨Q1.o,KG1.o⟩) ?_;have hHeld:(RpS p g s lv (ov) ((i:Int)+1) a t) _:=⟨Q1.o,KG1.o⟩;clear hK K
  try go_frame
  refine tS 10 rfl λK hK=>?_;obtain ⟨r9,w9,hr9,o9,t9⟩:=zdp (P:=prog) _ cNod 190 190 297 it _ 11 96 underlying190 ti0 ti1 ti2 ti3 rfl (by omega) (ov) T HO1.o _ _ [{ nod0 1 with vk:=4,vn:=t.num }] (Sls.one (x:={ nod0 1 with vk:=4,vn:=t.num }) KN1.o rfl) zbx zew (by simp;omega) (by omega);obtain ⟨A9,c9,hv9, -⟩:=zfk o9;obtain ⟨m9,hm9⟩:=jN ((T++ [{ nod0 1 with vk:=4,vn:=t.num }]).length);rw[hm9] at hv9;clear hm9;subst hv9;have hB9:=Q1.o.outTo t9 HNP.o;refine zbl _ _ _ _ rfl _ _ _ _ rfl rfl hr9 ?_;refine hK.out _ _ (λ_=>⟨hB9,KG1.o.outTo t9 HNG.o⟩) ?_;have hHeld:(RpS p g s lv (ov) ((i:Int)+1) a t) _:=⟨hB9,KG1.o.outTo t9 HNG.o⟩;clear hK K
  try go_frame
  refine tU 11 (.pointer (some ⟨p,0,none⟩)) (λ_=>hHeld) ?_
  try go_frame
  refine tU 12 (.pointer (some ⟨p,3,none⟩)) (λ_=>hHeld) ?_
  try go_frame
  refine tS 13 rfl λK hK=>?_;have kc:=hB9.cell 3;have kf:=hB9.frozen;go_simp;refine hK.out _ _ (λh=>absurd h (by decide)) ?_;clear hK K
  try go_frame
  refine zax (by kernel_rfl) ?_;refine NoPanic.normal ?_;have HF:=Hd (H5.o.1.putAt HW1.o o9 t9);clear hHeld hB9 o9 t9 hr9;go_wp2;refine bE ?_;exact zbs HR2.o HIL.o HF.o.1 (P5.o.trans HF.o.2)
 by_cases hk5:t.kind=5
 ·have HIL:=jM (i+1<=L.length) (HHL.o (by omega));have HR2:=jM (R=.ok (L.drop (i+1),T++ [{ nod0 2 with rect:=t.rect }])) (by rw[HR.o,ja hk1,ja hk2,ja hk3,ja hk4,jb hk5,za1];rfl);have b1:(t.kind==1)=false:=by simp only[jI,ne_eq];omega
  have b2:(t.kind==2)=false:=by simp only[jI,ne_eq];omega
  have b3:(t.kind==3)=false:=by simp only[jI,ne_eq];omega
  have b4:(t.kind==4)=false:=by simp only[jI,ne_eq];omega
  have b5:(t.kind==5)=true:=by simp only[beq_iff_eq];omega
  go_upto_region 13 with (fail)
  clear x0;obtain ⟨lv,hbx, -⟩:=H5.o.1.bx;obtain ⟨it,ti0,ti1,ti2,ti3⟩:=zeu;have HNP:=jM ((ov).ownBlock≠some p) H5.o.1.ne;have HNG:=jM ((ov).ownBlock≠some g) HGO.o;have Q0:=Hd hbx.drew;have Q1:=Hd (hbx.drew.alloc (.cells (cNod { nod0 2 with rect:=t.rect }).toArray 297));have KG0:=jM (Blk W5.drew g 239 t) KG.o.drew;have KG1:=jM (Blk (W5.drew.alloc (.cells (cNod { nod0 2 with rect:=t.rect }).toArray 297)) g 239 #[.int .u8 t.kind,.int .i64 t.num,str t.text,.int .i64 t.rect.c1,.int .i64 t.rect.r1,.int .i64 t.rect.c2,.int .i64 t.rect.r2,.int .i64 t.at_]) (KG.o.drew.alloc _);have KN1:=jM (Blk (W5.drew.alloc (.cells (cNod { nod0 2 with rect:=t.rect }).toArray 297)) W5.heap.size 297 (cNod { nod0 2 with rect:=t.rect }).toArray) (je W5.drew _ _);have HO1:=Hd (H5.o.1.ow.drew.alloc (.cells (cNod { nod0 2 with rect:=t.rect }).toArray 297));have HW1:=jM (Below W5 W5 (W5.drew.alloc (.cells (cNod { nod0 2 with rect:=t.rect }).toArray 297))) (by go_grown);clear hbx;go_wp2_with fail;refine wp_region_noPanic ?_;refine zaw (RpS p g s lv (ov) ((i:Int)+1) a t) 12 (by kernel_rfl) ?_;have hHeld:(RpS p g s lv (ov) ((i:Int)+1) a t) _:=⟨Q0.o,KG0.o⟩;refine tU 0 (.pointer (some ⟨p,0,none⟩)) (λ_=>hHeld) ?_
  try go_frame
  refine tU 1 (.pointer (some ⟨p,0,none⟩)) (λ_=>hHeld) ?_
  try go_frame
  refine tU 2 (.pointer (some ⟨p,0,none⟩)) (λ_=>hHeld) ?_
  try go_frame
  refine tU 3 (.pointer (some ⟨p,3,none⟩)) (λ_=>hHeld) ?_
  try go_frame
  refine tV 4 ov rfl hHeld (Or.inl ⟨by rfl,by intro W hW;have hc:W.cell? ⟨p,3,none⟩=some (ov):=hW.1.cell 3;go_simp⟩) ?_
  try go_frame
  refine tU 5 (.pointer (some ⟨g,3,none⟩)) (λ_=>hHeld) ?_
  try go_frame
  refine tV 6 (.agg _) rfl hHeld (yieldsIf_load_mid rfl _ _ rfl (g) (3) rfl _ _ (λW' h=>h.2.range (l:=cRct t.rect) (o:=3) (by intro j v hj;rcases j with _ | _ | _ | _ | j <;> first | exact hj | (simp[cRct] at hj))) rfl rfl (by kernel_rfl)) ?_
  try go_frame
  refine tU 7 (.agg (aR 2 t.rect)) (λ_=>hHeld) ?_
  try go_frame
  refine tS 8 rfl λK hK=>?_;go_simp;refine hK.out _ _ (λ_=>⟨Q1.o,KG1.o⟩) ?_;have hHeld:(RpS p g s lv (ov) ((i:Int)+1) a t) _:=⟨Q1.o,KG1.o⟩;clear hK K
  try go_frame
  refine tS 9 rfl λK hK=>?_;obtain ⟨r9,w9,hr9,o9,t9⟩:=zdp (P:=prog) _ cNod 190 190 297 it _ 11 96 underlying190 ti0 ti1 ti2 ti3 rfl (by omega) (ov) T HO1.o _ _ [{ nod0 2 with rect:=t.rect }] (Sls.one (x:={ nod0 2 with rect:=t.rect }) KN1.o rfl) zbx zew (by simp;omega) (by omega);obtain ⟨A9,c9,hv9, -⟩:=zfk o9;obtain ⟨m9,hm9⟩:=jN ((T++ [{ nod0 2 with rect:=t.rect }]).length);rw[hm9] at hv9;clear hm9;subst hv9;have hB9:=Q1.o.outTo t9 HNP.o;refine zbl _ _ _ _ rfl _ _ _ _ rfl rfl hr9 ?_;refine hK.out _ _ (λ_=>⟨hB9,KG1.o.outTo t9 HNG.o⟩) ?_;have hHeld:(RpS p g s lv (ov) ((i:Int)+1) a t) _:=⟨hB9,KG1.o.outTo t9 HNG.o⟩;clear hK K
  try go_frame
  refine tU 10 (.pointer (some ⟨p,0,none⟩)) (λ_=>hHeld) ?_
  try go_frame
  refine tU 11 (.pointer (some ⟨p,3,none⟩)) (λ_=>hHeld) ?_
  try go_frame
  refine tS 12 rfl λK hK=>?_;have kc:=hB9.cell 3;have kf:=hB9.frozen;go_simp;refine hK.out _ _ (λh=>absurd h (by decide)) ?_;clear hK K
  try go_frame
  refine zax (by kernel_rfl) ?_;refine NoPanic.normal ?_;have HF:=Hd (H5.o.1.putAt HW1.o o9 t9);clear hHeld hB9 o9 t9 hr9;go_wp2;refine bE ?_;exact zbs HR2.o HIL.o HF.o.1 (P5.o.trans HF.o.2)
 by_cases hk9:t.kind=9
 ·have hil:i<L.length:=HHL.o (by omega);have HR2:=jM (R=thenS (parS s.length f (.level 1) (L.drop (i+1),T)) (ze4 s.length 10)) (by rw[HR.o,ja hk1,ja hk2,ja hk3,ja hk4,ja hk5,jb hk9,za1]);have b1:(t.kind==1)=false:=by simp only[jI,ne_eq];omega
  have b2:(t.kind==2)=false:=by simp only[jI,ne_eq];omega
  have b3:(t.kind==3)=false:=by simp only[jI,ne_eq];omega
  have b4:(t.kind==4)=false:=by simp only[jI,ne_eq];omega
  have b5:(t.kind==5)=false:=by simp only[jI,ne_eq];omega
  have b9:(t.kind==9)=true:=by simp only[beq_iff_eq];omega
  clear HR HHL HHE;go_wp2_with fail;refine (HLV.o p ov (i+1) T a _ H5.o.1 (by omega) (by omega) (by simp only[zbg];omega) (by omega)).mono ?_;intro u w6 hw;rcases zbd hw with ⟨i6,T6,ov6,hr,hi6,rfl,ha,ht⟩ | ⟨x,er,i6,T6,ov6,hr,he,hi6,hm,rfl,ha,ht⟩
  ·have HR3:=jM (R=ze4 s.length 10 (L.drop i6,T6)) (by rw[HR2.o,hr];rfl);have H6:=Hd ha;have P6:=Hd (P5.o.trans ht);have HL6:=Hd (zmb hr (by omega) hi6);clear ha ht hr hw x0;by_cases hw:(zak s.length (L.drop i6,T6)).kind=10
   ·have HR4:=jM (R=.ok (L.drop (i6+1),T6)) (by rw[HR3.o];unfold ze4;rw[ja (λh=>h hw),za1]);go_wp2_with fail;refine (zgc _ H6.o (by omega) (by decide) hw).mono ?_;rintro u w7 ⟨rfl,hi7,ha,ht⟩;have H7:=Hd ha;have P7:=Hd (P6.o.trans ht);clear ha ht hw;go_wp2;refine bE ?_;exact zbs HR4.o hi7 H7.o P7.o
   have HR4:=jM (R=.error ((zak s.length (L.drop i6,T6)).at_,4)) (by rw[HR3.o];unfold ze4;rw[jb hw]);go_wp2_with fail;refine (zks _ H6.o (by omega) hw).mono ?_;rintro u w7 ⟨rfl,ha,ht⟩;have H7:=Hd ha;have P7:=Hd (P6.o.trans ht);clear ha ht hw;go_wp2;refine bE ?_;exact za8 HR4.o (by decide) (by omega) (by have:=HL6.o;omega) H7.o P7.o
  have HR3:=jM (R=.error (x,er)) (by rw[HR2.o,hr];rfl);have H6:=Hd ha;have P6:=Hd (P5.o.trans ht);clear ha ht hr hw x0;go_wp2_with fail;refine (zng _ H6.o he (by decide) (by omega) hi6).mono ?_;rintro u w7 ⟨rfl,⟨i7,hi7,ha⟩,ht⟩;have H7:=Hd ha;have P7:=Hd (P6.o.trans ht);clear ha ht;go_wp2;refine bE ?_;exact za8 HR3.o he hi7 (by omega) H7.o P7.o
 by_cases hk7:t.kind=7
 ·have hil:i<L.length:=HHL.o (by omega);have HR2:=jM (R=parS s.length f (.call t) (L.drop i,T)) (by rw[HR.o,ja hk1,ja hk2,ja hk3,ja hk4,ja hk5,ja hk9,jb hk7]);have HC:=Hd (HCL.o t p ov i T a W5 H5.o.1 hil (HHE.o (by omega)) hk7 hn (by omega) (by omega));rw[<- HR2.o] at HC;have HX:=Hd (λu W' (h:zmy p s L W5 ov a (T.length+(L.length-i)+f) R u W')=>(show u=.returned (.tuple #[])/\zmy p s L W ov a (T.length+(L.length-i)+(f+1)) R u W' from ⟨h.1,by
   rcases zbd h with ⟨i6,T6,ov6,hr,hi6,rfl,ha,ht⟩ | ⟨x,er,i6,T6,ov6,hr,he,hi6,hm,rfl,ha,ht⟩
   ·exact zbs hr hi6 ha (P5.o.trans ht)
   exact za8 hr he hi6 (by omega) ha (P5.o.trans ht)⟩))
  have b1:(t.kind==1)=false:=by simp only[jI,ne_eq];omega
  have b2:(t.kind==2)=false:=by simp only[jI,ne_eq];omega
  have b3:(t.kind==3)=false:=by simp only[jI,ne_eq];omega
  have b4:(t.kind==4)=false:=by simp only[jI,ne_eq];omega
  have b5:(t.kind==5)=false:=by simp only[jI,ne_eq];omega
  have b9:(t.kind==9)=false:=by simp only[jI,ne_eq];omega
  have b7:(t.kind==7)=true:=by simp only[beq_iff_eq];omega
  clear HR HHL HHE hk7;rw[show (cTok t).toArray=#[.int .u8 t.kind,.int .i64 t.num,str t.text,.int .i64 t.rect.c1,.int .i64 t.rect.r1,.int .i64 t.rect.c2,.int .i64 t.rect.r2,.int .i64 t.at_] from rfl] at HC;obtain ⟨x1,x2,x3,x4⟩:=KG.o.c4 1 2 3 4;obtain ⟨x5,x6,x7⟩:=KG.o.c3 5 6 7;go_wp2_with fail;refine HC.o.mono ?_;intro u w6 hw;have HW:=Hd (HX.o u w6 hw);obtain rfl:=HW.o.1;clear hw x0 x1 x2 x3 x4 x5 x6 x7;go_wp2;refine bE ?_;exact HW.o.2
 have HR2:=jM (R=.error (t.at_,4)) (by rw[HR.o,ja hk1,ja hk2,ja hk3,ja hk4,ja hk5,ja hk9,ja hk7]);have x7:=KG.o.cell 7;have b1:(t.kind==1)=false:=by simp only[jI,ne_eq];omega
 have b2:(t.kind==2)=false:=by simp only[jI,ne_eq];omega
 have b3:(t.kind==3)=false:=by simp only[jI,ne_eq];omega
 have b4:(t.kind==4)=false:=by simp only[jI,ne_eq];omega
 have b5:(t.kind==5)=false:=by simp only[jI,ne_eq];omega
 have b9:(t.kind==9)=false:=by simp only[jI,ne_eq];omega
 have b7:(t.kind==7)=false:=by simp only[jI,ne_eq];omega
 clear HR HHL HHE;go_wp2_with fail;refine (zbv p s L ov (i+1) T a t.at_ 4 _ H5.o.1).mono ?_;rintro u w6 ⟨rfl,ha,ht⟩;have H6:=Hd ha;have P6:=Hd (P5.o.trans ht);clear ha ht x0 x7;go_wp2;refine bE ?_;exact za8 HR2.o (by decide) (by omega) (by omega) H6.o P6.o
theorem z15 (s:zaa) (i:Nat):(zc4 s i).2<=2*s.length+1:=by
 unfold zc4;split
 ·exact zgw s i 0
 split
 ·exact zgw s i 1
 split
 ·exact zgw s i 2
 split
 ·exact zgw s i 3
 exact zgw s i 4
theorem zsc (s:zaa) (i:Nat) (h:i<s.length) (hc:ub s i≠32) (h0:(zc4 s i).2=0):zd2 s i=none:=by
 unfold zd2
 conv=>lhs;unfold ze0
 rw[jS,ja hc,jb h0]
theorem zuc (s:zaa) (i:Nat) (h:i<s.length) (hc:ub s i≠32) (h1:0<(zc4 s i).2):
 zd2 s i=(zd2 s (i+(zc4 s i).2)).map ((zc4 s i).1::·):=by
 unfold zd2
 conv=>lhs;unfold ze0
 rw[jS,ja hc,jS];rw[zfx s s.length (s.length+1) (i+(zc4 s i).2) (by omega) (by omega) (by omega) (by omega)]
def TokensR (s:zaa) (w:World) (u:Ending) (w':World):Prop:=∃v,∃p:Int,u=.returned (.tuple #[v,.int .i64 p,.int .i64 (zaf s).2])/\Sls cTok w' w'.heap.size v (zaf s).1/\Below w w w'/\∀q,v.ownBlock=some q->w.heap.size<=q
theorem TokensR.of {s:zaa} {l:List Tok} (h:zaf s=(l,e)) (v:Value) (p:Int) (hu:u=.returned (.tuple #[v,.int .i64 p,.int .i64 e])) (hs:Sls cTok w' w'.heap.size v l) (hb:Below w w w') (hq:∀q,v.ownBlock=some q->w.heap.size<=q):TokensR s w u w':=
 ⟨v,p,by rw[h];exact hu,by rw[h];exact hs,hb,hq⟩
theorem zsn (s:zaa) (w:World) (hs:s.length<=1000000):
 Calls prog 260 #[str s] w λu w'=>TokensR s w u w':=by
 obtain ⟨it,ti0,ti1,ti2,ti3⟩:=zrd;by_cases h256:256<s.length
 ·have h256':(256:Int)<s.length:=by omega
  have HE:=jM (zaf s=([],5)) (by unfold zaf;rw[jb h256]);go_enter func260,ntmps260;go_wp2;refine jO results260 (v:=.tuple #[.slice none 0 0,.int .i64 0,.int .i64 5]) ?_;exact TokensR.of HE.o _ _ rfl (Sls.nil _ _ _ _ _) (by go_grown) (λq hq=>by simp[Value.ownBlock] at hq)
 have h256':¬(256:Int)<s.length:=by omega
 have h256n:s.length<=256:=by omega
 go_enter func260,ntmps260;go_wp2_with fail;go_loopw [5] (λv wr=>∃k:Nat,k<=s.length/\v=.int .i64 k/\(∀j,j<k->32<=ub s j/\ub s j<=126)/\w=wr) (λv _=>s.length-(intOf v).toNat)
 case atStart=>exact ⟨0,by omega,rfl,λj hj=>by omega,rfl⟩
 obtain ⟨k,hk,rfl,hall,rfl⟩:=hrel;have HA:=Hd hall;clear hall;have k0:(0:Int)<=(k:Int):=by omega
 by_cases hkn:k<s.length
 ·have hk1:(k:Int)<(s.length:Int):=by omega
  have hx:=za3 s k (by rw[zae];exact hkn);have HU:=jM (ub s k=(s.getD k 0).toNat) rfl;generalize s.getD k 0=c at hx HU;by_cases hc:32<=c.toNat/\c.toNat<=126
  ·have c1:¬(c.toNat:Int)<32:=by omega
   have c2:¬126<(c.toNat:Int):=by omega
   have HA2:=jM (∀j,j<k+1->32<=ub s j/\ub s j<=126) (λj hj=>by
    rcases Nat.lt_or_ge j k with h | h
    ·exact HA.o j h
    obtain rfl:j=k:=by omega
    rw[HU.o];exact hc)
   clear hc;go_wp2;exact ⟨⟨k+1,by omega,by go_num,HA2.o,trivial⟩,by simp[intOf];omega⟩
  have HE:=Hd (zkn s h256n (zqw s k hkn (by rw[HU.o];exact hc)));by_cases c1:c.toNat<32
  ·have c1':(c.toNat:Int)<32:=by omega
   clear hc;go_wp2;refine jO results260 (v:=.tuple #[.slice none 0 0,.int .i64 k,.int .i64 4]) ?_;exact TokensR.of HE.o _ _ rfl (Sls.nil _ _ _ _ _) (by go_grown) (λq hq=>by simp[Value.ownBlock] at hq)
  have c1':¬(c.toNat:Int)<32:=by omega
  have c2':126<(c.toNat:Int):=by omega
  clear hc;go_wp2;refine jO results260 (v:=.tuple #[.slice none 0 0,.int .i64 k,.int .i64 4]) ?_;exact TokensR.of HE.o _ _ rfl (Sls.nil _ _ _ _ _) (by go_grown) (λq hq=>by simp[Value.ownBlock] at hq)
 have hk1:¬(k:Int)<(s.length:Int):=by omega
 have HP:=Hd (zl5 s (λj hj=>HA.o j (by omega)));clear HA;go_wp2_with fail;go_loopw [6,7] (λv iv w3=>∃(i:Nat) (l:List Tok),i<=2000/\iv=.int .i64 i/\l.length<=i/\Own cTok 239 8 w3 v l/\OutTo w (.slice none 0 0) w3 v/\zd2 s 0=(zd2 s i).map (l++·)) (λ_ iv _=>2000-(intOf iv).toNat)
 case atStart=>exact ⟨0,[],by omega,rfl,by simp,Own.nil _ _ _ _,OutTo.refl _ _,by cases zd2 s 0 <;> simp⟩
 rename World=>wr
 obtain ⟨i,l,hi2,rfl,hll,hown,hot,htk⟩:=hrel;have HO:=Hd hown;have HT:=Hd hot;have HK:=Hd htk;have HBW:=Hd (hot.old (B:=w.heap.size) jy (λk hk=>by simp[Value.ownBlock] at hk));clear hown hot htk;have i0:(0:Int)<=(i:Int):=by omega
 have i2:(i:Int)<=2000:=by omega
 by_cases hin:i<s.length;rotate_left
 ·have hi1:¬(i:Int)<(s.length:Int):=by omega
  have HE:=Hd (zi8 s h256n HP.o (l:=l) (by rw[HK.o,zqb s i (by omega)];simp));have HS:=Hd (HO.o.sls (by unfold maxLen;omega));go_wp2;refine jO results260 (v:=.tuple #[u6,.int .i64 0,.int .i64 0]) ?_;exact TokensR.of HE.o _ _ rfl HS.o HBW.o (λq hq=>by
   rcases HT.o.own q hq with e | e
   ·simp[Value.ownBlock] at e
   exact e)
 have hi1:(i:Int)<(s.length:Int):=by omega
 have hx:=za3 s i (by rw[zae];exact hin);have HU:=jM (ub s i=(s.getD i 0).toNat) rfl;have HC:=Hd (λw=>zvc s i w (by omega) hin);generalize s.getD i 0=c at hx HU;by_cases h32:c.toNat=32
 ·have HE:=Hd (zkl s i hin (HU.o.trans h32));have b32:((c.toNat:Int)==32)=true:=by rw[h32];rfl
  clear h32;go_wp2;exact ⟨⟨i+1,l,by omega,by go_num,by omega,HO.o,HT.o,by rw[HK.o,HE.o]⟩,by simp[intOf];omega⟩
 have HE:=jM (ub s i≠32) (by rw[HU.o];exact h32);have b32:((c.toNat:Int)==32)=false:=by simp;omega
 clear h32;have HRU:=Hd (zym s i h256n HP.o hin);have hle:=z15 s i;have HTM:=Hd (λh=>zuc s i hin HE.o h);have HTN:=Hd (λh=>zsc s i hin HE.o h);rw[<- HRU.o] at HC;generalize zc4 s i=r at HC hle HTM HTN HRU;clear HRU;obtain ⟨tr,n⟩:=r;simp only at HC hle HTM HTN;go_wp2_with fail;refine (HC.o _).mono ?_;rintro u w5 ⟨⟨⟨kd,nm,tx,⟨ca,cb,cc,cd⟩,ta⟩,n',ok,rfl,hok,ht⟩,hb5⟩;simp only at hok ht;have HB5:=Hd hb5;clear hb5 HC;by_cases hn:0<n;rotate_left
 ·rw[jA hn] at hok;subst hok;have HE2:=Hd (zi9 s h256n HP.o (by rw[HK.o,HTN.o (by omega)];rfl));clear ht HTM HTN;dsimp only[cTok,List.toArray];go_wp2;refine jO results260 (v:=.tuple #[.slice none 0 0,.int .i64 i,.int .i64 4]) ?_;exact TokensR.of HE2.o _ _ rfl (Sls.nil _ _ _ _ _) ((jd HBW.o HB5.o HBW.o.size).alloc (by have:=HBW.o.size;have:=HB5.o.size;omega) _) (λq hq=>by simp[Value.ownBlock] at hq)
 obtain ⟨rfl,rfl⟩:=ht hn;rw[jB hn] at hok;subst hok;have HTK:=Hd (HTM.o hn);clear HTM HTN ht;have hn5:(n:Int)<=513:=by omega
 obtain ⟨tk,htk⟩:∃tk:Tok,tk=⟨kd,nm,tx,⟨ca,cb,cc,cd⟩,ta⟩:=⟨_,rfl⟩;rw[<- htk] at HTK;have HKC:=jM ((cTok tk).toArray=#[.int .u8 kd,.int .i64 nm,str tx,.int .i64 ca,.int .i64 cb,.int .i64 cc,.int .i64 cd,.int .i64 ta]) (by rw[htk];rfl);clear htk;have HT5:=jM (OutTo w (.slice none 0 0) (w5.alloc (.cells (cTok tk).toArray 239)) u6) ((HT.o.below HB5.o).alloc _);have KN:=Hd (show Blk ((w5.alloc (.cells (cTok tk).toArray 239)).alloc (.cells (cTok tk).toArray 239)) (w5.heap.size+1) 239 (cTok tk).toArray by
  have:=je (w5.alloc (.cells (cTok tk).toArray 239)) 239 (cTok tk).toArray;simpa using this)
 have HO5:=Hd (((HO.o.below HB5.o).alloc (.cells (cTok tk).toArray 239)).alloc (.cells (cTok tk).toArray 239));have HT6:=Hd (HT5.o.alloc (.cells (cTok tk).toArray 239));have HS1:=Hd (Sls.one (x:=tk) KN.o rfl);rw[HKC.o] at HO5 HT6 HS1;clear KN HT5;dsimp only[cTok,List.toArray];go_wp2_with (at_builtin;refine ju ?_);refine Hd ?_;refine zal cTok rfl _ _ 230 rfl 239 it _ 8 72 underlying230 ti0 ti1 ti2 ti3 rfl (by omega) u6 l rfl HO5.o _ _ [tk] rfl HS1.o zd7 zgn (by simp;omega) (by omega) ?_;intro v9 w9 o9 t9;have O9:=Hd o9;have T9:=Hd (HT6.o.trans t9);clear o9 t9;go_wp2;exact ⟨⟨i+n,l++ [tk],by omega,by go_num,by simp;omega,O9.o,T9.o,by rw[HK.o,HTK.o];exact zgg _ _ _⟩,by simp[intOf];omega⟩
end Go.Proofs.YtamcgggmfghljaaGreatDoor
