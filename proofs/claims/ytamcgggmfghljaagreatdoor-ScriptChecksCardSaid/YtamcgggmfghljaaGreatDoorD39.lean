/- Layer 9 (reference): the parser's primary (printed by tools/gen_rpf.py). -/
import Derived.Test.YtamcgggmfghljaaGreatDoorD25
import Derived.Test.YtamcgggmfghljaaGreatDoorD38
set_option maxRecDepth 100000
set_option maxHeartbeats 8000000
open Go.Proofs.Tryz
namespace Go.Proofs.YtamcgggmfghljaaGreatDoor
open Go.RowKit
abbrev RpS (p g:Nat) (s:zaa) (lv ov:Value) (i a:Int) (t:Tok):World→Prop:=fun W'=>Blk W' p 272 #[str s,lv,.int .i64 i,ov,.int .i64 a,.int .i64 0]∧Blk W' g 239 #[.int .u8 t.kind,.int .i64 t.num,str t.text,.int .i64 t.rect.c1,.int .i64 t.rect.r1,.int .i64 t.rect.c2,.int .i64 t.rect.r2,.int .i64 t.at_]
def zzl (s:zaa) (L:List Tok) (f:Nat):Prop:=∀(name:Tok) (p:Nat) (ov:Value) (i:Nat) (T:List Nod) (a:Int) (W:World),PR W p s L ov (i+1) T a 0→i<L.length→L[i]?=some name→name.kind=7→L.length-i+T.length≤2000→10*(L.length-i)+1≤f→f≤5000→
 Calls prog 349 #[.pointer (some ⟨p,0,none⟩),.agg (cTok name).toArray] W (zki p s L W ov a (T.length+(L.length-i)+f) (parS s.length f (.call name) (L.drop i,T)))
theorem zx3 (s:zaa) (L:List Tok) (hL:L.length≤1000) (f:Nat) (hl:RunR 261 (lev1 1) s L f (.level 1)) (hc:zzl s L f):RunR 334 one1 s L (f+1) .prim:=by
 intro p ov i T a W h hi hn hf hf5
 have HLV:Hid (RunR 261 (fun p=>#[.pointer (some ⟨p,0,none⟩),.int .i64 1]) s L f (.level 1)):=Hd hl
 have HCL:=Hd hc
 have HH:=Hd h
 simp only [zbd] at hf
 obtain ⟨t,ht0⟩:∃t,zak s.length (L.drop i,T)=t:=⟨_,rfl⟩
 have HR:Hid (parS s.length (f+1) .prim (L.drop i,T)=if t.kind=1 then .ok (putS { nod0 1 with vk:=1,vn:=t.num } (zan (L.drop i,T)))
  else if t.kind=2 then .ok (putS { nod0 1 with vk:=3,vt:=t.text } (zan (L.drop i,T)))
  else if t.kind=3 then .ok (putS { nod0 1 with vk:=2,vn:=t.num } (zan (L.drop i,T)))
  else if t.kind=4 then .ok (putS { nod0 1 with vk:=4,vn:=t.num } (zan (L.drop i,T)))
  else if t.kind=5 then .ok (putS { nod0 2 with rect:=t.rect } (zan (L.drop i,T)))
  else if t.kind=9 then thenS (parS s.length f (.level 1) (zan (L.drop i,T))) (zd6 s.length 10)
  else if t.kind=7 then parS s.length f (.call t) (L.drop i,T)
  else .error (t.at_,4)):=Hd (by rw [← ht0];rfl)
 generalize parS s.length (f+1) .prim (L.drop i,T)=R at HR ⊢
 have HHL:Hid (t.kind≠0→i<L.length):=Hd (ht0▸zfk)
 have HHE:Hid (t.kind≠0→L[i]?=some t):=Hd (fun hk=>by
  have h1:i<L.length:=(ht0▸zfk:t.kind≠0→i<L.length) hk
  rw [List.getElem?_eq_getElem h1,← ht0,zhu _ L i T h1])
 have hi0:(0:Int)≤(i:Int):=Int.natCast_nonneg _
 have hi9:(i:Int)≤1000:=by omega
 have HG0:=Hd (show ∀q,W.heap.size≤q→ov.ownBlock≠some q from fun q hq e=>by have:=h.ow.lt _ e;omega)
 have HPL:=Hd h.lt
 clear hl hc h
 unfold one1
 go_enter func334,ntmps334
 go_wp2_with fail
 refine (zcl p s L ov i T a 0 _ HH.out (by omega)).mono ?_
 rintro u w1 ⟨rfl,hb1⟩
 rw [ht0]
 clear ht0
 have KT1:=Hd (Blk.new w1 239 (cTok t).toArray)
 have HB1:=Hd (show Below W.heap.size W (w1.alloc (.cells (cTok t).toArray 239)) from hb1.alloc hb1.size _)
 have HS1:=Hd hb1.size
 clear hb1
 obtain ⟨V1,hV1⟩:∃V,w1.alloc (.cells (cTok t).toArray 239)=V:=⟨_,rfl⟩
 rw [hV1] at KT1 HB1
 have HH1:=Hd (HH.out.below HB1.out)
 have P1:=Hd (PTo.below (PTo.refl p W ov) HB1.out)
 rw [show (cTok t).toArray=#[.int .u8 t.kind,.int .i64 t.num,str t.text,.int .i64 t.rect.c1,.int .i64 t.rect.r1,.int .i64 t.rect.c2,.int .i64 t.rect.r2,.int .i64 t.at_] from rfl] at hV1 ⊢
 obtain ⟨g,hg⟩:∃g,g=w1.heap.size:=⟨_,rfl⟩
 rw [← hg] at KT1 HS1
 have HGO:=Hd (HG0.out g HS1.out)
 have HGP:=Hd (show g≠p by have:=HPL.out;have:=HS1.out;omega)
 go_upto_region 1 with (fail)
 rw [← hg]
 clear hV1 hg
 have H5:=Hd HH1.out.step
 have P5:=Hd (P1.out.trans H5.out.2)
 have KG:=Hd (show Blk (V1.setCell ⟨p,2,none⟩ (.int .i64 ((i:Int)+1))) g 239 #[.int .u8 t.kind,.int .i64 t.num,str t.text,.int .i64 t.rect.c1,.int .i64 t.rect.r1,.int .i64 t.rect.c2,.int .i64 t.rect.r2,.int .i64 t.at_] from Blk.far (p:=⟨p,2,none⟩) KT1.out HGP.out _)
 obtain ⟨_,_, -, -,c2, -, -, -,cf, -,dl⟩:=HH1.out.cells
 go_upto_region 2 with (fail)
 obtain ⟨W5,hW5⟩:∃V,V1.setCell ⟨p,2,none⟩ (.int .i64 ((i:Int)+1))=V:=⟨_,rfl⟩
 rw [hW5] at H5 P5 KG ⊢
 clear hW5 c2 cf dl
 have x0:W5.cell? ⟨g,0,none⟩=some (.int .u8 t.kind):=KG.out.cell 0
 have hT:T.length≤2000:=by omega
 by_cases hk1:t.kind=1
 ·have HIL:=Hd (show i+1≤L.length from HHL.out (by omega))
  have HR2:=Hd (show R=.ok (L.drop (i+1),T++ [{ nod0 1 with vk:=1,vn:=t.num }]) by rw [HR.out,if_pos hk1,zaz];rfl)
  have b1:(t.kind==1)=true:=by simp only [beq_iff_eq];omega
  go_upto_region 5 with (fail)
  clear x0
  obtain ⟨lv,hbx, -⟩:=H5.out.1.bx
  obtain ⟨it,ti0,ti1,ti2,ti3⟩:=zdz
  have HNP:=Hd (show (ov).ownBlock≠some p from H5.out.1.ne)
  have HNG:=Hd (show (ov).ownBlock≠some g from HGO.out)
  have Q0:=Hd hbx.drew
  have Q1:=Hd (hbx.drew.alloc (.cells (cNod { nod0 1 with vk:=1,vn:=t.num }).toArray 297))
  have KG0:=Hd (show Blk W5.drew g 239 #[.int .u8 t.kind,.int .i64 t.num,str t.text,.int .i64 t.rect.c1,.int .i64 t.rect.r1,.int .i64 t.rect.c2,.int .i64 t.rect.r2,.int .i64 t.at_] from KG.out.drew)
  have KG1:=Hd (show Blk (W5.drew.alloc (.cells (cNod { nod0 1 with vk:=1,vn:=t.num }).toArray 297)) g 239 #[.int .u8 t.kind,.int .i64 t.num,str t.text,.int .i64 t.rect.c1,.int .i64 t.rect.r1,.int .i64 t.rect.c2,.int .i64 t.rect.r2,.int .i64 t.at_] from KG.out.drew.alloc _)
  have KN1:=Hd (show Blk (W5.drew.alloc (.cells (cNod { nod0 1 with vk:=1,vn:=t.num }).toArray 297)) W5.heap.size 297 (cNod { nod0 1 with vk:=1,vn:=t.num }).toArray from Blk.new W5.drew _ _)
  have HO1:=Hd (H5.out.1.ow.drew.alloc (.cells (cNod { nod0 1 with vk:=1,vn:=t.num }).toArray 297))
  have HW1:=Hd (show Below W5.heap.size W5 (W5.drew.alloc (.cells (cNod { nod0 1 with vk:=1,vn:=t.num }).toArray 297)) by go_grown)
  clear hbx
  go_wp2_with fail
  refine wp_region_noPanic ?_
  refine za8 (RpS p g s lv (ov) ((i:Int)+1) a t) 13 (by kernel_rfl) ?_
  have hHeld:(RpS p g s lv (ov) ((i:Int)+1) a t) _:=⟨Q0.out,KG0.out⟩
  refine tU 0 ⟨some 20,.move (.tmp 0),_,_,_,none⟩ (.pointer (some ⟨p,0,none⟩)) rfl (fun _=>hHeld) ?_
  try go_frame
  refine tU 1 ⟨some 21,.move (.tmp 0),_,_,_,none⟩ (.pointer (some ⟨p,0,none⟩)) rfl (fun _=>hHeld) ?_
  try go_frame
  refine tU 2 ⟨some 22,.nilCheck (.tmp 21),_,_,_,none⟩ (.pointer (some ⟨p,0,none⟩)) rfl (fun _=>hHeld) ?_
  try go_frame
  refine tU 3 ⟨some 23,.fieldAddr 272 (.tmp 22) 3,_,_,_,none⟩ (.pointer (some ⟨p,3,none⟩)) rfl (fun _=>hHeld) ?_
  try go_frame
  refine tV 4 ⟨some 24,.load 190 (.tmp 23),190,_,_,none⟩ ov rfl hHeld (Or.inl ⟨by rfl,by intro W hW;have hc:W.cell? ⟨p,3,none⟩=some (ov):=hW.1.cell 3;go_simp⟩) ?_
  try go_frame
  refine tU 5 ⟨some 25,.fieldAddr 239 (.tmp 2) 1,_,_,_,none⟩ (.pointer (some ⟨g,1,none⟩)) rfl (fun _=>hHeld) ?_
  try go_frame
  refine tV 6 ⟨some 26,.load 2 (.tmp 25),2,_,_,none⟩ (.int .i64 t.num) rfl hHeld (Or.inl ⟨by rfl,by intro W hW;have hc:W.cell? ⟨g,1,none⟩=some (.int .i64 t.num):=hW.2.cell 1;go_simp⟩) ?_
  try go_frame
  refine tU 7 ⟨some 27,.build 189 #[(0,.const (.int .u8 1)),(1,.tmp 26)],_,_,_,none⟩ (.agg #[.int .u8 1,.int .i64 t.num,str []]) rfl (fun _=>hHeld) ?_
  try go_frame
  refine tU 8 ⟨some 28,.build 297 #[(0,.const (.int .u8 1)),(1,.tmp 27)],_,_,_,none⟩ (.agg #[.int .u8 1,.int .u8 1,.int .i64 t.num,str [],.int .i64 0,.int .i64 0,.int .i64 0,.int .i64 0,.int .i64 0,.int .u8 0,.int .i64 0]) rfl (fun _=>hHeld) ?_
  try go_frame
  refine zai 9 (o:=⟨some 29,.buildSlice 190 1 #[(0,.tmp 28)],190,_,_,none⟩) (by kernel_rfl) rfl rfl (fun K hK=>?_)
  go_simp
  refine hK.out _ _ (fun _=>⟨Q1.out,KG1.out⟩) ?_
  have hHeld:(RpS p g s lv (ov) ((i:Int)+1) a t) _:=⟨Q1.out,KG1.out⟩
  clear hK K
  try go_frame
  refine zai 10 (o:=⟨some 30,.call { callee:=.builtin .append,args:=#[.tmp 24,.tmp 29],argTypes:=#[190,190] },_,_,_,none⟩) (by kernel_rfl) rfl rfl (fun K hK=>?_)
  obtain ⟨r9,w9,hr9,o9,t9⟩:=zdh (P:=prog) _ cNod 190 190 297 it _ 11 96 underlying190 ti0 ti1 ti2 ti3 rfl (by omega) (ov) T HO1.out _ _ [{ nod0 1 with vk:=1,vn:=t.num }] (Sls.one (x:={ nod0 1 with vk:=1,vn:=t.num }) KN1.out rfl) zbq zd0 (by simp;omega) (by omega)
  obtain ⟨A9,c9,hv9, -⟩:=zeg o9
  obtain ⟨m9,hm9⟩:∃m,(T++ [{ nod0 1 with vk:=1,vn:=t.num }]).length=m:=⟨_,rfl⟩
  rw [hm9] at hv9
  clear hm9
  subst hv9
  have hB9:=Q1.out.outTo t9 HNP.out
  refine zbk _ _ _ _ rfl _ _ _ _ rfl rfl hr9 ?_
  refine hK.out _ _ (fun _=>⟨hB9,KG1.out.outTo t9 HNG.out⟩) ?_
  have hHeld:(RpS p g s lv (ov) ((i:Int)+1) a t) _:=⟨hB9,KG1.out.outTo t9 HNG.out⟩
  clear hK K
  try go_frame
  refine tU 11 ⟨some 31,.nilCheck (.tmp 20),_,_,_,none⟩ (.pointer (some ⟨p,0,none⟩)) rfl (fun _=>hHeld) ?_
  try go_frame
  refine tU 12 ⟨some 32,.fieldAddr 272 (.tmp 31) 3,_,_,_,none⟩ (.pointer (some ⟨p,3,none⟩)) rfl (fun _=>hHeld) ?_
  try go_frame
  refine zai 13 (o:=⟨none,.store 190 (.tmp 32) (.tmp 30),0,_,_,none⟩) (by kernel_rfl) rfl rfl (fun K hK=>?_)
  have kc:w9.cell? ⟨p,3,none⟩=some (ov):=hB9.cell 3
  have kf:=hB9.frozen
  go_simp
  refine hK.out _ _ (fun h=>absurd h (by decide)) ?_
  clear hK K
  try go_frame
  refine za9 (by kernel_rfl) ?_
  refine NoPanic.normal ?_
  have HF:=Hd (H5.out.1.putAt HW1.out o9 t9)
  clear hHeld hB9 o9 t9 hr9
  go_wp2
  refine bE ?_
  exact zbl HR2.out HIL.out HF.out.1 (P5.out.trans HF.out.2)
 by_cases hk2:t.kind=2
 ·have HIL:=Hd (show i+1≤L.length from HHL.out (by omega))
  have HR2:=Hd (show R=.ok (L.drop (i+1),T++ [{ nod0 1 with vk:=3,vt:=t.text }]) by rw [HR.out,if_neg hk1,if_pos hk2,zaz];rfl)
  have b1:(t.kind==1)=false:=by simp only [beq_eq_false_iff_ne,ne_eq];omega
  have b2:(t.kind==2)=true:=by simp only [beq_iff_eq];omega
  go_upto_region 7 with (fail)
  clear x0
  obtain ⟨lv,hbx, -⟩:=H5.out.1.bx
  obtain ⟨it,ti0,ti1,ti2,ti3⟩:=zdz
  have HNP:=Hd (show (ov).ownBlock≠some p from H5.out.1.ne)
  have HNG:=Hd (show (ov).ownBlock≠some g from HGO.out)
  have Q0:=Hd hbx.drew
  have Q1:=Hd (hbx.drew.alloc (.cells (cNod { nod0 1 with vk:=3,vt:=t.text }).toArray 297))
  have KG0:=Hd (show Blk W5.drew g 239 #[.int .u8 t.kind,.int .i64 t.num,str t.text,.int .i64 t.rect.c1,.int .i64 t.rect.r1,.int .i64 t.rect.c2,.int .i64 t.rect.r2,.int .i64 t.at_] from KG.out.drew)
  have KG1:=Hd (show Blk (W5.drew.alloc (.cells (cNod { nod0 1 with vk:=3,vt:=t.text }).toArray 297)) g 239 #[.int .u8 t.kind,.int .i64 t.num,str t.text,.int .i64 t.rect.c1,.int .i64 t.rect.r1,.int .i64 t.rect.c2,.int .i64 t.rect.r2,.int .i64 t.at_] from KG.out.drew.alloc _)
  have KN1:=Hd (show Blk (W5.drew.alloc (.cells (cNod { nod0 1 with vk:=3,vt:=t.text }).toArray 297)) W5.heap.size 297 (cNod { nod0 1 with vk:=3,vt:=t.text }).toArray from Blk.new W5.drew _ _)
  have HO1:=Hd (H5.out.1.ow.drew.alloc (.cells (cNod { nod0 1 with vk:=3,vt:=t.text }).toArray 297))
  have HW1:=Hd (show Below W5.heap.size W5 (W5.drew.alloc (.cells (cNod { nod0 1 with vk:=3,vt:=t.text }).toArray 297)) by go_grown)
  clear hbx
  go_wp2_with fail
  refine wp_region_noPanic ?_
  refine za8 (RpS p g s lv (ov) ((i:Int)+1) a t) 13 (by kernel_rfl) ?_
  have hHeld:(RpS p g s lv (ov) ((i:Int)+1) a t) _:=⟨Q0.out,KG0.out⟩
  refine tU 0 ⟨some 35,.move (.tmp 0),_,_,_,none⟩ (.pointer (some ⟨p,0,none⟩)) rfl (fun _=>hHeld) ?_
  try go_frame
  refine tU 1 ⟨some 36,.move (.tmp 0),_,_,_,none⟩ (.pointer (some ⟨p,0,none⟩)) rfl (fun _=>hHeld) ?_
  try go_frame
  refine tU 2 ⟨some 37,.nilCheck (.tmp 36),_,_,_,none⟩ (.pointer (some ⟨p,0,none⟩)) rfl (fun _=>hHeld) ?_
  try go_frame
  refine tU 3 ⟨some 38,.fieldAddr 272 (.tmp 37) 3,_,_,_,none⟩ (.pointer (some ⟨p,3,none⟩)) rfl (fun _=>hHeld) ?_
  try go_frame
  refine tV 4 ⟨some 39,.load 190 (.tmp 38),190,_,_,none⟩ ov rfl hHeld (Or.inl ⟨by rfl,by intro W hW;have hc:W.cell? ⟨p,3,none⟩=some (ov):=hW.1.cell 3;go_simp⟩) ?_
  try go_frame
  refine tU 5 ⟨some 40,.fieldAddr 239 (.tmp 2) 2,_,_,_,none⟩ (.pointer (some ⟨g,2,none⟩)) rfl (fun _=>hHeld) ?_
  try go_frame
  refine tV 6 ⟨some 41,.load 9 (.tmp 40),9,_,_,none⟩ (str t.text) rfl hHeld (Or.inl ⟨by rfl,by intro W hW;have hc:W.cell? ⟨g,2,none⟩=some (str t.text):=hW.2.cell 2;go_simp⟩) ?_
  try go_frame
  refine tU 7 ⟨some 42,.build 189 #[(0,.const (.int .u8 3)),(2,.tmp 41)],_,_,_,none⟩ (.agg #[.int .u8 3,.int .i64 0,str t.text]) rfl (fun _=>hHeld) ?_
  try go_frame
  refine tU 8 ⟨some 43,.build 297 #[(0,.const (.int .u8 1)),(1,.tmp 42)],_,_,_,none⟩ (.agg #[.int .u8 1,.int .u8 3,.int .i64 0,str t.text,.int .i64 0,.int .i64 0,.int .i64 0,.int .i64 0,.int .i64 0,.int .u8 0,.int .i64 0]) rfl (fun _=>hHeld) ?_
  try go_frame
  refine zai 9 (o:=⟨some 44,.buildSlice 190 1 #[(0,.tmp 43)],190,_,_,none⟩) (by kernel_rfl) rfl rfl (fun K hK=>?_)
  go_simp
  refine hK.out _ _ (fun _=>⟨Q1.out,KG1.out⟩) ?_
  have hHeld:(RpS p g s lv (ov) ((i:Int)+1) a t) _:=⟨Q1.out,KG1.out⟩
  clear hK K
  try go_frame
  refine zai 10 (o:=⟨some 45,.call { callee:=.builtin .append,args:=#[.tmp 39,.tmp 44],argTypes:=#[190,190] },_,_,_,none⟩) (by kernel_rfl) rfl rfl (fun K hK=>?_)
  obtain ⟨r9,w9,hr9,o9,t9⟩:=zdh (P:=prog) _ cNod 190 190 297 it _ 11 96 underlying190 ti0 ti1 ti2 ti3 rfl (by omega) (ov) T HO1.out _ _ [{ nod0 1 with vk:=3,vt:=t.text }] (Sls.one (x:={ nod0 1 with vk:=3,vt:=t.text }) KN1.out rfl) zbq zd0 (by simp;omega) (by omega)
  obtain ⟨A9,c9,hv9, -⟩:=zeg o9
  obtain ⟨m9,hm9⟩:∃m,(T++ [{ nod0 1 with vk:=3,vt:=t.text }]).length=m:=⟨_,rfl⟩
  rw [hm9] at hv9
  clear hm9
  subst hv9
  have hB9:=Q1.out.outTo t9 HNP.out
  refine zbk _ _ _ _ rfl _ _ _ _ rfl rfl hr9 ?_
  refine hK.out _ _ (fun _=>⟨hB9,KG1.out.outTo t9 HNG.out⟩) ?_
  have hHeld:(RpS p g s lv (ov) ((i:Int)+1) a t) _:=⟨hB9,KG1.out.outTo t9 HNG.out⟩
  clear hK K
  try go_frame
  refine tU 11 ⟨some 46,.nilCheck (.tmp 35),_,_,_,none⟩ (.pointer (some ⟨p,0,none⟩)) rfl (fun _=>hHeld) ?_
  try go_frame
  refine tU 12 ⟨some 47,.fieldAddr 272 (.tmp 46) 3,_,_,_,none⟩ (.pointer (some ⟨p,3,none⟩)) rfl (fun _=>hHeld) ?_
  try go_frame
  refine zai 13 (o:=⟨none,.store 190 (.tmp 47) (.tmp 45),0,_,_,none⟩) (by kernel_rfl) rfl rfl (fun K hK=>?_)
  have kc:w9.cell? ⟨p,3,none⟩=some (ov):=hB9.cell 3
  have kf:=hB9.frozen
  go_simp
  refine hK.out _ _ (fun h=>absurd h (by decide)) ?_
  clear hK K
  try go_frame
  refine za9 (by kernel_rfl) ?_
  refine NoPanic.normal ?_
  have HF:=Hd (H5.out.1.putAt HW1.out o9 t9)
  clear hHeld hB9 o9 t9 hr9
  go_wp2
  refine bE ?_
  exact zbl HR2.out HIL.out HF.out.1 (P5.out.trans HF.out.2)
 by_cases hk3:t.kind=3
 ·have HIL:=Hd (show i+1≤L.length from HHL.out (by omega))
  have HR2:=Hd (show R=.ok (L.drop (i+1),T++ [{ nod0 1 with vk:=2,vn:=t.num }]) by rw [HR.out,if_neg hk1,if_neg hk2,if_pos hk3,zaz];rfl)
  have b1:(t.kind==1)=false:=by simp only [beq_eq_false_iff_ne,ne_eq];omega
  have b2:(t.kind==2)=false:=by simp only [beq_eq_false_iff_ne,ne_eq];omega
  have b3:(t.kind==3)=true:=by simp only [beq_iff_eq];omega
  go_upto_region 9 with (fail)
  clear x0
  obtain ⟨lv,hbx, -⟩:=H5.out.1.bx
  obtain ⟨it,ti0,ti1,ti2,ti3⟩:=zdz
  have HNP:=Hd (show (ov).ownBlock≠some p from H5.out.1.ne)
  have HNG:=Hd (show (ov).ownBlock≠some g from HGO.out)
  have Q0:=Hd hbx.drew
  have Q1:=Hd (hbx.drew.alloc (.cells (cNod { nod0 1 with vk:=2,vn:=t.num }).toArray 297))
  have KG0:=Hd (show Blk W5.drew g 239 #[.int .u8 t.kind,.int .i64 t.num,str t.text,.int .i64 t.rect.c1,.int .i64 t.rect.r1,.int .i64 t.rect.c2,.int .i64 t.rect.r2,.int .i64 t.at_] from KG.out.drew)
  have KG1:=Hd (show Blk (W5.drew.alloc (.cells (cNod { nod0 1 with vk:=2,vn:=t.num }).toArray 297)) g 239 #[.int .u8 t.kind,.int .i64 t.num,str t.text,.int .i64 t.rect.c1,.int .i64 t.rect.r1,.int .i64 t.rect.c2,.int .i64 t.rect.r2,.int .i64 t.at_] from KG.out.drew.alloc _)
  have KN1:=Hd (show Blk (W5.drew.alloc (.cells (cNod { nod0 1 with vk:=2,vn:=t.num }).toArray 297)) W5.heap.size 297 (cNod { nod0 1 with vk:=2,vn:=t.num }).toArray from Blk.new W5.drew _ _)
  have HO1:=Hd (H5.out.1.ow.drew.alloc (.cells (cNod { nod0 1 with vk:=2,vn:=t.num }).toArray 297))
  have HW1:=Hd (show Below W5.heap.size W5 (W5.drew.alloc (.cells (cNod { nod0 1 with vk:=2,vn:=t.num }).toArray 297)) by go_grown)
  clear hbx
  go_wp2_with fail
  refine wp_region_noPanic ?_
  refine za8 (RpS p g s lv (ov) ((i:Int)+1) a t) 13 (by kernel_rfl) ?_
  have hHeld:(RpS p g s lv (ov) ((i:Int)+1) a t) _:=⟨Q0.out,KG0.out⟩
  refine tU 0 ⟨some 50,.move (.tmp 0),_,_,_,none⟩ (.pointer (some ⟨p,0,none⟩)) rfl (fun _=>hHeld) ?_
  try go_frame
  refine tU 1 ⟨some 51,.move (.tmp 0),_,_,_,none⟩ (.pointer (some ⟨p,0,none⟩)) rfl (fun _=>hHeld) ?_
  try go_frame
  refine tU 2 ⟨some 52,.nilCheck (.tmp 51),_,_,_,none⟩ (.pointer (some ⟨p,0,none⟩)) rfl (fun _=>hHeld) ?_
  try go_frame
  refine tU 3 ⟨some 53,.fieldAddr 272 (.tmp 52) 3,_,_,_,none⟩ (.pointer (some ⟨p,3,none⟩)) rfl (fun _=>hHeld) ?_
  try go_frame
  refine tV 4 ⟨some 54,.load 190 (.tmp 53),190,_,_,none⟩ ov rfl hHeld (Or.inl ⟨by rfl,by intro W hW;have hc:W.cell? ⟨p,3,none⟩=some (ov):=hW.1.cell 3;go_simp⟩) ?_
  try go_frame
  refine tU 5 ⟨some 55,.fieldAddr 239 (.tmp 2) 1,_,_,_,none⟩ (.pointer (some ⟨g,1,none⟩)) rfl (fun _=>hHeld) ?_
  try go_frame
  refine tV 6 ⟨some 56,.load 2 (.tmp 55),2,_,_,none⟩ (.int .i64 t.num) rfl hHeld (Or.inl ⟨by rfl,by intro W hW;have hc:W.cell? ⟨g,1,none⟩=some (.int .i64 t.num):=hW.2.cell 1;go_simp⟩) ?_
  try go_frame
  refine tU 7 ⟨some 57,.build 189 #[(0,.const (.int .u8 2)),(1,.tmp 56)],_,_,_,none⟩ (.agg #[.int .u8 2,.int .i64 t.num,str []]) rfl (fun _=>hHeld) ?_
  try go_frame
  refine tU 8 ⟨some 58,.build 297 #[(0,.const (.int .u8 1)),(1,.tmp 57)],_,_,_,none⟩ (.agg #[.int .u8 1,.int .u8 2,.int .i64 t.num,str [],.int .i64 0,.int .i64 0,.int .i64 0,.int .i64 0,.int .i64 0,.int .u8 0,.int .i64 0]) rfl (fun _=>hHeld) ?_
  try go_frame
  refine zai 9 (o:=⟨some 59,.buildSlice 190 1 #[(0,.tmp 58)],190,_,_,none⟩) (by kernel_rfl) rfl rfl (fun K hK=>?_)
  go_simp
  refine hK.out _ _ (fun _=>⟨Q1.out,KG1.out⟩) ?_
  have hHeld:(RpS p g s lv (ov) ((i:Int)+1) a t) _:=⟨Q1.out,KG1.out⟩
  clear hK K
  try go_frame
  refine zai 10 (o:=⟨some 60,.call { callee:=.builtin .append,args:=#[.tmp 54,.tmp 59],argTypes:=#[190,190] },_,_,_,none⟩) (by kernel_rfl) rfl rfl (fun K hK=>?_)
  obtain ⟨r9,w9,hr9,o9,t9⟩:=zdh (P:=prog) _ cNod 190 190 297 it _ 11 96 underlying190 ti0 ti1 ti2 ti3 rfl (by omega) (ov) T HO1.out _ _ [{ nod0 1 with vk:=2,vn:=t.num }] (Sls.one (x:={ nod0 1 with vk:=2,vn:=t.num }) KN1.out rfl) zbq zd0 (by simp;omega) (by omega)
  obtain ⟨A9,c9,hv9, -⟩:=zeg o9
  obtain ⟨m9,hm9⟩:∃m,(T++ [{ nod0 1 with vk:=2,vn:=t.num }]).length=m:=⟨_,rfl⟩
  rw [hm9] at hv9
  clear hm9
  subst hv9
  have hB9:=Q1.out.outTo t9 HNP.out
  refine zbk _ _ _ _ rfl _ _ _ _ rfl rfl hr9 ?_
  refine hK.out _ _ (fun _=>⟨hB9,KG1.out.outTo t9 HNG.out⟩) ?_
  have hHeld:(RpS p g s lv (ov) ((i:Int)+1) a t) _:=⟨hB9,KG1.out.outTo t9 HNG.out⟩
  clear hK K
  try go_frame
  refine tU 11 ⟨some 61,.nilCheck (.tmp 50),_,_,_,none⟩ (.pointer (some ⟨p,0,none⟩)) rfl (fun _=>hHeld) ?_
  try go_frame
  refine tU 12 ⟨some 62,.fieldAddr 272 (.tmp 61) 3,_,_,_,none⟩ (.pointer (some ⟨p,3,none⟩)) rfl (fun _=>hHeld) ?_
  try go_frame
  refine zai 13 (o:=⟨none,.store 190 (.tmp 62) (.tmp 60),0,_,_,none⟩) (by kernel_rfl) rfl rfl (fun K hK=>?_)
  have kc:w9.cell? ⟨p,3,none⟩=some (ov):=hB9.cell 3
  have kf:=hB9.frozen
  go_simp
  refine hK.out _ _ (fun h=>absurd h (by decide)) ?_
  clear hK K
  try go_frame
  refine za9 (by kernel_rfl) ?_
  refine NoPanic.normal ?_
  have HF:=Hd (H5.out.1.putAt HW1.out o9 t9)
  clear hHeld hB9 o9 t9 hr9
  go_wp2
  refine bE ?_
  exact zbl HR2.out HIL.out HF.out.1 (P5.out.trans HF.out.2)
 by_cases hk4:t.kind=4
 ·have HIL:=Hd (show i+1≤L.length from HHL.out (by omega))
  have HR2:=Hd (show R=.ok (L.drop (i+1),T++ [{ nod0 1 with vk:=4,vn:=t.num }]) by rw [HR.out,if_neg hk1,if_neg hk2,if_neg hk3,if_pos hk4,zaz];rfl)
  have b1:(t.kind==1)=false:=by simp only [beq_eq_false_iff_ne,ne_eq];omega
  have b2:(t.kind==2)=false:=by simp only [beq_eq_false_iff_ne,ne_eq];omega
  have b3:(t.kind==3)=false:=by simp only [beq_eq_false_iff_ne,ne_eq];omega
  have b4:(t.kind==4)=true:=by simp only [beq_iff_eq];omega
  go_upto_region 11 with (fail)
  clear x0
  obtain ⟨lv,hbx, -⟩:=H5.out.1.bx
  obtain ⟨it,ti0,ti1,ti2,ti3⟩:=zdz
  have HNP:=Hd (show (ov).ownBlock≠some p from H5.out.1.ne)
  have HNG:=Hd (show (ov).ownBlock≠some g from HGO.out)
  have Q0:=Hd hbx.drew
  have Q1:=Hd (hbx.drew.alloc (.cells (cNod { nod0 1 with vk:=4,vn:=t.num }).toArray 297))
  have KG0:=Hd (show Blk W5.drew g 239 #[.int .u8 t.kind,.int .i64 t.num,str t.text,.int .i64 t.rect.c1,.int .i64 t.rect.r1,.int .i64 t.rect.c2,.int .i64 t.rect.r2,.int .i64 t.at_] from KG.out.drew)
  have KG1:=Hd (show Blk (W5.drew.alloc (.cells (cNod { nod0 1 with vk:=4,vn:=t.num }).toArray 297)) g 239 #[.int .u8 t.kind,.int .i64 t.num,str t.text,.int .i64 t.rect.c1,.int .i64 t.rect.r1,.int .i64 t.rect.c2,.int .i64 t.rect.r2,.int .i64 t.at_] from KG.out.drew.alloc _)
  have KN1:=Hd (show Blk (W5.drew.alloc (.cells (cNod { nod0 1 with vk:=4,vn:=t.num }).toArray 297)) W5.heap.size 297 (cNod { nod0 1 with vk:=4,vn:=t.num }).toArray from Blk.new W5.drew _ _)
  have HO1:=Hd (H5.out.1.ow.drew.alloc (.cells (cNod { nod0 1 with vk:=4,vn:=t.num }).toArray 297))
  have HW1:=Hd (show Below W5.heap.size W5 (W5.drew.alloc (.cells (cNod { nod0 1 with vk:=4,vn:=t.num }).toArray 297)) by go_grown)
  clear hbx
  go_wp2_with fail
  refine wp_region_noPanic ?_
  refine za8 (RpS p g s lv (ov) ((i:Int)+1) a t) 13 (by kernel_rfl) ?_
  have hHeld:(RpS p g s lv (ov) ((i:Int)+1) a t) _:=⟨Q0.out,KG0.out⟩
  refine tU 0 ⟨some 65,.move (.tmp 0),_,_,_,none⟩ (.pointer (some ⟨p,0,none⟩)) rfl (fun _=>hHeld) ?_
  try go_frame
  refine tU 1 ⟨some 66,.move (.tmp 0),_,_,_,none⟩ (.pointer (some ⟨p,0,none⟩)) rfl (fun _=>hHeld) ?_
  try go_frame
  refine tU 2 ⟨some 67,.nilCheck (.tmp 66),_,_,_,none⟩ (.pointer (some ⟨p,0,none⟩)) rfl (fun _=>hHeld) ?_
  try go_frame
  refine tU 3 ⟨some 68,.fieldAddr 272 (.tmp 67) 3,_,_,_,none⟩ (.pointer (some ⟨p,3,none⟩)) rfl (fun _=>hHeld) ?_
  try go_frame
  refine tV 4 ⟨some 69,.load 190 (.tmp 68),190,_,_,none⟩ ov rfl hHeld (Or.inl ⟨by rfl,by intro W hW;have hc:W.cell? ⟨p,3,none⟩=some (ov):=hW.1.cell 3;go_simp⟩) ?_
  try go_frame
  refine tU 5 ⟨some 70,.fieldAddr 239 (.tmp 2) 1,_,_,_,none⟩ (.pointer (some ⟨g,1,none⟩)) rfl (fun _=>hHeld) ?_
  try go_frame
  refine tV 6 ⟨some 71,.load 2 (.tmp 70),2,_,_,none⟩ (.int .i64 t.num) rfl hHeld (Or.inl ⟨by rfl,by intro W hW;have hc:W.cell? ⟨g,1,none⟩=some (.int .i64 t.num):=hW.2.cell 1;go_simp⟩) ?_
  try go_frame
  refine tU 7 ⟨some 72,.build 189 #[(0,.const (.int .u8 4)),(1,.tmp 71)],_,_,_,none⟩ (.agg #[.int .u8 4,.int .i64 t.num,str []]) rfl (fun _=>hHeld) ?_
  try go_frame
  refine tU 8 ⟨some 73,.build 297 #[(0,.const (.int .u8 1)),(1,.tmp 72)],_,_,_,none⟩ (.agg #[.int .u8 1,.int .u8 4,.int .i64 t.num,str [],.int .i64 0,.int .i64 0,.int .i64 0,.int .i64 0,.int .i64 0,.int .u8 0,.int .i64 0]) rfl (fun _=>hHeld) ?_
  try go_frame
  refine zai 9 (o:=⟨some 74,.buildSlice 190 1 #[(0,.tmp 73)],190,_,_,none⟩) (by kernel_rfl) rfl rfl (fun K hK=>?_)
  go_simp
  refine hK.out _ _ (fun _=>⟨Q1.out,KG1.out⟩) ?_
  have hHeld:(RpS p g s lv (ov) ((i:Int)+1) a t) _:=⟨Q1.out,KG1.out⟩
  clear hK K
  try go_frame
  refine zai 10 (o:=⟨some 75,.call { callee:=.builtin .append,args:=#[.tmp 69,.tmp 74],argTypes:=#[190,190] },_,_,_,none⟩) (by kernel_rfl) rfl rfl (fun K hK=>?_)
  obtain ⟨r9,w9,hr9,o9,t9⟩:=zdh (P:=prog) _ cNod 190 190 297 it _ 11 96 underlying190 ti0 ti1 ti2 ti3 rfl (by omega) (ov) T HO1.out _ _ [{ nod0 1 with vk:=4,vn:=t.num }] (Sls.one (x:={ nod0 1 with vk:=4,vn:=t.num }) KN1.out rfl) zbq zd0 (by simp;omega) (by omega)
  obtain ⟨A9,c9,hv9, -⟩:=zeg o9
  obtain ⟨m9,hm9⟩:∃m,(T++ [{ nod0 1 with vk:=4,vn:=t.num }]).length=m:=⟨_,rfl⟩
  rw [hm9] at hv9
  clear hm9
  subst hv9
  have hB9:=Q1.out.outTo t9 HNP.out
  refine zbk _ _ _ _ rfl _ _ _ _ rfl rfl hr9 ?_
  refine hK.out _ _ (fun _=>⟨hB9,KG1.out.outTo t9 HNG.out⟩) ?_
  have hHeld:(RpS p g s lv (ov) ((i:Int)+1) a t) _:=⟨hB9,KG1.out.outTo t9 HNG.out⟩
  clear hK K
  try go_frame
  refine tU 11 ⟨some 76,.nilCheck (.tmp 65),_,_,_,none⟩ (.pointer (some ⟨p,0,none⟩)) rfl (fun _=>hHeld) ?_
  try go_frame
  refine tU 12 ⟨some 77,.fieldAddr 272 (.tmp 76) 3,_,_,_,none⟩ (.pointer (some ⟨p,3,none⟩)) rfl (fun _=>hHeld) ?_
  try go_frame
  refine zai 13 (o:=⟨none,.store 190 (.tmp 77) (.tmp 75),0,_,_,none⟩) (by kernel_rfl) rfl rfl (fun K hK=>?_)
  have kc:w9.cell? ⟨p,3,none⟩=some (ov):=hB9.cell 3
  have kf:=hB9.frozen
  go_simp
  refine hK.out _ _ (fun h=>absurd h (by decide)) ?_
  clear hK K
  try go_frame
  refine za9 (by kernel_rfl) ?_
  refine NoPanic.normal ?_
  have HF:=Hd (H5.out.1.putAt HW1.out o9 t9)
  clear hHeld hB9 o9 t9 hr9
  go_wp2
  refine bE ?_
  exact zbl HR2.out HIL.out HF.out.1 (P5.out.trans HF.out.2)
 by_cases hk5:t.kind=5
 ·have HIL:=Hd (show i+1≤L.length from HHL.out (by omega))
  have HR2:=Hd (show R=.ok (L.drop (i+1),T++ [{ nod0 2 with rect:=t.rect }]) by rw [HR.out,if_neg hk1,if_neg hk2,if_neg hk3,if_neg hk4,if_pos hk5,zaz];rfl)
  have b1:(t.kind==1)=false:=by simp only [beq_eq_false_iff_ne,ne_eq];omega
  have b2:(t.kind==2)=false:=by simp only [beq_eq_false_iff_ne,ne_eq];omega
  have b3:(t.kind==3)=false:=by simp only [beq_eq_false_iff_ne,ne_eq];omega
  have b4:(t.kind==4)=false:=by simp only [beq_eq_false_iff_ne,ne_eq];omega
  have b5:(t.kind==5)=true:=by simp only [beq_iff_eq];omega
  go_upto_region 13 with (fail)
  clear x0
  obtain ⟨lv,hbx, -⟩:=H5.out.1.bx
  obtain ⟨it,ti0,ti1,ti2,ti3⟩:=zdz
  have HNP:=Hd (show (ov).ownBlock≠some p from H5.out.1.ne)
  have HNG:=Hd (show (ov).ownBlock≠some g from HGO.out)
  have Q0:=Hd hbx.drew
  have Q1:=Hd (hbx.drew.alloc (.cells (cNod { nod0 2 with rect:=t.rect }).toArray 297))
  have KG0:=Hd (show Blk W5.drew g 239 #[.int .u8 t.kind,.int .i64 t.num,str t.text,.int .i64 t.rect.c1,.int .i64 t.rect.r1,.int .i64 t.rect.c2,.int .i64 t.rect.r2,.int .i64 t.at_] from KG.out.drew)
  have KG1:=Hd (show Blk (W5.drew.alloc (.cells (cNod { nod0 2 with rect:=t.rect }).toArray 297)) g 239 #[.int .u8 t.kind,.int .i64 t.num,str t.text,.int .i64 t.rect.c1,.int .i64 t.rect.r1,.int .i64 t.rect.c2,.int .i64 t.rect.r2,.int .i64 t.at_] from KG.out.drew.alloc _)
  have KN1:=Hd (show Blk (W5.drew.alloc (.cells (cNod { nod0 2 with rect:=t.rect }).toArray 297)) W5.heap.size 297 (cNod { nod0 2 with rect:=t.rect }).toArray from Blk.new W5.drew _ _)
  have HO1:=Hd (H5.out.1.ow.drew.alloc (.cells (cNod { nod0 2 with rect:=t.rect }).toArray 297))
  have HW1:=Hd (show Below W5.heap.size W5 (W5.drew.alloc (.cells (cNod { nod0 2 with rect:=t.rect }).toArray 297)) by go_grown)
  clear hbx
  go_wp2_with fail
  refine wp_region_noPanic ?_
  refine za8 (RpS p g s lv (ov) ((i:Int)+1) a t) 12 (by kernel_rfl) ?_
  have hHeld:(RpS p g s lv (ov) ((i:Int)+1) a t) _:=⟨Q0.out,KG0.out⟩
  refine tU 0 ⟨some 80,.move (.tmp 0),_,_,_,none⟩ (.pointer (some ⟨p,0,none⟩)) rfl (fun _=>hHeld) ?_
  try go_frame
  refine tU 1 ⟨some 81,.move (.tmp 0),_,_,_,none⟩ (.pointer (some ⟨p,0,none⟩)) rfl (fun _=>hHeld) ?_
  try go_frame
  refine tU 2 ⟨some 82,.nilCheck (.tmp 81),_,_,_,none⟩ (.pointer (some ⟨p,0,none⟩)) rfl (fun _=>hHeld) ?_
  try go_frame
  refine tU 3 ⟨some 83,.fieldAddr 272 (.tmp 82) 3,_,_,_,none⟩ (.pointer (some ⟨p,3,none⟩)) rfl (fun _=>hHeld) ?_
  try go_frame
  refine tV 4 ⟨some 84,.load 190 (.tmp 83),190,_,_,none⟩ ov rfl hHeld (Or.inl ⟨by rfl,by intro W hW;have hc:W.cell? ⟨p,3,none⟩=some (ov):=hW.1.cell 3;go_simp⟩) ?_
  try go_frame
  refine tU 5 ⟨some 85,.fieldAddr 239 (.tmp 2) 3,_,_,_,none⟩ (.pointer (some ⟨g,3,none⟩)) rfl (fun _=>hHeld) ?_
  try go_frame
  refine tV 6 ⟨some 86,.load 43 (.tmp 85),43,_,_,none⟩ (.agg _) rfl hHeld (yieldsIf_load_mid rfl _ _ rfl (g) (3) rfl _ _ (fun W' h=>h.2.range (l:=cRct t.rect) (o:=3) (by intro j v hj;rcases j with _ | _ | _ | _ | j <;> first | exact hj | (simp [cRct] at hj))) rfl rfl (by kernel_rfl)) ?_
  try go_frame
  refine tU 7 ⟨some 87,.build 297 #[(0,.const (.int .u8 2)),(2,.tmp 86)],_,_,_,none⟩ (.agg #[.int .u8 2,.int .u8 0,.int .i64 0,str [],.int .i64 t.rect.c1,.int .i64 t.rect.r1,.int .i64 t.rect.c2,.int .i64 t.rect.r2,.int .i64 0,.int .u8 0,.int .i64 0]) rfl (fun _=>hHeld) ?_
  try go_frame
  refine zai 8 (o:=⟨some 88,.buildSlice 190 1 #[(0,.tmp 87)],190,_,_,none⟩) (by kernel_rfl) rfl rfl (fun K hK=>?_)
  go_simp
  refine hK.out _ _ (fun _=>⟨Q1.out,KG1.out⟩) ?_
  have hHeld:(RpS p g s lv (ov) ((i:Int)+1) a t) _:=⟨Q1.out,KG1.out⟩
  clear hK K
  try go_frame
  refine zai 9 (o:=⟨some 89,.call { callee:=.builtin .append,args:=#[.tmp 84,.tmp 88],argTypes:=#[190,190] },_,_,_,none⟩) (by kernel_rfl) rfl rfl (fun K hK=>?_)
  obtain ⟨r9,w9,hr9,o9,t9⟩:=zdh (P:=prog) _ cNod 190 190 297 it _ 11 96 underlying190 ti0 ti1 ti2 ti3 rfl (by omega) (ov) T HO1.out _ _ [{ nod0 2 with rect:=t.rect }] (Sls.one (x:={ nod0 2 with rect:=t.rect }) KN1.out rfl) zbq zd0 (by simp;omega) (by omega)
  obtain ⟨A9,c9,hv9, -⟩:=zeg o9
  obtain ⟨m9,hm9⟩:∃m,(T++ [{ nod0 2 with rect:=t.rect }]).length=m:=⟨_,rfl⟩
  rw [hm9] at hv9
  clear hm9
  subst hv9
  have hB9:=Q1.out.outTo t9 HNP.out
  refine zbk _ _ _ _ rfl _ _ _ _ rfl rfl hr9 ?_
  refine hK.out _ _ (fun _=>⟨hB9,KG1.out.outTo t9 HNG.out⟩) ?_
  have hHeld:(RpS p g s lv (ov) ((i:Int)+1) a t) _:=⟨hB9,KG1.out.outTo t9 HNG.out⟩
  clear hK K
  try go_frame
  refine tU 10 ⟨some 90,.nilCheck (.tmp 80),_,_,_,none⟩ (.pointer (some ⟨p,0,none⟩)) rfl (fun _=>hHeld) ?_
  try go_frame
  refine tU 11 ⟨some 91,.fieldAddr 272 (.tmp 90) 3,_,_,_,none⟩ (.pointer (some ⟨p,3,none⟩)) rfl (fun _=>hHeld) ?_
  try go_frame
  refine zai 12 (o:=⟨none,.store 190 (.tmp 91) (.tmp 89),0,_,_,none⟩) (by kernel_rfl) rfl rfl (fun K hK=>?_)
  have kc:w9.cell? ⟨p,3,none⟩=some (ov):=hB9.cell 3
  have kf:=hB9.frozen
  go_simp
  refine hK.out _ _ (fun h=>absurd h (by decide)) ?_
  clear hK K
  try go_frame
  refine za9 (by kernel_rfl) ?_
  refine NoPanic.normal ?_
  have HF:=Hd (H5.out.1.putAt HW1.out o9 t9)
  clear hHeld hB9 o9 t9 hr9
  go_wp2
  refine bE ?_
  exact zbl HR2.out HIL.out HF.out.1 (P5.out.trans HF.out.2)
 by_cases hk9:t.kind=9
 ·have hil:i<L.length:=HHL.out (by omega)
  have HR2:=Hd (show R=thenS (parS s.length f (.level 1) (L.drop (i+1),T)) (zd6 s.length 10) by rw [HR.out,if_neg hk1,if_neg hk2,if_neg hk3,if_neg hk4,if_neg hk5,if_pos hk9,zaz])
  have b1:(t.kind==1)=false:=by simp only [beq_eq_false_iff_ne,ne_eq];omega
  have b2:(t.kind==2)=false:=by simp only [beq_eq_false_iff_ne,ne_eq];omega
  have b3:(t.kind==3)=false:=by simp only [beq_eq_false_iff_ne,ne_eq];omega
  have b4:(t.kind==4)=false:=by simp only [beq_eq_false_iff_ne,ne_eq];omega
  have b5:(t.kind==5)=false:=by simp only [beq_eq_false_iff_ne,ne_eq];omega
  have b9:(t.kind==9)=true:=by simp only [beq_iff_eq];omega
  clear HR HHL HHE
  go_wp2_with fail
  refine (HLV.out p ov (i+1) T a _ H5.out.1 (by omega) (by omega) (by simp only [zbd];omega) (by omega)).mono ?_
  intro u w6 hw
  rcases zba hw with ⟨i6,T6,ov6,hr,hi6,rfl,ha,ht⟩ | ⟨x,er,i6,T6,ov6,hr,he,hi6,hm,rfl,ha,ht⟩
  ·have HR3:=Hd (show R=zd6 s.length 10 (L.drop i6,T6) by rw [HR2.out,hr];rfl)
   have H6:=Hd ha
   have P6:=Hd (P5.out.trans ht)
   have HL6:=Hd (zjy hr (by omega) hi6)
   clear ha ht hr hw x0
   by_cases hw:(zak s.length (L.drop i6,T6)).kind=10
   ·have HR4:=Hd (show R=.ok (L.drop (i6+1),T6) by rw [HR3.out];unfold zd6;rw [if_neg (fun h=>h hw),zaz])
    go_wp2_with fail
    refine (zez _ H6.out (by omega) (by decide) hw).mono ?_
    rintro u w7 ⟨rfl,hi7,ha,ht⟩
    have H7:=Hd ha
    have P7:=Hd (P6.out.trans ht)
    clear ha ht hw
    go_wp2
    refine bE ?_
    exact zbl HR4.out hi7 H7.out P7.out
   have HR4:=Hd (show R=.error ((zak s.length (L.drop i6,T6)).at_,4) by rw [HR3.out];unfold zd6;rw [if_pos hw])
   go_wp2_with fail
   refine (zim _ H6.out (by omega) hw).mono ?_
   rintro u w7 ⟨rfl,ha,ht⟩
   have H7:=Hd ha
   have P7:=Hd (P6.out.trans ht)
   clear ha ht hw
   go_wp2
   refine bE ?_
   exact za3 HR4.out (by decide) (by omega) (by have:=HL6.out;omega) H7.out P7.out
  have HR3:=Hd (show R=.error (x,er) by rw [HR2.out,hr];rfl)
  have H6:=Hd ha
  have P6:=Hd (P5.out.trans ht)
  clear ha ht hr hw x0
  go_wp2_with fail
  refine (zkw _ H6.out he (by decide) (by omega) hi6).mono ?_
  rintro u w7 ⟨rfl,⟨i7,hi7,ha⟩,ht⟩
  have H7:=Hd ha
  have P7:=Hd (P6.out.trans ht)
  clear ha ht
  go_wp2
  refine bE ?_
  exact za3 HR3.out he hi7 (by omega) H7.out P7.out
 by_cases hk7:t.kind=7
 ·have hil:i<L.length:=HHL.out (by omega)
  have HR2:=Hd (show R=parS s.length f (.call t) (L.drop i,T) by rw [HR.out,if_neg hk1,if_neg hk2,if_neg hk3,if_neg hk4,if_neg hk5,if_neg hk9,if_pos hk7])
  have HC:=Hd (HCL.out t p ov i T a W5 H5.out.1 hil (HHE.out (by omega)) hk7 hn (by omega) (by omega))
  rw [← HR2.out] at HC
  have HX:=Hd (fun u W' (h:zki p s L W5 ov a (T.length+(L.length-i)+f) R u W')=>(show u=.returned (.tuple #[])∧zki p s L W ov a (T.length+(L.length-i)+(f+1)) R u W' from ⟨h.1,by
   rcases zba h with ⟨i6,T6,ov6,hr,hi6,rfl,ha,ht⟩ | ⟨x,er,i6,T6,ov6,hr,he,hi6,hm,rfl,ha,ht⟩
   ·exact zbl hr hi6 ha (P5.out.trans ht)
   exact za3 hr he hi6 (by omega) ha (P5.out.trans ht)⟩))
  have b1:(t.kind==1)=false:=by simp only [beq_eq_false_iff_ne,ne_eq];omega
  have b2:(t.kind==2)=false:=by simp only [beq_eq_false_iff_ne,ne_eq];omega
  have b3:(t.kind==3)=false:=by simp only [beq_eq_false_iff_ne,ne_eq];omega
  have b4:(t.kind==4)=false:=by simp only [beq_eq_false_iff_ne,ne_eq];omega
  have b5:(t.kind==5)=false:=by simp only [beq_eq_false_iff_ne,ne_eq];omega
  have b9:(t.kind==9)=false:=by simp only [beq_eq_false_iff_ne,ne_eq];omega
  have b7:(t.kind==7)=true:=by simp only [beq_iff_eq];omega
  clear HR HHL HHE hk7
  rw [show (cTok t).toArray=#[.int .u8 t.kind,.int .i64 t.num,str t.text,.int .i64 t.rect.c1,.int .i64 t.rect.r1,.int .i64 t.rect.c2,.int .i64 t.rect.r2,.int .i64 t.at_] from rfl] at HC
  have x1:W5.cell? ⟨g,1,none⟩=some (.int .i64 t.num):=KG.out.cell 1
  have x2:W5.cell? ⟨g,2,none⟩=some (str t.text):=KG.out.cell 2
  have x3:W5.cell? ⟨g,3,none⟩=some (.int .i64 t.rect.c1):=KG.out.cell 3
  have x4:W5.cell? ⟨g,4,none⟩=some (.int .i64 t.rect.r1):=KG.out.cell 4
  have x5:W5.cell? ⟨g,5,none⟩=some (.int .i64 t.rect.c2):=KG.out.cell 5
  have x6:W5.cell? ⟨g,6,none⟩=some (.int .i64 t.rect.r2):=KG.out.cell 6
  have x7:W5.cell? ⟨g,7,none⟩=some (.int .i64 t.at_):=KG.out.cell 7
  go_wp2_with fail
  refine HC.out.mono ?_
  intro u w6 hw
  have HW:=Hd (HX.out u w6 hw)
  obtain rfl:=HW.out.1
  clear hw x0 x1 x2 x3 x4 x5 x6 x7
  go_wp2
  refine bE ?_
  exact HW.out.2
 have HR2:=Hd (show R=.error (t.at_,4) by rw [HR.out,if_neg hk1,if_neg hk2,if_neg hk3,if_neg hk4,if_neg hk5,if_neg hk9,if_neg hk7])
 have x7:W5.cell? ⟨g,7,none⟩=some (.int .i64 t.at_):=KG.out.cell 7
 have b1:(t.kind==1)=false:=by simp only [beq_eq_false_iff_ne,ne_eq];omega
 have b2:(t.kind==2)=false:=by simp only [beq_eq_false_iff_ne,ne_eq];omega
 have b3:(t.kind==3)=false:=by simp only [beq_eq_false_iff_ne,ne_eq];omega
 have b4:(t.kind==4)=false:=by simp only [beq_eq_false_iff_ne,ne_eq];omega
 have b5:(t.kind==5)=false:=by simp only [beq_eq_false_iff_ne,ne_eq];omega
 have b9:(t.kind==9)=false:=by simp only [beq_eq_false_iff_ne,ne_eq];omega
 have b7:(t.kind==7)=false:=by simp only [beq_eq_false_iff_ne,ne_eq];omega
 clear HR HHL HHE
 go_wp2_with fail
 refine (zbp p s L ov (i+1) T a t.at_ 4 _ H5.out.1).mono ?_
 rintro u w6 ⟨rfl,ha,ht⟩
 have H6:=Hd ha
 have P6:=Hd (P5.out.trans ht)
 clear ha ht x0 x7
 go_wp2
 refine bE ?_
 exact za3 HR2.out (by decide) (by omega) (by omega) H6.out P6.out
theorem ztp {fn i:Int} (h:(zb9 fn i).2≠0):(zb9 fn i).1=false:=by
 unfold zb9 at h ⊢
 repeat' split at h
 all_goals simp_all
theorem rp_arg (s:zaa) (L:List Tok) (hL:L.length≤1000) (f fn n:Nat) (h1:1≤fn) (h2:fn≤50) (hn2:n≤2000) (hl:RunR 261 (lev1 1) s L f (.level 1)):RunR 363 (arg1 fn n) s L (f+1) (.arg fn n):=by
 intro p ov i T a W h hi hn hf hf5
 have HLV:Hid (RunR 261 (fun p=>#[.pointer (some ⟨p,0,none⟩),.int .i64 1]) s L f (.level 1)):=Hd hl
 have HH:=Hd h
 simp only [zbd] at hf
 have HWI:Hid (∀W:World,Calls prog 352 #[.int .u8 fn,.int .i64 n] W fun u W'=>u=.returned (.bool (zb9 fn n).1)∧W=W'):=Hd (fun W=>zqz fn n h1 h2 hn2 W)
 obtain ⟨t,ht0⟩:∃t,zak s.length (L.drop i,T)=t:=⟨_,rfl⟩
 have HR:Hid (parS s.length (f+1) (.arg fn n) (L.drop i,T)=if t.kind≠6 then parS s.length f (.level 1) (L.drop i,T)
  else if (zb9 fn n).1=false∨(zb9 fn n).2≠0 then .error (t.at_,4)
  else .ok (putS { nod0 3 with rect:=t.rect } (zan (L.drop i,T)))):=Hd (by rw [← ht0];rfl)
 generalize parS s.length (f+1) (.arg fn n) (L.drop i,T)=R at HR ⊢
 have HWT:=Hd (@ztp fn n)
 generalize zb9 fn n=wd at HWI HR HWT
 obtain ⟨wb,we⟩:=wd
 have HHL:Hid (t.kind≠0→i<L.length):=Hd (ht0▸zfk)
 have hi0:(0:Int)≤(i:Int):=Int.natCast_nonneg _
 have hi9:(i:Int)≤1000:=by omega
 have HG0:=Hd (show ∀q,W.heap.size≤q→ov.ownBlock≠some q from fun q hq e=>by have:=h.ow.lt _ e;omega)
 have HPL:=Hd h.lt
 clear hl h
 unfold arg1
 go_enter func363,ntmps363
 go_wp2_with fail
 refine (zcl p s L ov i T a 0 _ HH.out (by omega)).mono ?_
 rintro u w1 ⟨rfl,hb1⟩
 rw [ht0]
 clear ht0
 have KT1:=Hd (Blk.new w1 239 (cTok t).toArray)
 have HB1:=Hd (show Below W.heap.size W (w1.alloc (.cells (cTok t).toArray 239)) from hb1.alloc hb1.size _)
 have HS1:=Hd hb1.size
 clear hb1
 obtain ⟨V1,hV1⟩:∃V,w1.alloc (.cells (cTok t).toArray 239)=V:=⟨_,rfl⟩
 rw [hV1] at KT1 HB1
 have HH1:=Hd (HH.out.below HB1.out)
 have P1:=Hd (PTo.below (PTo.refl p W ov) HB1.out)
 rw [show (cTok t).toArray=#[.int .u8 t.kind,.int .i64 t.num,str t.text,.int .i64 t.rect.c1,.int .i64 t.rect.r1,.int .i64 t.rect.c2,.int .i64 t.rect.r2,.int .i64 t.at_] from rfl] at hV1 ⊢
 obtain ⟨g,hg⟩:∃g,g=w1.heap.size:=⟨_,rfl⟩
 rw [← hg] at KT1 HS1
 have HGO:=Hd (HG0.out g HS1.out)
 have HGP:=Hd (show g≠p by have:=HPL.out;have:=HS1.out;omega)
 go_upto_region 1 with (fail)
 rw [← hg]
 clear hV1 hg
 have x0:V1.cell? ⟨g,0,none⟩=some (.int .u8 t.kind):=KT1.out.cell 0
 have x7:V1.cell? ⟨g,7,none⟩=some (.int .i64 t.at_):=KT1.out.cell 7
 have hT:T.length≤2000:=by omega
 by_cases h6:t.kind=6
 rotate_left
 ·have b6:(t.kind != 6)=true:=by simpa using h6
  have HR1:=Hd (HR.out.trans (if_pos h6))
  have HC:=Hd (HLV.out p ov i T a V1 HH1.out hi hn (by simp only [zbd];omega) (by omega))
  rw [← HR1.out] at HC
  have HX:=Hd (fun u W' (h:zki p s L V1 ov a (T.length+(L.length-i)+f) R u W')=>(show u=.returned (.tuple #[])∧zki p s L W ov a (T.length+(L.length-i)+(f+1)) R u W' from ⟨h.1,by
   rcases zba h with ⟨i6,T6,ov6,hr,hi6,rfl,ha,ht⟩ | ⟨x,er,i6,T6,ov6,hr,he,hi6,hm,rfl,ha,ht⟩
   ·exact zbl hr hi6 ha (P1.out.trans ht)
   exact za3 hr he hi6 (by omega) ha (P1.out.trans ht)⟩))
  clear h6 HR HHL
  go_wp2_with fail
  refine HC.out.mono ?_
  intro u w6 hw
  have HW:=Hd (HX.out u w6 hw)
  obtain rfl:=HW.out.1
  clear hw x0 x7
  go_wp2
  refine bR ?_
  exact HW.out.2
 have b6:(t.kind != 6)=false:=by simpa using h6
 have hil:i<L.length:=HHL.out (by omega)
 have HR1:=Hd (HR.out.trans (if_neg (by simpa using h6)))
 have HIL:=Hd (show i+1≤L.length from hil)
 clear h6 HR HHL
 go_wp2_with fail
 refine (HWI.out _).mono ?_
 rintro u w2 ⟨rfl,rfl⟩
 dsimp only
 cases wb with
 | false=>
  have HR2:=Hd (show R=.error (t.at_,4) by rw [HR1.out,if_pos (.inl rfl)])
  go_wp2_with fail
  refine (zbp p s L ov i T a t.at_ 4 _ HH1.out).mono ?_
  rintro u w6 ⟨rfl,ha,ht⟩
  have H6:=Hd ha
  have P6:=Hd (P1.out.trans ht)
  clear ha ht x0 x7
  go_wp2
  refine bR ?_
  exact za3 HR2.out (by decide) (by omega) (by omega) H6.out P6.out
 | true=>
  have HR2:=Hd (show R=.ok (L.drop (i+1),T++ [{ nod0 3 with rect:=t.rect }]) by
   rw [HR1.out,if_neg (by rintro (h | h);exact absurd h (by decide);exact absurd (HWT.out h) (by decide)),zaz];rfl)
  have H5:=Hd HH1.out.step
  have P5:=Hd (P1.out.trans H5.out.2)
  have KG:=Hd (show Blk (V1.setCell ⟨p,2,none⟩ (.int .i64 ((i:Int)+1))) g 239 #[.int .u8 t.kind,.int .i64 t.num,str t.text,.int .i64 t.rect.c1,.int .i64 t.rect.r1,.int .i64 t.rect.c2,.int .i64 t.rect.r2,.int .i64 t.at_] from Blk.far (p:=⟨p,2,none⟩) KT1.out HGP.out _)
  obtain ⟨_,_, -, -,c2, -, -, -,cf, -,dl⟩:=HH1.out.cells
  go_upto_region 6 with (fail)
  obtain ⟨W5,hW5⟩:∃V,V1.setCell ⟨p,2,none⟩ (.int .i64 ((i:Int)+1))=V:=⟨_,rfl⟩
  rw [hW5] at H5 P5 KG ⊢
  clear hW5 c2 cf dl x0 x7
  obtain ⟨lv,hbx, -⟩:=H5.out.1.bx
  obtain ⟨it,ti0,ti1,ti2,ti3⟩:=zdz
  have HNP:=Hd (show (ov).ownBlock≠some p from H5.out.1.ne)
  have HNG:=Hd (show (ov).ownBlock≠some g from HGO.out)
  have Q0:=Hd hbx.drew
  have Q1:=Hd (hbx.drew.alloc (.cells (cNod { nod0 3 with rect:=t.rect }).toArray 297))
  have KG0:=Hd (show Blk W5.drew g 239 #[.int .u8 t.kind,.int .i64 t.num,str t.text,.int .i64 t.rect.c1,.int .i64 t.rect.r1,.int .i64 t.rect.c2,.int .i64 t.rect.r2,.int .i64 t.at_] from KG.out.drew)
  have KG1:=Hd (show Blk (W5.drew.alloc (.cells (cNod { nod0 3 with rect:=t.rect }).toArray 297)) g 239 #[.int .u8 t.kind,.int .i64 t.num,str t.text,.int .i64 t.rect.c1,.int .i64 t.rect.r1,.int .i64 t.rect.c2,.int .i64 t.rect.r2,.int .i64 t.at_] from KG.out.drew.alloc _)
  have KN1:=Hd (show Blk (W5.drew.alloc (.cells (cNod { nod0 3 with rect:=t.rect }).toArray 297)) W5.heap.size 297 (cNod { nod0 3 with rect:=t.rect }).toArray from Blk.new W5.drew _ _)
  have HO1:=Hd (H5.out.1.ow.drew.alloc (.cells (cNod { nod0 3 with rect:=t.rect }).toArray 297))
  have HW1:=Hd (show Below W5.heap.size W5 (W5.drew.alloc (.cells (cNod { nod0 3 with rect:=t.rect }).toArray 297)) by go_grown)
  clear hbx
  go_wp2_with fail
  refine wp_region_noPanic ?_
  refine za8 (fun W'=>Blk W' p 272 #[str s,lv,.int .i64 ((i:Int)+1),ov,.int .i64 a,.int .i64 0]∧Blk W' g 239 #[.int .u8 t.kind,.int .i64 t.num,str t.text,.int .i64 t.rect.c1,.int .i64 t.rect.r1,.int .i64 t.rect.c2,.int .i64 t.rect.r2,.int .i64 t.at_]) 12 (by kernel_rfl) ?_
  have hHeld:(fun W'=>Blk W' p 272 #[str s,lv,.int .i64 ((i:Int)+1),ov,.int .i64 a,.int .i64 0]∧Blk W' g 239 #[.int .u8 t.kind,.int .i64 t.num,str t.text,.int .i64 t.rect.c1,.int .i64 t.rect.r1,.int .i64 t.rect.c2,.int .i64 t.rect.r2,.int .i64 t.at_]) _:=⟨Q0.out,KG0.out⟩
  refine tU 0 ⟨some 29,.move (.tmp 0),_,_,_,none⟩ (.pointer (some ⟨p,0,none⟩)) rfl (fun _=>hHeld) ?_
  try go_frame
  refine tU 1 ⟨some 30,.move (.tmp 0),_,_,_,none⟩ (.pointer (some ⟨p,0,none⟩)) rfl (fun _=>hHeld) ?_
  try go_frame
  refine tU 2 ⟨some 31,.nilCheck (.tmp 30),_,_,_,none⟩ (.pointer (some ⟨p,0,none⟩)) rfl (fun _=>hHeld) ?_
  try go_frame
  refine tU 3 ⟨some 32,.fieldAddr 272 (.tmp 31) 3,_,_,_,none⟩ (.pointer (some ⟨p,3,none⟩)) rfl (fun _=>hHeld) ?_
  try go_frame
  refine tV 4 ⟨some 33,.load 190 (.tmp 32),190,_,_,none⟩ ov rfl hHeld (Or.inl ⟨by rfl,by intro W hW;have hc:W.cell? ⟨p,3,none⟩=some (ov):=hW.1.cell 3;go_simp⟩) ?_
  try go_frame
  refine tU 5 ⟨some 34,.fieldAddr 239 (.tmp 6) 3,_,_,_,none⟩ (.pointer (some ⟨g,3,none⟩)) rfl (fun _=>hHeld) ?_
  try go_frame
  refine tV 6 ⟨some 35,.load 43 (.tmp 34),43,_,_,none⟩ (.agg _) rfl hHeld (yieldsIf_load_mid rfl _ _ rfl (g) (3) rfl _ _ (fun W' h=>h.2.range (l:=cRct t.rect) (o:=3) (by intro j v hj;rcases j with _ | _ | _ | _ | j <;> first | exact hj | (simp [cRct] at hj))) rfl rfl (by kernel_rfl)) ?_
  try go_frame
  refine tU 7 ⟨some 36,.build 297 #[(0,.const (.int .u8 3)),(2,.tmp 35)],_,_,_,none⟩ (.agg #[.int .u8 3,.int .u8 0,.int .i64 0,str [],.int .i64 t.rect.c1,.int .i64 t.rect.r1,.int .i64 t.rect.c2,.int .i64 t.rect.r2,.int .i64 0,.int .u8 0,.int .i64 0]) rfl (fun _=>hHeld) ?_
  try go_frame
  refine zai 8 (o:=⟨some 37,.buildSlice 190 1 #[(0,.tmp 36)],190,_,_,none⟩) (by kernel_rfl) rfl rfl (fun K hK=>?_)
  go_simp
  refine hK.out _ _ (fun _=>⟨Q1.out,KG1.out⟩) ?_
  have hHeld:(fun W'=>Blk W' p 272 #[str s,lv,.int .i64 ((i:Int)+1),ov,.int .i64 a,.int .i64 0]∧Blk W' g 239 #[.int .u8 t.kind,.int .i64 t.num,str t.text,.int .i64 t.rect.c1,.int .i64 t.rect.r1,.int .i64 t.rect.c2,.int .i64 t.rect.r2,.int .i64 t.at_]) _:=⟨Q1.out,KG1.out⟩
  clear hK K
  try go_frame
  refine zai 9 (o:=⟨some 38,.call { callee:=.builtin .append,args:=#[.tmp 33,.tmp 37],argTypes:=#[190,190] },_,_,_,none⟩) (by kernel_rfl) rfl rfl (fun K hK=>?_)
  obtain ⟨r9,w9,hr9,o9,t9⟩:=zdh (P:=prog) _ cNod 190 190 297 it _ 11 96 underlying190 ti0 ti1 ti2 ti3 rfl (by omega) (ov) T HO1.out _ _ [{ nod0 3 with rect:=t.rect }] (Sls.one (x:={ nod0 3 with rect:=t.rect }) KN1.out rfl) zbq zd0 (by simp;omega) (by omega)
  obtain ⟨A9,c9,hv9, -⟩:=zeg o9
  obtain ⟨m9,hm9⟩:∃m,(T++ [{ nod0 3 with rect:=t.rect }]).length=m:=⟨_,rfl⟩
  rw [hm9] at hv9
  clear hm9
  subst hv9
  have hB9:=Q1.out.outTo t9 HNP.out
  refine zbk _ _ _ _ rfl _ _ _ _ rfl rfl hr9 ?_
  refine hK.out _ _ (fun _=>⟨hB9,KG1.out.outTo t9 HNG.out⟩) ?_
  have hHeld:(fun W'=>Blk W' p 272 #[str s,lv,.int .i64 ((i:Int)+1),ov,.int .i64 a,.int .i64 0]∧Blk W' g 239 #[.int .u8 t.kind,.int .i64 t.num,str t.text,.int .i64 t.rect.c1,.int .i64 t.rect.r1,.int .i64 t.rect.c2,.int .i64 t.rect.r2,.int .i64 t.at_]) _:=⟨hB9,KG1.out.outTo t9 HNG.out⟩
  clear hK K
  try go_frame
  refine tU 10 ⟨some 39,.nilCheck (.tmp 29),_,_,_,none⟩ (.pointer (some ⟨p,0,none⟩)) rfl (fun _=>hHeld) ?_
  try go_frame
  refine tU 11 ⟨some 40,.fieldAddr 272 (.tmp 39) 3,_,_,_,none⟩ (.pointer (some ⟨p,3,none⟩)) rfl (fun _=>hHeld) ?_
  try go_frame
  refine zai 12 (o:=⟨none,.store 190 (.tmp 40) (.tmp 38),0,_,_,none⟩) (by kernel_rfl) rfl rfl (fun K hK=>?_)
  have kc:w9.cell? ⟨p,3,none⟩=some (ov):=hB9.cell 3
  have kf:=hB9.frozen
  go_simp
  refine hK.out _ _ (fun h=>absurd h (by decide)) ?_
  clear hK K
  try go_frame
  refine za9 (by kernel_rfl) ?_
  refine NoPanic.normal ?_
  have HF:=Hd (H5.out.1.putAt HW1.out o9 t9)
  clear hHeld hB9 o9 t9 hr9
  go_wp2
  refine bE ?_
  exact zbl HR2.out HIL.out HF.out.1 (P5.out.trans HF.out.2)
def rowN:Array Value:=(([]::zbh).map str).toArray
def zfr (k:Nat):zaa:=zbh.getD (k-1) []
theorem zx6:∀k:Fin 50,rowN[k.val+1]?=some (str (zfr (k.val+1))):=by
 intro k
 have h:([]::zbh)[k.val+1]?=some (zfr (k.val+1)):=by
  have:∀k:Fin 50,([]::zbh)[k.val+1]?=some (zfr (k.val+1)):=by decide
  exact this k
 unfold rowN
 rw [List.getElem?_toArray,List.getElem?_map,h]
 rfl
theorem zrz:∀k:Fin 50,fnOf (zfr (k.val+1))=k.val+1:=by decide
theorem zve (s:zaa) (h:fnOf s≠0):zfr (fnOf s)=s∧1≤fnOf s∧fnOf s≤50:=by
 unfold fnOf at h ⊢
 split at h
 ·rename_i hc
  rw [if_pos hc]
  have hm:s∈zbh:=by simpa using hc
  have hlt:zbh.idxOf s<zbh.length:=List.idxOf_lt_length_of_mem hm
  have hlen:zbh.length=50:=rfl
  refine ⟨?_,by omega,by omega⟩
  unfold zfr
  rw [Nat.add_sub_cancel,List.getD_eq_getElem?_getD,List.getElem?_eq_getElem hlt,List.getElem_idxOf]
  rfl
 exact absurd rfl h
theorem zq4 (k:Nat) (h1:1≤k) (h2:k≤50) (W:World):Calls prog 336 #[.int .u8 k] W fun u W'=>u=.returned (str (zfr k))∧Below W.heap.size W W':=by
 obtain ⟨ie,hi0,hi1,hi2,hi3⟩:=info_parts (show (prog.info? 9).map (fun i=>(i.zero,i.size,i.bytes))=some (some (.string ⟨#[]⟩),1,16) by kernel_rfl)
 have hr:=zx6 ⟨k-1,by omega⟩
 simp only [show k-1+1=k by omega] at hr
 obtain ⟨x,hx⟩:∃x,zfr k=x:=⟨_,rfl⟩
 rw [hx] at hr ⊢
 clear hx
 have KB:=Hd (Blk.new W 9 rowN)
 have HR:=Hd hr
 have HB:=Hd (show Below W.heap.size W (W.alloc (.cells rowN 9)) by go_grown)
 clear hr
 have k0:(0:Int)≤(k:Int):=by omega
 have k1:(k:Int)<51:=by omega
 go_enter func336,ntmps336
 go_upto_region 1 with (fail)
 apply wp_region_lit
 refine wpList_buildSlice rfl 289 9 51 _ rfl rowN ie _ underlying289 hi0 hi1 (by rw [hi2];decide) (by rw [hi2];decide) (by rw [hi2];kernel_rfl) ?_
 obtain ⟨V,hV⟩:∃V,W.alloc (.cells rowN 9)=V:=⟨_,rfl⟩
 have kc:(W.alloc (.cells rowN 9)).cell? ⟨W.heap.size,k,none⟩=some (str x):=(KB.out.cell k).trans HR.out
 rw [hV] at kc HB ⊢
 clear hV
 go_wp2
 go_ret
 exact ⟨rfl,HB.out⟩
theorem zl8 (s:zaa) (W:World):Calls prog 362 #[str s] W fun u W'=>u=.returned (.tuple #[.int .u8 (fnOf s),.int .i64 (if fnOf s=0 then 6 else 0)])∧Below W.heap.size W W':=by
 obtain ⟨q,hq⟩:∃q:Int,(if fnOf s=0 then (6:Int) else 0)=q:=⟨_,rfl⟩
 rw [hq]
 have HQ:=Hd hq
 have HN:=Hd (zve s)
 obtain ⟨z,hz⟩:∃z,fnOf s=z:=⟨_,rfl⟩
 rw [hz]
 have HZ:=Hd hz
 clear hq hz
 go_enter func362,ntmps362
 go_wp2
 go_loopw [4] (fun v wr=>∃k:Nat,1≤k∧k≤51∧v=.int .u8 k∧(∀j,1≤j→j<k→zfr j≠s)∧Below W.heap.size W wr) (fun v _=>51-(intOf v).toNat)
 case atStart=>exact ⟨1,by omega,by omega,rfl,fun j h1 h2=>by omega,Below.refl _ _⟩
 obtain ⟨k,hk1,hk2,rfl,hz,hbw⟩:=hrel
 have HB:=Hd hbw
 have HJ:=Hd hz
 clear hz hbw
 have k0:(0:Int)≤(k:Int):=by omega
 by_cases hlt:k≤50
 rotate_left
 ·have hlt':¬(k:Int)≤50:=by omega
  have HE:=Hd (show z=0 by
   rw [← HZ.out]
   by_cases h0:fnOf s=0
   ·exact h0
   obtain ⟨a,b,c⟩:=HN.out h0
   exact absurd a (HJ.out _ b (by omega)))
  have HE2:=Hd (show q=6 by rw [← HQ.out,if_pos (by rw [HZ.out,HE.out])])
  go_wp2
  go_ret2
  exact ⟨by rw [HE.out,HE2.out];rfl,HB.out⟩
 have hlt':(k:Int)≤50:=by omega
 go_wp2_with fail
 refine (zq4 k hk1 hlt _).mono ?_
 rintro u w1 ⟨rfl,hb1⟩
 have HB1:=Hd (Below.next HB.out hb1 HB.out.size)
 have HI:=Hd (zrz ⟨k-1,by omega⟩)
 clear hb1
 obtain ⟨x,hx⟩:∃x,zfr k=x:=⟨_,rfl⟩
 rw [hx]
 have HX:=Hd hx
 clear hx
 by_cases hs:x=s
 ·have be:(x==s)=true:=by simpa using hs
  have HE:=Hd (show z=k by
   have:=HI.out
   simp only [show k-1+1=k by omega] at this
   rw [HX.out,hs] at this
   rw [← HZ.out,this])
  have HE2:=Hd (show q=0 by rw [← HQ.out,if_neg (by rw [HZ.out,HE.out];omega)])
  clear hs
  go_wp2
  go_ret2
  exact ⟨by rw [HE.out,HE2.out];rfl,HB1.out⟩
 have be:(x==s)=false:=by simpa using hs
 have HJ2:=Hd (show ∀j,1≤j→j<k+1→zfr j≠s from fun j h1 h2=>by
  rcases Nat.lt_or_ge j k with c | c
  ·exact HJ.out j h1 c
  obtain rfl:j=k:=by omega
  rw [HX.out]
  exact hs)
 clear hs
 go_wp2
 exact ⟨⟨k+1,by omega,by omega,by go_num,HJ2.out,HB1.out⟩,by simp [intOf];omega⟩
end Go.Proofs.YtamcgggmfghljaaGreatDoor
