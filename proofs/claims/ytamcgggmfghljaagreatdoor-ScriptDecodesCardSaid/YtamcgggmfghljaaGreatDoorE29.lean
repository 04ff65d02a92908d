/- walk -/
import Derived.Test.YtamcgggmfghljaaGreatDoorE18
import Derived.Test.YtamcgggmfghljaaGreatDoorE22
set_option maxRecDepth 100000
set_option maxHeartbeats 8000000
open Go.Proofs.Tryz
namespace Go.Proofs.YtamcgggmfghljaaGreatDoor
open Go.RowKit
variable {u:Ending} {e:Int} {B cap j k n:Nat} {y:Nod} {α:Type} {sv:Value} {w w':World}
theorem z1s {x:zaa} (h:txtE x=0):txtR x=0:=by
 obtain ⟨h1,h2⟩:=zha h;unfold txtR;rw[jS,jb h2]
theorem zsi (v:Int) (w:World) (h:0<=v):
 Calls prog 350 #[.agg #[.int .u8 1,.int .i64 v,str []]] w λu w'=>u=.returned (.bool true)/\Below w w w':=by
 have g1:(0:Int)<=v:=h;have K:=Hd (je w 189 #[.int .u8 1,.int .i64 v,str []]);have HC:=Hd (λw=>(by exact zy2 v w h:Calls prog 346 #[.agg #[.int .u8 1,.int .i64 v,str []]] w λu w'=>u=.returned (.int .i64 0)/\Below w w w'));go_enter func350,ntmps350;go_wp2_with fail;refine (HC.o _).mono ?_;rintro u w1 ⟨rfl,hb1⟩;have HB:=jM (Below w w w1) (nxt hb1);have K1:=Hd (K.o.below_ hb1);obtain ⟨x0,x1⟩:=K1.o.c2 0 1;clear hb1;go_wp2;go_ret;exact ⟨rfl,HB.o⟩
theorem zo8 (x:zaa) (w:World) (h:txtE x=0):
 Calls prog 350 #[.agg #[.int .u8 3,.int .i64 0,str x]] w λu w'=>u=.returned (.bool true)/\Below w w w':=by
 have K:=Hd (je w 189 #[.int .u8 3,.int .i64 0,str x]);have HC:=Hd (λw=>(by exact zvi x w (z1s h) (by have:=(zha h).1;omega):Calls prog 346 #[.agg #[.int .u8 3,.int .i64 0,str x]] w λu w'=>u=.returned (.int .i64 0)/\Below w w w'));go_enter func350,ntmps350;go_wp2_with fail;refine (HC.o _).mono ?_;rintro u w1 ⟨rfl,hb1⟩;have HB:=jM (Below w w w1) (nxt hb1);have K1:=Hd (K.o.below_ hb1);obtain ⟨x0,x1⟩:=K1.o.c2 0 1;clear hb1;go_wp2;go_ret;exact ⟨rfl,HB.o⟩
theorem znf (w:World):
 Calls prog 350 #[.agg #[.int .u8 2,.int .i64 0,str []]] w λu w'=>u=.returned (.bool true)/\Below w w w':=by
 have K:=Hd (je w 189 #[.int .u8 2,.int .i64 0,str []]);have HC:=Hd (λw=>(by exact zs0 w:Calls prog 346 #[.agg #[.int .u8 2,.int .i64 0,str []]] w λu w'=>u=.returned (.int .i64 0)/\Below w w w'));go_enter func350,ntmps350;go_wp2_with fail;refine (HC.o _).mono ?_;rintro u w1 ⟨rfl,hb1⟩;have HB:=jM (Below w w w1) (nxt hb1);have K1:=Hd (K.o.below_ hb1);obtain ⟨x0,x1⟩:=K1.o.c2 0 1;clear hb1;go_wp2;go_ret;exact ⟨rfl,HB.o⟩
theorem zne (w:World):
 Calls prog 350 #[.agg #[.int .u8 2,.int .i64 1,str []]] w λu w'=>u=.returned (.bool true)/\Below w w w':=by
 have K:=Hd (je w 189 #[.int .u8 2,.int .i64 1,str []]);have HC:=Hd (λw=>(by exact zsz w:Calls prog 346 #[.agg #[.int .u8 2,.int .i64 1,str []]] w λu w'=>u=.returned (.int .i64 0)/\Below w w w'));go_enter func350,ntmps350;go_wp2_with fail;refine (HC.o _).mono ?_;rintro u w1 ⟨rfl,hb1⟩;have HB:=jM (Below w w w1) (nxt hb1);have K1:=Hd (K.o.below_ hb1);obtain ⟨x0,x1⟩:=K1.o.c2 0 1;clear hb1;go_wp2;go_ret;exact ⟨rfl,HB.o⟩
theorem zsj (v:Int) (w:World) (h1:1<=v) (h2:v<=5):
 Calls prog 350 #[.agg #[.int .u8 4,.int .i64 v,str []]] w λu w'=>u=.returned (.bool true)/\Below w w w':=by
 have g1:(v != 6)=true:=by simp only[bne_iff_ne,ne_eq];omega
 have K:=Hd (je w 189 #[.int .u8 4,.int .i64 v,str []]);have HC:=Hd (λw=>(by exact zqu v w h1 (by omega):Calls prog 346 #[.agg #[.int .u8 4,.int .i64 v,str []]] w λu w'=>u=.returned (.int .i64 0)/\Below w w w'));go_enter func350,ntmps350;go_wp2_with fail;refine (HC.o _).mono ?_;rintro u w1 ⟨rfl,hb1⟩;have HB:=jM (Below w w w1) (nxt hb1);have K1:=Hd (K.o.below_ hb1);obtain ⟨x0,x1⟩:=K1.o.c2 0 1;clear hb1;go_wp2;go_ret;exact ⟨rfl,HB.o⟩
theorem zlv (v:Int) (w:World) (h:0<=v):
 Calls prog 335 #[.agg (aV 1 v)] w λu w'=>u=.returned (.bool true)/\Below w w w':=by
 have he:∀W,(binOp .eql 297 (.agg (aV 1 v)) (.agg (aV 1 v))).run prog W=.ok (.bool true) W:=by intro W;simp[go_sem]
 have HC:=Hd (λw=>zsi v w h);go_enter func335,ntmps335;go_wp2_with fail;refine (HC.o _).mono ?_;rintro u w1 ⟨rfl,hb1⟩;have HB:=jM (Below w w w1) (nxt hb1);clear hb1;go_wp2;go_ret;exact ⟨rfl,HB.o⟩
theorem zkd (x:zaa) (w:World) (h:txtE x=0):
 Calls prog 335 #[.agg (aX x)] w λu w'=>u=.returned (.bool true)/\Below w w w':=by
 have he:∀W,(binOp .eql 297 (.agg (aX x)) (.agg (aX x))).run prog W=.ok (.bool true) W:=by intro W;simp[go_sem]
 have HC:=Hd (λw=>zo8 x w h);go_enter func335,ntmps335;go_wp2_with fail;refine (HC.o _).mono ?_;rintro u w1 ⟨rfl,hb1⟩;have HB:=jM (Below w w w1) (nxt hb1);clear hb1;go_wp2;go_ret;exact ⟨rfl,HB.o⟩
theorem zje (w:World):
 Calls prog 335 #[.agg (aV 2 0)] w λu w'=>u=.returned (.bool true)/\Below w w w':=by
 have he:∀W,(binOp .eql 297 (.agg (aV 2 0)) (.agg (aV 2 0))).run prog W=.ok (.bool true) W:=by intro W;simp[go_sem]
 have HC:=Hd (λw=>znf w);go_enter func335,ntmps335;go_wp2_with fail;refine (HC.o _).mono ?_;rintro u w1 ⟨rfl,hb1⟩;have HB:=jM (Below w w w1) (nxt hb1);clear hb1;go_wp2;go_ret;exact ⟨rfl,HB.o⟩
theorem zjd (w:World):
 Calls prog 335 #[.agg (aV 2 1)] w λu w'=>u=.returned (.bool true)/\Below w w w':=by
 have he:∀W,(binOp .eql 297 (.agg (aV 2 1)) (.agg (aV 2 1))).run prog W=.ok (.bool true) W:=by intro W;simp[go_sem]
 have HC:=Hd (λw=>zne w);go_enter func335,ntmps335;go_wp2_with fail;refine (HC.o _).mono ?_;rintro u w1 ⟨rfl,hb1⟩;have HB:=jM (Below w w w1) (nxt hb1);clear hb1;go_wp2;go_ret;exact ⟨rfl,HB.o⟩
theorem zlx (v:Int) (w:World) (h1:1<=v) (h2:v<=5):
 Calls prog 335 #[.agg (aV 4 v)] w λu w'=>u=.returned (.bool true)/\Below w w w':=by
 have he:∀W,(binOp .eql 297 (.agg (aV 4 v)) (.agg (aV 4 v))).run prog W=.ok (.bool true) W:=by intro W;simp[go_sem]
 have HC:=Hd (λw=>zsj v w h1 h2);go_enter func335,ntmps335;go_wp2_with fail;refine (HC.o _).mono ?_;rintro u w1 ⟨rfl,hb1⟩;have HB:=jM (Below w w w1) (nxt hb1);clear hb1;go_wp2;go_ret;exact ⟨rfl,HB.o⟩
theorem zlw (w:World):
 Calls prog 335 #[.agg (aO 4 0)] w λu w'=>u=.returned (.bool true)/\Below w w w':=by
 have he:∀W,(binOp .eql 297 (.agg (aO 4 0)) (.agg (aO 4 0))).run prog W=.ok (.bool true) W:=by intro W;simp[go_sem]
 go_enter func335,ntmps335;go_wp2;go_ret;exact ⟨rfl,by go_grown⟩
theorem zlu (w:World):
 Calls prog 335 #[.agg (aO 5 0)] w λu w'=>u=.returned (.bool true)/\Below w w w':=by
 have he:∀W,(binOp .eql 297 (.agg (aO 5 0)) (.agg (aO 5 0))).run prog W=.ok (.bool true) W:=by intro W;simp[go_sem]
 go_enter func335,ntmps335;go_wp2;go_ret;exact ⟨rfl,by go_grown⟩
theorem zih (v:Int) (w:World) (h1:1<=v) (h2:v<=12):
 Calls prog 335 #[.agg (aO 6 v)] w λu w'=>u=.returned (.bool true)/\Below w w w':=by
 have he:∀W,(binOp .eql 297 (.agg (aO 6 v)) (.agg (aO 6 v))).run prog W=.ok (.bool true) W:=by intro W;simp[go_sem]
 go_enter func335,ntmps335;go_wp2;go_ret;exact ⟨rfl,by go_grown⟩
theorem zke (fn n:Nat) (w:World):
 Calls prog 335 #[.agg (aF fn n)] w λu w'=>u=.returned (.bool true)/\Below w w w':=by
 have he:∀W,(binOp .eql 297 (.agg (aF fn n)) (.agg (aF fn n))).run prog W=.ok (.bool true) W:=by intro W;simp[go_sem]
 have n0:(0:Int)<=(n:Int):=by omega
 go_enter func335,ntmps335;go_wp2
 go_region
 go_wp2;go_ret;exact ⟨rfl,by go_grown⟩
theorem z01 (r:Rct) (w:World):Calls prog 351 #[.agg r] w λu w'=>u=.returned (.bool (zgs r))/\Below w w w':=by
 have HO:=jM (zgs r=(decide (r.c1=r.c2)&&decide (r.r1=r.r2))) rfl;obtain ⟨q,hq⟩:=jN (zgs r);rw[hq] at HO ⊢;clear hq;by_cases h1:r.c1=r.c2
 ·by_cases h2:r.r1=r.r2
  ·have b1:(r.c1==r.c2)=true:=by simpa using h1
   have b2:(r.r1==r.r2)=true:=by simpa using h2
   have HQ:=jM (true=q) (by rw[HO.o,jB h1,jB h2];rfl);clear h1 h2 HO;go_enter func351,ntmps351;go_wp2;go_ret;exact ⟨congrArg (λz=>Ending.returned (.bool z)) HQ.o,by go_grown⟩
  have b1:(r.c1==r.c2)=true:=by simpa using h1
  have b2:(r.r1==r.r2)=false:=by simpa using h2
  have HQ:=jM (false=q) (by rw[HO.o,jA h2];simp);clear h1 h2 HO;go_enter func351,ntmps351;go_wp2;go_ret;exact ⟨congrArg (λz=>Ending.returned (.bool z)) HQ.o,by go_grown⟩
 have b1:(r.c1==r.c2)=false:=by simpa using h1
 have HQ:=jM (false=q) (by rw[HO.o,jA h1];simp);clear h1 HO;go_enter func351,ntmps351;go_wp2;go_ret;exact ⟨congrArg (λz=>Ending.returned (.bool z)) HQ.o,by go_grown⟩
theorem zlt (r:Rct) (w:World) (h1:rctB r=true) (h2:zgs r=true):
 Calls prog 335 #[.agg (aR 2 r)] w λu w'=>u=.returned (.bool true)/\Below w w w':=by
 have HC:=Hd (λw=>znr r.c1 r.r1 r.c2 r.r2 w);rw[show rctE ⟨r.c1,r.r1,r.c2,r.r2⟩=0 by unfold rctE;rw[show (⟨r.c1,r.r1,r.c2,r.r2⟩:Rct)=r from rfl,h1];rfl] at HC;have HO:=Hd (λw=>z01 r w);rw[h2] at HO;clear h1 h2;have HS:Hid (Blk ((w.alloc (.cells (aR 2 r) 297)).alloc (.cells (aR 2 r) 297)) w.heap.size 297 #[.int .u8 2,.int .u8 0,.int .i64 0,str [],.int .i64 r.c1,.int .i64 r.r1,.int .i64 r.c2,.int .i64 r.r2,.int .i64 0,.int .u8 0,.int .i64 0]/\Blk ((w.alloc (.cells (aR 2 r) 297)).alloc (.cells (aR 2 r) 297)) (w.heap.size+1) 297 #[.int .u8 2,.int .u8 0,.int .i64 0,str [],.int .i64 r.c1,.int .i64 r.r1,.int .i64 r.c2,.int .i64 r.r2,.int .i64 0,.int .u8 0,.int .i64 0]/\Below w w ((w.alloc (.cells (aR 2 r) 297)).alloc (.cells (aR 2 r) 297))):=Hd ⟨(je w _ _).alloc _,by have:=je (w.alloc (.cells (aR 2 r) 297)) 297 #[.int .u8 2,.int .u8 0,.int .i64 0,str [],.int .i64 r.c1,.int .i64 r.r1,.int .i64 r.c2,.int .i64 r.r2,.int .i64 0,.int .u8 0,.int .i64 0];simpa using this,by go_grown⟩;go_enter func335,ntmps335;go_upto_region 9 with (fail)
 refine wp_region_noPanic ?_;refine wp_region_held_drew (S:=λW'=>Blk W' w.heap.size 297 (aR 2 r)/\Blk W' (w.heap.size+1) 297 (aR 2 r)/\Below w w W') (by kernel_rfl) ⟨HS.o.1,HS.o.2.1,HS.o.2.2.drew⟩ (λhHeld=>?_);refine tH 0 (.agg _) hHeld ?_ (hy:=yieldsIf_load_mid rfl _ _ rfl (w.heap.size+1) (0) rfl _ _ (λW' h=>h.2.1.range (l:=[.int .u8 2,.int .u8 0,.int .i64 0,str [],.int .i64 r.c1,.int .i64 r.r1,.int .i64 r.c2,.int .i64 r.r2,.int .i64 0,.int .u8 0,.int .i64 0]) (o:=0) (by intro j v hj;rw[Nat.zero_add];exact List.getElem?_toArray.trans hj)) rfl rfl (by kernel_rfl))
 try go_frame
 refine tH 1 (.agg _) hHeld ?_ (hy:=yieldsIf_load_mid rfl _ _ rfl (w.heap.size) (0) rfl _ _ (λW' h=>h.1.range (l:=[.int .u8 2,.int .u8 0,.int .i64 0,str [],.int .i64 r.c1,.int .i64 r.r1,.int .i64 r.c2,.int .i64 r.r2,.int .i64 0,.int .u8 0,.int .i64 0]) (o:=0) (by intro j v hj;rw[Nat.zero_add];exact List.getElem?_toArray.trans hj)) rfl rfl (by kernel_rfl))
 try go_frame
 refine tH 2 (.bool true) hHeld ?_
 try go_frame
 refine tH 3 (.bool true) hHeld ?_
 try go_frame
 refine tH 4 (.pointer (some ⟨w.heap.size,4,none⟩)) hHeld ?_
 try go_frame
 refine tH 5 (.agg _) hHeld ?_ (hy:=yieldsIf_load_mid rfl _ _ rfl (w.heap.size) (4) rfl _ _ (λW' h=>h.1.range (l:=[.int .i64 r.c1,.int .i64 r.r1,.int .i64 r.c2,.int .i64 r.r2]) (o:=4) (by intro j v hj;rcases j with _ | _ | _ | _ | j <;> first | exact hj | (simp at hj))) rfl rfl (by kernel_rfl))
 try go_frame
 refine tC 6 rfl λK hK=>?_;go_simp;go_at_call 188;refine (HC.o _).mono ?_;rintro u w3 ⟨rfl,hb3⟩;refine hK.out _ _ (⟨hHeld.1.below_ hb3,hHeld.2.1.below_ hb3,jd hHeld.2.2 hb3 hHeld.2.2.size⟩) (λhHeld=>?_);clear hK K
 try go_frame
 refine tH 7 (.bool true) hHeld ?_
 try go_frame
 refine tH 8 (.bool true) hHeld ?_
 try go_frame
 refine tH 9 (.bool true) hHeld ?_
 try go_frame
 refine tH 10 (.pointer (some ⟨w.heap.size,4,none⟩)) hHeld ?_
 try go_frame
 refine tH 11 (.agg _) hHeld ?_ (hy:=yieldsIf_load_mid rfl _ _ rfl (w.heap.size) (4) rfl _ _ (λW' h=>h.1.range (l:=[.int .i64 r.c1,.int .i64 r.r1,.int .i64 r.c2,.int .i64 r.r2]) (o:=4) (by intro j v hj;rcases j with _ | _ | _ | _ | j <;> first | exact hj | (simp at hj))) rfl rfl (by kernel_rfl))
 try go_frame
 refine tH 13 (.pointer (some ⟨w.heap.size,0,none⟩)) hHeld ?_
 try go_frame
 refine tH 14 (.int .u8 2) hHeld ?_ (hy:=Or.inl ⟨by rfl,by intro W hW;have hc:W.cell? ⟨w.heap.size,0,none⟩=some (.int .u8 2):=hW.1.cell 0;go_simp⟩)
 try go_frame
 refine tH 15 (.bool true) hHeld ?_
 try go_frame
 refine tC 12 rfl λK hK=>?_;go_simp;go_at_call 351;refine (HO.o _).mono ?_;rintro u w4 ⟨rfl,hb3⟩;refine hK.out _ _ (⟨hHeld.1.below_ hb3,hHeld.2.1.below_ hb3,jd hHeld.2.2 hb3 hHeld.2.2.size⟩) (λhHeld=>?_);clear hK K
 try go_frame
 refine tH 16 (.bool true) hHeld ?_
 try go_frame
 refine tH 17 (.bool true) hHeld ?_
 try go_frame
 refine tH 18 (.bool true) hHeld ?_
 try go_frame
 refine wpAnyH_done (by kernel_rfl) ?_ _;refine NoPanic.normal ?_;go_wp2;go_ret;exact ⟨rfl,hHeld.2.2⟩
theorem zls (r:Rct) (w:World) (h1:rctB r=true) (h2:zgs r=false):
 Calls prog 335 #[.agg (aR 3 r)] w λu w'=>u=.returned (.bool true)/\Below w w w':=by
 have HC:=Hd (λw=>znr r.c1 r.r1 r.c2 r.r2 w);rw[show rctE ⟨r.c1,r.r1,r.c2,r.r2⟩=0 by unfold rctE;rw[show (⟨r.c1,r.r1,r.c2,r.r2⟩:Rct)=r from rfl,h1];rfl] at HC;have HO:=Hd (λw=>z01 r w);rw[h2] at HO;clear h1 h2;have HS:Hid (Blk ((w.alloc (.cells (aR 3 r) 297)).alloc (.cells (aR 3 r) 297)) w.heap.size 297 #[.int .u8 3,.int .u8 0,.int .i64 0,str [],.int .i64 r.c1,.int .i64 r.r1,.int .i64 r.c2,.int .i64 r.r2,.int .i64 0,.int .u8 0,.int .i64 0]/\Blk ((w.alloc (.cells (aR 3 r) 297)).alloc (.cells (aR 3 r) 297)) (w.heap.size+1) 297 #[.int .u8 3,.int .u8 0,.int .i64 0,str [],.int .i64 r.c1,.int .i64 r.r1,.int .i64 r.c2,.int .i64 r.r2,.int .i64 0,.int .u8 0,.int .i64 0]/\Below w w ((w.alloc (.cells (aR 3 r) 297)).alloc (.cells (aR 3 r) 297))):=Hd ⟨(je w _ _).alloc _,by have:=je (w.alloc (.cells (aR 3 r) 297)) 297 #[.int .u8 3,.int .u8 0,.int .i64 0,str [],.int .i64 r.c1,.int .i64 r.r1,.int .i64 r.c2,.int .i64 r.r2,.int .i64 0,.int .u8 0,.int .i64 0];simpa using this,by go_grown⟩;go_enter func335,ntmps335;go_upto_region 9 with (fail)
 refine wp_region_noPanic ?_;refine wp_region_held_drew (S:=λW'=>Blk W' w.heap.size 297 (aR 3 r)/\Blk W' (w.heap.size+1) 297 (aR 3 r)/\Below w w W') (by kernel_rfl) ⟨HS.o.1,HS.o.2.1,HS.o.2.2.drew⟩ (λhHeld=>?_);refine tH 0 (.agg _) hHeld ?_ (hy:=yieldsIf_load_mid rfl _ _ rfl (w.heap.size+1) (0) rfl _ _ (λW' h=>h.2.1.range (l:=[.int .u8 3,.int .u8 0,.int .i64 0,str [],.int .i64 r.c1,.int .i64 r.r1,.int .i64 r.c2,.int .i64 r.r2,.int .i64 0,.int .u8 0,.int .i64 0]) (o:=0) (by intro j v hj;rw[Nat.zero_add];exact List.getElem?_toArray.trans hj)) rfl rfl (by kernel_rfl))
 try go_frame
 refine tH 1 (.agg _) hHeld ?_ (hy:=yieldsIf_load_mid rfl _ _ rfl (w.heap.size) (0) rfl _ _ (λW' h=>h.1.range (l:=[.int .u8 3,.int .u8 0,.int .i64 0,str [],.int .i64 r.c1,.int .i64 r.r1,.int .i64 r.c2,.int .i64 r.r2,.int .i64 0,.int .u8 0,.int .i64 0]) (o:=0) (by intro j v hj;rw[Nat.zero_add];exact List.getElem?_toArray.trans hj)) rfl rfl (by kernel_rfl))
 try go_frame
 refine tH 2 (.bool true) hHeld ?_
 try go_frame
 refine tH 3 (.bool true) hHeld ?_
 try go_frame
 refine tH 4 (.pointer (some ⟨w.heap.size,4,none⟩)) hHeld ?_
 try go_frame
 refine tH 5 (.agg _) hHeld ?_ (hy:=yieldsIf_load_mid rfl _ _ rfl (w.heap.size) (4) rfl _ _ (λW' h=>h.1.range (l:=[.int .i64 r.c1,.int .i64 r.r1,.int .i64 r.c2,.int .i64 r.r2]) (o:=4) (by intro j v hj;rcases j with _ | _ | _ | _ | j <;> first | exact hj | (simp at hj))) rfl rfl (by kernel_rfl))
 try go_frame
 refine tC 6 rfl λK hK=>?_;go_simp;go_at_call 188;refine (HC.o _).mono ?_;rintro u w3 ⟨rfl,hb3⟩;refine hK.out _ _ (⟨hHeld.1.below_ hb3,hHeld.2.1.below_ hb3,jd hHeld.2.2 hb3 hHeld.2.2.size⟩) (λhHeld=>?_);clear hK K
 try go_frame
 refine tH 7 (.bool true) hHeld ?_
 try go_frame
 refine tH 8 (.bool true) hHeld ?_
 try go_frame
 refine tH 9 (.bool true) hHeld ?_
 try go_frame
 refine tH 10 (.pointer (some ⟨w.heap.size,4,none⟩)) hHeld ?_
 try go_frame
 refine tH 11 (.agg _) hHeld ?_ (hy:=yieldsIf_load_mid rfl _ _ rfl (w.heap.size) (4) rfl _ _ (λW' h=>h.1.range (l:=[.int .i64 r.c1,.int .i64 r.r1,.int .i64 r.c2,.int .i64 r.r2]) (o:=4) (by intro j v hj;rcases j with _ | _ | _ | _ | j <;> first | exact hj | (simp at hj))) rfl rfl (by kernel_rfl))
 try go_frame
 refine tH 13 (.pointer (some ⟨w.heap.size,0,none⟩)) hHeld ?_
 try go_frame
 refine tH 14 (.int .u8 3) hHeld ?_ (hy:=Or.inl ⟨by rfl,by intro W hW;have hc:W.cell? ⟨w.heap.size,0,none⟩=some (.int .u8 3):=hW.1.cell 0;go_simp⟩)
 try go_frame
 refine tH 15 (.bool false) hHeld ?_
 try go_frame
 refine tC 12 rfl λK hK=>?_;go_simp;go_at_call 351;refine (HO.o _).mono ?_;rintro u w4 ⟨rfl,hb3⟩;refine hK.out _ _ (⟨hHeld.1.below_ hb3,hHeld.2.1.below_ hb3,jd hHeld.2.2 hb3 hHeld.2.2.size⟩) (λhHeld=>?_);clear hK K
 try go_frame
 refine tH 16 (.bool true) hHeld ?_
 try go_frame
 refine tH 17 (.bool true) hHeld ?_
 try go_frame
 refine tH 18 (.bool true) hHeld ?_
 try go_frame
 refine wpAnyH_done (by kernel_rfl) ?_ _;refine NoPanic.normal ?_;go_wp2;go_ret;exact ⟨rfl,hHeld.2.2⟩
theorem zuy (n:Nod) (h:NodOk n) (w:World):Calls prog 335 #[.agg (cNod n).toArray] w λu w'=>u=.returned (.bool true)/\Below w w w':=by
 cases h with
 | num v h=>exact zlv v w h
 | text x h=>exact zkd x w h
 | bool v h=>rcases h with rfl|rfl;exact zje w;exact zjd w
 | err v h1 h2=>exact zlx v w h1 h2
 | ref r h1 h2=>exact zlt r w h1 h2
 | range r h1 h2=>exact zls r w h1 h2
 | neg=>exact zlw w
 | pct=>exact zlu w
 | binary v h1 h2=>exact zih v w h1 h2
 | call fn n h1 h2 h3 h4=>exact zke fn n w
theorem zyq (n:Nod) (h:NodOk n) (w:World):Calls prog 338 #[.agg (cNod n).toArray] w λu w'=>u=.returned (.int .i64 (zcl n))/\Below w w w':=by
 rw[show (cNod n).toArray=#[.int .u8 n.kind,.int .u8 n.vk,.int .i64 n.vn,str n.vt,.int .i64 n.rect.c1,.int .i64 n.rect.r1,.int .i64 n.rect.c2,.int .i64 n.rect.r2,.int .i64 n.op,.int .u8 n.fn,.int .i64 n.n] from rfl];have HB:=jM (zcl n=if n.kind=4\/n.kind=5 then 1 else if n.kind=6 then 2 else if n.kind=7 then n.n.toNat else 0) rfl;have HN:=jM (n.kind=7->0<=n.n) (λhk=>by cases h <;> simp_all[nod0]);obtain ⟨q,hq⟩:=jN (zcl n);rw[hq] at HB ⊢;clear hq h;by_cases h4:n.kind=4
 ·have b4:(n.kind==4)=true:=by simpa using h4
  have HQ:=Hd (HB.o.trans (jb (.inl h4)));clear h4 HB;go_enter func338,ntmps338;go_wp2;go_ret;exact ⟨by rw[HQ.o];rfl,by go_grown⟩
 have b4:(n.kind==4)=false:=by simpa using h4
 by_cases h5:n.kind=5
 ·have b5:(n.kind==5)=true:=by simpa using h5
  have HQ:=Hd (HB.o.trans (jb (.inr h5)));clear h4 h5 HB;go_enter func338,ntmps338;go_wp2;go_ret;exact ⟨by rw[HQ.o];rfl,by go_grown⟩
 have b5:(n.kind==5)=false:=by simpa using h5
 by_cases h6:n.kind=6
 ·have b6:(n.kind==6)=true:=by simpa using h6
  have HQ:=Hd (HB.o.trans ((ja (by rw[not_or];exact ⟨h4,h5⟩)).trans (jb h6)));clear h4 h5 h6 HB;go_enter func338,ntmps338;go_wp2;go_ret;exact ⟨by rw[HQ.o];rfl,by go_grown⟩
 have b6:(n.kind==6)=false:=by simpa using h6
 by_cases h7:n.kind=7
 ·have b7:(n.kind==7)=true:=by simpa using h7
  have HQ:=Hd (show ((q:Nat):Int)=n.n by
   rw[HB.o,ja (by rw[not_or];exact ⟨h4,h5⟩),ja h6,jb h7];have:=HN.o h7;omega)
  clear h4 h5 h6 h7 HB;go_enter func338,ntmps338;go_wp2;go_ret;exact ⟨by rw[HQ.o];rfl,by go_grown⟩
 have b7:(n.kind==7)=false:=by simpa using h7
 have HQ:=Hd (HB.o.trans ((ja (by rw[not_or];exact ⟨h4,h5⟩)).trans ((ja h6).trans (ja h7))));clear h4 h5 h6 h7 HB;go_enter func338,ntmps338;go_wp2;go_ret;exact ⟨by rw[HQ.o];rfl,by go_grown⟩
def fitR (n c:Nod) (i:Nat):Bool:=
 if decide (c.kind=3)&&!(decide (n.kind=7)&&(zcm n.fn i).1) then false
 else if decide (n.kind=7)&&relB n.fn&&decide (c.kind≠2)&&decide (c.kind≠3) then false else true
theorem zts (t:List Nod) (n:Nod) (i:Nat) (p:Part) (l:List Part) (hp:p.wide=decide ((t.getD p.root (nod0 0)).kind=3)):
 zej t n i (p::l)=if fitR n (t.getD p.root (nod0 0)) i=true then zej t n (i+1) l else false:=by
 show (if p.wide&&!(decide (n.kind=7)&&(zcm n.fn i).1) then false
  else if decide (n.kind=7)&&relB n.fn&&decide (((t.getD p.root (nod0 0)).kind)≠2)&&decide (((t.getD p.root (nod0 0)).kind)≠3) then false
  else zej t n (i+1) l)=_
 unfold fitR;rw[hp];split
 ·simp
 split
 ·simp
 simp
theorem zyw (fn:Nat) (h1:46<=fn) (h2:fn<=50):zcm fn 0=(true,0):=by
 rcases (by omega:fn=46\/fn=47\/fn=48\/fn=49\/fn=50) with rfl|rfl|rfl|rfl|rfl <;> rfl
theorem zvb (fn:Nat) (h1:46<=fn) (h2:fn<=50):(zao fn).2.1=1:=by
 rcases (by omega:fn=46\/fn=47\/fn=48\/fn=49\/fn=50) with rfl|rfl|rfl|rfl|rfl <;> rfl
theorem z2a (n c:Nod) (h:NodOk n) (i:Nat) (hi:i<zcl n) (hi2:i<=2000) (w:World):
 Calls prog 339 #[.agg (cNod n).toArray,.int .i64 i,.agg (cNod c).toArray] w λu w'=>u=.returned (.bool (fitR n c i))/\Below w w w':=by
 rw[show (cNod n).toArray=#[.int .u8 n.kind,.int .u8 n.vk,.int .i64 n.vn,str n.vt,.int .i64 n.rect.c1,.int .i64 n.rect.r1,.int .i64 n.rect.c2,.int .i64 n.rect.r2,.int .i64 n.op,.int .u8 n.fn,.int .i64 n.n] from rfl];rw[show (cNod c).toArray=#[.int .u8 c.kind,.int .u8 c.vk,.int .i64 c.vn,str c.vt,.int .i64 c.rect.c1,.int .i64 c.rect.r1,.int .i64 c.rect.c2,.int .i64 c.rect.r2,.int .i64 c.op,.int .u8 c.fn,.int .i64 c.n] from rfl];have HF:=jM (fitR n c i=if decide (c.kind=3)&&!(decide (n.kind=7)&&(zcm n.fn i).1) then false
  else if decide (n.kind=7)&&relB n.fn&&decide (c.kind≠2)&&decide (c.kind≠3) then false else true) rfl
 obtain ⟨q,hq⟩:=jN (fitR n c i);rw[hq] at HF ⊢;clear hq;by_cases h7:n.kind=7;rotate_left
 ·have b7:(n.kind != 7)=true:=by simpa using h7
  have HQ:=Hd (show (c.kind != 3)=q by
   rw[HF.o,jA h7];by_cases h3:c.kind=3
   ·simp[h3]
   simp[h3])
  clear h7 HF h;go_enter func339,ntmps339;go_wp2;go_ret;exact ⟨congrArg (λz=>Ending.returned (.bool z)) HQ.o,by go_grown⟩
 have b7:(n.kind != 7)=false:=by simpa using h7
 obtain ⟨fn,m,hfn,hfm,h1,h2,ha⟩:∃fn m:Nat,n.fn=fn/\n.n=m/\1<=fn/\fn<=50/\(m:Int)<=(zao fn).2.1:=by
  cases h with
  | call fn m h1 h2 h3 h4=>exact ⟨fn,m,rfl,rfl,h1,h2,h4⟩
  | _=>exact absurd h7 (by simp[nod0])
 have him:i<m:=by
  have hb:zcl n=n.n.toNat:=by unfold zcl;rw[jS,jS,jb h7]
  rw[hb,hfm] at hi;omega
 rw[hfn] at HF ⊢;rw[jB h7] at HF;by_cases h46:46<=fn
 ·have g46:(46:Int)<=(fn:Int):=by omega
  have hi0:i=0:=by rw[zvb fn h46 h2] at ha;omega
  subst hi0;have HQ:=Hd (show (decide (c.kind=3)||decide (c.kind=2))=q by
   rw[HF.o,show ((0:Nat):Int)=0 from rfl,zyw fn h46 h2,show relB (fn:Int)=true by unfold relB;simp;omega];by_cases h3:c.kind=3
   ·simp[h3]
   by_cases h2:c.kind=2
   ·simp[h2]
   simp[h3,h2])
  clear HF h h7 hfn hfm ha;by_cases h3:c.kind=3
  ·have b3:(c.kind==3)=true:=by simpa using h3
   have HQ2:=jM (true=q) (by rw[<- HQ.o,jB h3];rfl);clear h3;go_enter func339,ntmps339;go_wp2;go_ret;exact ⟨congrArg (λz=>Ending.returned (.bool z)) HQ2.o,by go_grown⟩
  have b3:(c.kind==3)=false:=by simpa using h3
  have HQ2:=jM ((c.kind==2)=q) (by rw[<- HQ.o,jA h3,Bool.false_or,Bool.eq_iff_iff];simp);clear h3;go_enter func339,ntmps339;go_wp2;go_ret;exact ⟨congrArg (λz=>Ending.returned (.bool z)) HQ2.o,by go_grown⟩
 have g46:¬(46:Int)<=(fn:Int):=by omega
 have HWI:=Hd (zux fn i h1 h2 hi2);have HQ:=Hd (show (!decide (c.kind=3)||(zcm fn i).1)=q by
  rw[HF.o,show relB (fn:Int)=false by unfold relB;simp;omega];by_cases h3:c.kind=3
  ·simp[h3]
  simp[h3])
 generalize (zcm fn i).1=wb at *;clear HF h h7 hfn hfm ha;by_cases h3:c.kind=3
 ·have b3:(c.kind != 3)=false:=by simpa using h3
  have HQ2:=jM (wb=q) (by rw[<- HQ.o,jB h3];rfl);clear h3;go_enter func339,ntmps339;go_wp2_with fail;refine (HWI.o _).mono ?_;rintro u w2 ⟨rfl,rfl⟩;go_wp2;go_ret;exact ⟨congrArg (λz=>Ending.returned (.bool z)) HQ2.o,by go_grown⟩
 have b3:(c.kind != 3)=true:=by simpa using h3
 have HQ2:=jM (true=q) (by rw[<- HQ.o,jA h3];rfl);clear h3;go_enter func339,ntmps339;go_wp2;go_ret;exact ⟨congrArg (λz=>Ending.returned (.bool z)) HQ2.o,by go_grown⟩
def cTop (p:Part):List Value:=[.int .i64 p.root,.int .i64 p.depth]
theorem zhq (p:Part):(cTop p).length=2:=rfl
theorem zrv (x:Part):∀u∈cTop x,u.oneCell'=true:=by
 intro u hu;simp[cTop] at hu;rcases hu with rfl|rfl <;> rfl
theorem z0a:∃i,prog.info? 312=some i/\i.zero=some (.agg #[.int .i64 0,.int .i64 0])/\i.size=2/\i.bytes=16:=
 info_parts (show (prog.info? 312).map (λi=>(i.zero,i.size,i.bytes))=some (some (.agg #[.int .i64 0,.int .i64 0]),2,16) by kernel_rfl)
theorem zon {l:List α} {p:α} (h:l[j]?=some p):l.drop j=p::l.drop (j+1):=by
 have hk:=(jE.1 h).1;rw[jo hk];have:l[j]=p:=by rw[jz hk] at h;simpa using h
 rw[this]
theorem zzi (c:α->List Value) (e:TypeId) (k:Nat) (w:World):Own c e k (w.alloc (.cells #[] e)) (.slice (some (w,0)) 0 0) []:=
 ⟨by simp,.inr ⟨w.heap.size,0,#[],rfl,Nat.zero_le _,je w e #[],Nat.le_refl _,Nat.zero_le _,by simp,by simp⟩⟩
theorem Sls.head {c:α->List Value} {A:Option Addr} {l:List α} (_hk:∀x,(c x).length=k) (h:Sls c w B (.slice A n cap) l) (hj:j<=l.length):Sls c w B (.slice A j cap) (l.take j):=by
 obtain ⟨A',cap',e,h1,h2,h3⟩:=h;injection e with e1 e2 e3
 subst e1 e3;have e1:(l.take j).length=j:=by simp;omega
 refine ⟨_,_,by rw[e1],by rw[e1];omega,by rw[e1];omega,λhp=>?_⟩;rw[e1] at hp;obtain ⟨b,o,rfl,hb,hr⟩:=h3 (by omega);refine ⟨b,o,rfl,hb,λi v hi=>hr i v ?_⟩;have hs:l.flatMap c=(l.take j).flatMap c++(l.drop j).flatMap c:=by rw[<- List.flatMap_append,List.take_append_drop]
 rw[hs,List.getElem?_append_left (jE.1 hi).1];exact hi
theorem zv6 (fn:Nat) (h1:1<=fn) (h2:fn<=50):(zhk fn== [])=false:=by
 have h:∀k:Fin 50,(zhk (k.val+1)== [])=false:=by decide
 have:=h ⟨fn-1,by omega⟩;simpa [show fn-1+1=fn by omega] using this
def NodeR (t:List Nod) (k:Nat) (y:Nod) (st:List Part) (B:Nat) (u:Ending) (w':World):Prop:=
 match zij t k y st with
 | .error e=>u=.returned (.tuple #[.slice none 0 0,.int .i64 e])
 | .ok st'=>∃sv,u=.returned (.tuple #[sv,.int .i64 0])/\Own cTop 312 2 w' sv st'/\∀q,sv.ownBlock=some q->B<=q
theorem NodeR.err {t:List Nod} {st:List Part} (h:zij t k y st=.error e) (hu:u=.returned (.tuple #[.slice none 0 0,.int .i64 e])):NodeR t k y st B u w':=by
 unfold NodeR;rw[h];exact hu
theorem NodeR.ok {t:List Nod} {st st':List Part} (h:zij t k y st=.ok st') (hu:u=.returned (.tuple #[sv,.int .i64 0])) (ho:Own cTop 312 2 w' sv st') (hq:∀q,sv.ownBlock=some q->B<=q):NodeR t k y st B u w':=by
 unfold NodeR;rw[h];exact ⟨sv,hu,ho,hq⟩
theorem z19 (tv lv:Value) (t:List Nod) (k:Nat) (y:Nod) (st:List Part) (B:Nat) (w:World) (hB:B<=w.heap.size) (ht:Sls cNod w B tv t) (hl:Sls cTop w B lv st)
 (htl:t.length<=2000) (hy:t[k]?=some y) (hn:NodOk y) (hsl:st.length<=k) (hst:∀p∈st,p.root<t.length/\1<=p.depth/\p.depth<=32/\p.wide=decide ((t.getD p.root (nod0 0)).kind=3)):
 Calls prog 319 #[tv,.int .i64 k,lv] w λu w'=>NodeR t k y st w.heap.size u w'/\Below w w w':=by
 have hkl:k<t.length:=(jE.1 hy).1;obtain ⟨A,cap,rfl,hc1,hm1,ha1⟩:=id ht;obtain ⟨A2,cap2,rfl,hc2,hm2,ha2⟩:=id hl;obtain ⟨b,o,hA,hb2,r⟩:=ht.get 11 zbx hy;subst hA;have HT:=Hd ht;have HL:=Hd hl;have HST:=Hd hst;have HN:=Hd hn;have HD:=Hd (ziu t k hn st);have H7:=jM (y.kind=7->∃fn m:Nat,y.fn=fn/\y.n=m/\1<=fn/\fn<=50/\(zao fn).1<=m/\(m:Int)<=(zao fn).2.1) (λh7=>by
  cases hn with
  | call fn m h1 h2 h3 h4=>exact ⟨fn,m,rfl,rfl,h1,h2,h3,h4⟩
  | _=>exact absurd h7 (by simp[nod0]))
 have HNF:Hid (∀w:World,Calls prog 335 #[.agg y] w λu w'=>u=.returned (.bool true)/\Below w w w'):=Hd (zuy y hn);have HNB:Hid (∀w:World,Calls prog 338 #[.agg y] w λu w'=>u=.returned (.int .i64 (zcl y))/\Below w w w'):=Hd (zyq y hn);have HFI:Hid (∀(c:Nod) (i:Nat),i<zcl y->i<=2000->∀w:World,Calls prog 339 #[.agg y,.int .i64 i,.agg (cNod c).toArray] w λu w'=>u=.returned (.bool (fitR y c i))/\Below w w w'):=Hd (λc i h1 h2 w=>z2a y c hn i h1 h2 w);clear ht hl hst hn ha1 ha2 hy;unfold maxLen at hm1 hm2;have rr0:w.cell? (b,o+k*11)=some (.int .u8 y.kind):=r 0 _ rfl;have rr1:w.cell? (b,o+k*11+1)=some (.int .u8 y.vk):=r 1 _ rfl;have rr2:w.cell? (b,o+k*11+2)=some (.int .i64 y.vn):=r 2 _ rfl;have rr3:w.cell? (b,o+k*11+3)=some (str y.vt):=r 3 _ rfl;have rr4:w.cell? (b,o+k*11+4)=some (.int .i64 y.rect.c1):=r 4 _ rfl;have rr5:w.cell? (b,o+k*11+5)=some (.int .i64 y.rect.r1):=r 5 _ rfl;have rr6:w.cell? (b,o+k*11+6)=some (.int .i64 y.rect.c2):=r 6 _ rfl;have rr7:w.cell? (b,o+k*11+7)=some (.int .i64 y.rect.r2):=r 7 _ rfl;have rr8:w.cell? (b,o+k*11+8)=some (.int .i64 y.op):=r 8 _ rfl;have rr9:w.cell? (b,o+k*11+9)=some (.int .u8 y.fn):=r 9 _ rfl;have rr10:w.cell? (b,o+k*11+10)=some (.int .i64 y.n):=r 10 _ rfl;have KN:=Hd (je w 297 y);have HB0:=jM (Below w w (w.alloc (.cells y 297))) (by go_grown);have hi0:(0:Int)<=(k:Int):=jw _;have hi1:(k:Int)<(t.length:Int):=by omega
 clear r;obtain ⟨q,hq⟩:=jN (zcl y);rw[hq] at HD HNB HFI;clear hq;go_enter func319,ntmps319;go_upto_region 2 with (fail)
 obtain ⟨g,hg⟩:∃g,g=w.heap.size:=⟨_,rfl⟩;obtain ⟨W1,hW1⟩:=jN (w.alloc (.cells y 297));rw[hW1] at KN HB0 ⊢;rw[<- hg] at KN ⊢;have HG:=Hd hg;clear hW1 hg rr0 rr1 rr2 rr3 rr4 rr5 rr6 rr7 rr8 rr9 rr10;obtain ⟨x0,x1,x2,x3,x4,x5⟩:=KN.o.c6 0 1 2 3 4 5;obtain ⟨x6,x7,x8,x9,x10⟩:=KN.o.c5 6 7 8 9 10;go_wp2_with fail;refine (HNF.o _).mono ?_;rintro u w2 ⟨rfl,hb2⟩;have K2:=Hd (KN.o.below_ hb2);have HB2:=Hd (Below.next_ HB0.o hb2);clear hb2 x0 x1 x2 x3 x4 x5 x6 x7 x8 x9 x10 KN HB0 HNF;obtain ⟨x0,x1,x2,x3,x4,x5⟩:=K2.o.c6 0 1 2 3 4 5;obtain ⟨x6,x7,x8,x9,x10⟩:=K2.o.c5 6 7 8 9 10;go_upto_if 24 with (fail)
 go_cut [9,10] from 24 (λ_ _ wx=>Blk wx g 297 y/\Below w w wx)
 case first=>
  by_cases h7:y.kind=7;rotate_left
  ·have b7:(y.kind==7)=false:=by simpa using h7
   clear h7 H7 HN HD HFI HNB;go_wp2;go_meet
   case rel=>exact ⟨K2.o,HB2.o⟩
  have b7:(y.kind==7)=true:=by simpa using h7
  obtain ⟨fn,m,hfn,hfm,h1,h2,h3,h4⟩:=H7.o h7;have HNA:=Hd (zu2 fn h1 h2);have HAR:=Hd (zly fn h1 h2);have HNE:=Hd (zv6 fn h1 h2);have hl1:¬(m:Int)<(zao fn).1:=by omega
  have hl2:¬(zao fn).2.1<(m:Int):=by omega
  have x9':w2.cell? (g,9)=some (.int .u8 fn):=by rw[<- hfn];exact x9
  have HFN:=Hd hfn;have HFM:=Hd hfm;clear hfn hfm;clear h7 HN HD H7 HFI HNB;obtain ⟨lo,hlo⟩:=jN ((zao fn).1);obtain ⟨up,hup⟩:=jN ((zao fn).2.1);obtain ⟨nm,hnm⟩:=jN (zhk fn);rw[hlo,hup] at HAR;rw[hlo] at hl1;rw[hup] at hl2;rw[hnm] at HNA HNE;have hne:(nm== [])=false:=HNE.o;clear hlo hup hnm h3 h4 x0;have x0:=K2.o.cell 0;clear x9;go_wp2_with fail;refine (HNA.o _).mono ?_;rintro u w3 ⟨rfl,hb3⟩;have K3:=Hd (K2.o.below_ hb3);have HB3:=Hd (Below.next_ HB2.o hb3);clear hb3 x0 x1 x2 x3 x4 x5 x6 x7 x8 x9' x10;have x9:w3.cell? (g,9)=some (.int .u8 fn):=by rw[<- HFN.o];exact K3.o.cell 9
  have x10:w3.cell? (g,10)=some (.int .i64 m):=by rw[<- HFM.o];exact K3.o.cell 10
  go_wp2_with fail;refine (HAR.o _).mono ?_;rintro u w4 ⟨rfl,rfl⟩;dsimp only;go_wp2;go_meet
  case rel=>exact ⟨K3.o,HB3.o⟩
 obtain ⟨K5,HB5⟩:=hcut;have K5:=Hd K5;have HB5:=Hd HB5;clear H7 HN HB2 K2 x0 x1 x2 x3 x4 x5 x6 x7 x8 x9 x10;obtain ⟨x0,x1,x2,x3,x4,x5⟩:=K5.o.c6 0 1 2 3 4 5;obtain ⟨x6,x7,x8,x9,x10⟩:=K5.o.c5 6 7 8 9 10;go_wp2_with fail;refine (HNB.o _).mono ?_;rintro u w6 ⟨rfl,hb6⟩;have K6:=Hd (K5.o.below_ hb6);have HB6:=Hd (Below.next_ HB5.o hb6);clear hb6 x0 x1 x2 x3 x4 x5 x6 x7 x8 x9 x10 HNB K5 HB5;have kb0:(0:Int)<=(q:Int):=jw _;by_cases hlb:st.length<q
 ·have HE:=jM (zij t k y st=.error 4) (by rw[HD.o,jb (.inl hlb)]);have lb:(st.length:Int)<(q:Int):=by omega
  clear hlb HD;go_wp2;refine jO results319 (v:=.tuple #[.slice none 0 0,.int .i64 4]) ?_;exact ⟨NodeR.err HE.o rfl,HB6.o⟩
 have lb:¬(st.length:Int)<(q:Int):=by omega
 obtain ⟨m,hm⟩:∃m,st.length=m+q:=⟨st.length-q,by omega⟩;have HMN:=Hd hm;have hsu:(st.length:Int)<=2000:=by omega
 have hmi:(st.length:Int)-(q:Int)=(m:Int):=by omega
 have hml:(m:Int)<=(st.length:Int):=by omega
 have hmz:(0:Int)<=(m:Int):=jw _;rw[show st.length-q=m by omega] at HD;clear hm;have HKQ:=jM ((st.drop m).length=q) (by rw[jp];have:=HMN.o;omega);have HDB:=jM (∀j,1<=zdd ((st.drop m).take j)/\zdd ((st.drop m).take j)<=33) (λj=>zho ((st.drop m).take j) (λp hp=>(HST.o p (List.mem_of_mem_drop (List.mem_of_mem_take hp))).2.2.1) 1 (by omega) (by omega));go_wp2_with fail;go_loopw [13,14] (λdv jv wr=>∃j:Nat,j<=q/\jv=.int .i64 j/\dv=.int .i64 (zdd ((st.drop m).take j))/\zej t y 0 (st.drop m)=zej t y j ((st.drop m).drop j)/\Blk wr g 297 y/\Below w w wr) (λ_ jv _=>q-(intOf jv).toNat)
 case atStart=>exact ⟨0,by omega,rfl,rfl,rfl,K6.o,HB6.o⟩
 rename World=>w7
 obtain ⟨j,hj,rfl,rfl,hft,hk7,hb7⟩:=hrel;have HF:=Hd hft;have K7:=Hd hk7;have HB7:=Hd hb7;clear hft hk7 hb7 K6 HB6;have hj0:(0:Int)<=(j:Int):=jw _;have hdb:=HDB.o j;by_cases hjl:j<q;rotate_left
 ·obtain rfl:j=q:=by omega
  have HFT:=jM (zej t y 0 (st.drop m)=true) (by rw[HF.o,jm (by rw[HKQ.o];exact Nat.le_refl _)];rfl);have HTK:(st.drop m).take j=st.drop m:=by rw[jK (by rw[HKQ.o];exact Nat.le_refl _)]
  have HD2:=Hd (HD.o.trans (ja (by rw[HFT.o];simpa using hlb)));rw[HTK] at hdb ⊢;obtain ⟨d,hd⟩:=jN (zdd (st.drop m));rw[hd] at hdb HD2 ⊢;clear hd HD HF HTK HFT HDB HFI K7;by_cases hd32:32<d
  ·have HE:=Hd (HD2.o.trans (jb hd32));clear HD2;go_wp2;refine jO results319 (v:=.tuple #[.slice none 0 0,.int .i64 9]) ?_;exact ⟨NodeR.err HE.o rfl,HB7.o⟩
  have HE:=Hd (HD2.o.trans (ja hd32));have hd32':¬32<d:=hd32;clear HD2 hd32 hdb;have hmc:(m:Int)<=(cap2:Int):=by omega
  have ha0:=add_zero A2;obtain ⟨ip,ip0,ip1,ip2,ip3⟩:=z0a;have HS7:=Hd ((Sls.head zhq (HL.o.below (HB7.o.mono hB)) (j:=m) (by have:=HMN.o;omega)).below ((jg B w7).alloc (jx hB HB7.o.size) (.cells #[] 312)));have hmL:(st.take m).length=m:=by rw[List.length_take];omega
  go_wp2_with (at_builtin;refine ju ?_);refine Hd ?_;refine zal cTop rfl _ _ 308 rfl 312 ip _ 2 16 underlying308 ip0 ip1 ip2 ip3 rfl (by omega) (.slice (some ⟨w7.heap.size,0,none⟩) 0 0) [] rfl (zzi _ _ _ _) B (.slice A2 m cap2) (st.take m) rfl HS7.o zhq zrv (by simp;omega) (by omega) ?_;intro v8 w8 o8 t8;have HZ:=jM (∀q,(Value.slice (some (w7,0)) 0 0).ownBlock=some q->w.heap.size<=q) (λq hq=>by
   have e:w7.heap.size=q:=Option.some.inj hq;rw[<- e];exact HB7.o.size)
  have HB8:=Hd (Below.trans (HB7.o.alloc HB7.o.size _) (t8.old (B:=w.heap.size) (by have:=HB7.o.size;simp;omega) HZ.o));have HQ8:=Hd (t8.newer (B:=w.heap.size) (by have:=HB7.o.size;simp;omega) HZ.o);have O8:=Hd o8;clear o8 t8 HZ HS7;go_wp2_with (at_builtin;refine ju ?_);refine Hd ?_;refine zal cTop rfl _ _ 308 rfl 312 ip _ 2 16 underlying308 ip0 ip1 ip2 ip3 rfl (by omega) v8 ([]++st.take m) rfl (O8.o.alloc _) _ _ [(⟨k,d,decide (y.kind=3)⟩:Part)] rfl (Sls.one (x:=(⟨k,d,decide (y.kind=3)⟩:Part)) (je _ _ _) rfl) zhq zrv (by simp;omega) (by omega) ?_;intro v9 w9 o9 t9;have HB9:=Hd (Below.trans (HB8.o.alloc HB8.o.size _) (t9.old (B:=w.heap.size) (by have:=HB8.o.size;simp;omega) HQ8.o));have HQ9:=Hd (t9.newer (B:=w.heap.size) (by have:=HB8.o.size;simp;omega) HQ8.o);have O9:=Hd o9;clear o9 t9;go_wp2;refine jO results319 (v:=.tuple #[v9,.int .i64 0]) ?_;exact ⟨NodeR.ok HE.o rfl O9.o HQ9.o,HB9.o⟩
 obtain ⟨p,hyj⟩:∃p,(st.drop m)[j]?=some p:=⟨_,jz (by rw[HKQ.o];exact hjl)⟩;have hps:=HST.o p (List.mem_of_mem_drop (List.mem_of_getElem? hyj));obtain ⟨c,hc⟩:∃c,t[p.root]?=some c:=⟨_,jz hps.1⟩;have HFC:=Hd (show zej t y 0 (st.drop m)=if fitR y c j=true then zej t y (j+1) ((st.drop m).drop (j+1)) else false by
  rw[HF.o,zon hyj,zts t y j _ _ hps.2.2.2,show t.getD p.root (nod0 0)=c by rw[jL,hc];rfl])
 have HDS:=Hd (zj4 (st.drop m) hyj);obtain ⟨mj,hMJ⟩:∃mj:Nat,mj=m+j:=⟨_,rfl⟩;obtain ⟨b3,o3,hA,hb3,r⟩:=(HL.o.below (HB7.o.mono hB)).get 2 zhq (show st[mj]?=some p by rw[hMJ,<- List.getElem?_drop];exact hyj);obtain ⟨b',o',hA',hbb,rc⟩:=(HT.o.below (HB7.o.mono hB)).get 11 zbx hc;obtain ⟨rfl,rfl⟩:b=b'/\o=o':=⟨congrArg Addr.block (Option.some.inj hA'),congrArg Addr.off (Option.some.inj hA')⟩;subst hA;have hq7:=jx hB HB7.o.size;have RC:=Hd rc;have LY:=jM (∀W:World,Below w7 w7 W->W.rangeAt g 0 [.int .u8 y.kind,.int .u8 y.vk,.int .i64 y.vn,str y.vt,.int .i64 y.rect.c1,.int .i64 y.rect.r1,.int .i64 y.rect.c2,.int .i64 y.rect.r2,.int .i64 y.op,.int .u8 y.fn,.int .i64 y.n]) (λW h=>(K7.o.below_ h).range (l:=cNod y) (o:=0) (by intro j v hj;rw[Nat.zero_add];exact List.getElem?_toArray.trans hj));have LC:=jM (∀W:World,Below w7 w7 W->W.rangeAt b (o+p.root*11) [.int .u8 c.kind,.int .u8 c.vk,.int .i64 c.vn,str c.vt,.int .i64 c.rect.c1,.int .i64 c.rect.r1,.int .i64 c.rect.c2,.int .i64 c.rect.r2,.int .i64 c.op,.int .u8 c.fn,.int .i64 c.n]) (λW h i v hi=>(h.cell (p:=⟨b,o+p.root*11+i,none⟩) (jG hbb hq7)).trans (RC.o i v hi));have q0:w7.cell? (b3,o3+mj*2)=some (.int .i64 p.root):=r 0 _ rfl;have q1:w7.cell? (b3,o3+mj*2+1)=some (.int .i64 p.depth):=r 1 _ rfl;have LP:=jM (∀W:World,Below w7 w7 W->W.cell? (b3,o3+mj*2)=some (.int .i64 p.root)) (λW h=>(h.cell (p:=⟨b3,o3+mj*2,none⟩) (jG hb3 hq7)).trans q0);have LD:=jM (∀W:World,Below w7 w7 W->W.cell? (b3,o3+mj*2+1)=some (.int .i64 p.depth)) (λW h=>(h.cell (p:=⟨b3,o3+mj*2+1,none⟩) (jG hb3 hq7)).trans q1);have HPS:=Hd hps;have hmj:(m:Int)+(j:Int)=(mj:Int):=by omega
 have hm0:(0:Int)<=(mj:Int):=jw _;have hm1:(mj:Int)<(st.length:Int):=by have:=HMN.o;omega
 have hr0:(0:Int)<=(p.root:Int):=jw _;have hr1:(p.root:Int)<(t.length:Int):=by have:=hps.1;omega
 have hjq:(j:Int)<(q:Int):=by omega
 have hmu:(mj:Int)<=2000:=by omega
 clear hps hyj hc rc r hA' HF q0 q1 hMJ;go_upto_region 18 with (fail)
 obtain ⟨z,hz⟩:=jN (fitR y c j);rw[hz] at HFC;have HFJ:Hid (∀w:World,Calls prog 339 #[.agg y,.int .i64 j,.agg c] w λu w'=>u=.returned (.bool (fitR y c j))/\Below w w w'):=Hd (HFI.o c j hjl (by omega));rw[hz] at HFJ;clear hz;refine wp_region_noPanic ?_;refine wp_region_held_drew (S:=λW=>Below w7 w7 W) (by kernel_rfl) (jg _ _).drew (λhHeld=>?_);refine tH 0 (.agg _) hHeld ?_ (hy:=yieldsIf_load_mid rfl _ _ rfl (g) (0) rfl _ _ LY.o rfl rfl (by kernel_rfl))
 try go_frame
 refine tH 1 (.int .i64 j) hHeld ?_
 try go_frame
 refine tH 2 (.slice (some ⟨b,o,none⟩) t.length cap) hHeld ?_
 try go_frame
 refine tH 3 (.slice (some ⟨b3,o3,none⟩) st.length cap2) hHeld ?_
 try go_frame
 refine tH 4 (.int .i64 m) hHeld ?_
 try go_frame
 refine tH 5 (.int .i64 j) hHeld ?_
 try go_frame
 refine tH 6 (.int .i64 mj) hHeld ?_ (hy:=Or.inl ⟨by rfl,by intro W hW;go_simp;rw[IntKind.wrap_i64];omega⟩)
 try go_frame
 refine tH 7 (.pointer (some ⟨b3,o3+mj*2,none⟩)) hHeld ?_
 try go_frame
 refine tH 8 (.pointer (some ⟨b3,o3+mj*2,none⟩)) hHeld ?_
 try go_frame
 refine tH 9 (.int .i64 p.root) hHeld ?_ (hy:=Or.inl ⟨by rfl,by intro W hW;have hc:=LP.o W hW;go_simp⟩)
 try go_frame
 refine tH 10 (.pointer (some ⟨b,o+p.root*11,none⟩)) hHeld ?_
 try go_frame
 refine tH 11 (.agg _) hHeld ?_ (hy:=yieldsIf_load_mid rfl _ _ rfl (b) (o+p.root*11) rfl _ _ LC.o rfl rfl (by kernel_rfl))
 try go_frame
 refine tC 12 rfl λK hK=>?_;go_simp;go_at_call 339;refine (HFJ.o _).mono ?_;rintro u w8 ⟨rfl,hb8⟩;refine hK.out _ _ (jd hHeld hb8 hHeld.size) (λhHeld=>?_);clear hK K
 try go_frame
 refine tH 13 (.bool (!z)) hHeld ?_
 try go_frame
 refine wpAnyH_done (by kernel_rfl) ?_ _;refine NoPanic.normal ?_;have HB8:=Hd (jd HB7.o hHeld HB7.o.size);have K8:=Hd (K7.o.below_ hHeld);have q1:=LD.o _ hHeld;clear hHeld LY LC LP LD RC HFJ HFI;cases z
 ·have HE:=jM (zij t k y st=.error 4) (by rw[HD.o,jb (.inr (by rw[HFC.o];rfl))]);clear HD HFC;go_wp2;refine jO results319 (v:=.tuple #[.slice none 0 0,.int .i64 4]) ?_;exact ⟨NodeR.err HE.o rfl,HB8.o⟩
 have HF8:=Hd (HFC.o.trans (jb rfl));obtain ⟨d,hd⟩:=jN (zdd ((st.drop m).take j));rw[hd] at hdb HDS ⊢;have hd1:1<=d:=hdb.1;have hd2:d<=33:=hdb.2;have hx1:1<=p.depth:=HPS.o.2.1;have hx2:p.depth<=32:=HPS.o.2.2.1;have hmx:∀x y:Int,(if x<y then y else x)=max x y:=λx y=>by rw[Int.max_def];split <;> split <;> omega
 have hcm:1+p.depth=p.depth+1:=by omega
 clear hd hdb HD HFC;go_wp2;exact ⟨⟨j+1,by omega,by go_num,by rw[HDS.o],HF8.o,K8.o,HB8.o⟩,by simp[intOf];omega⟩
end Go.Proofs.YtamcgggmfghljaaGreatDoor
