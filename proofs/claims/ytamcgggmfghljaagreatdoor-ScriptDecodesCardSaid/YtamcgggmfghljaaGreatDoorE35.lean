/- walk -/
import Derived.Test.YtamcgggmfghljaaGreatDoorE24
set_option maxRecDepth 100000
set_option maxHeartbeats 8000000
open Go.Proofs.Tryz
namespace Go.Proofs.YtamcgggmfghljaaGreatDoor
open Go.RowKit
variable {u:Int} {g k p:Nat} {α:Type} {T:TypeId} {v v0:Value} {W W0 W1:World}
theorem zy9 (k us c1 r1 c2 r2:Int) (s:zaa) (rd wr ow fns to_ ix:Int) (w:World):
 Calls prog 167 #[.agg (aJ k us c1 r1 c2 r2 s rd wr ow fns to_ ix),.int .i64 1] w λu w'=>u=.returned (.agg (aJ k us 0 0 0 0 [] 0 0 0 0 0 0))/\Below w w w':=by
 go_enter func167,ntmps167;go_wp2;refine jO results167 (v:=.agg (aJ k us 0 0 0 0 [] 0 0 0 0 0 0)) ?_;exact ⟨rfl,by go_grown⟩
theorem zy8 (k us c1 r1 c2 r2:Int) (s:zaa) (rd wr ow fns to_ ix:Int) (w:World):
 Calls prog 167 #[.agg (aJ k us c1 r1 c2 r2 s rd wr ow fns to_ ix),.int .i64 2] w λu w'=>u=.returned (.agg (aJ k 0 c1 r1 c2 r2 [] 0 0 0 0 0 0))/\Below w w w':=by
 go_enter func167,ntmps167;go_wp2;refine jO results167 (v:=.agg (aJ k 0 c1 r1 c2 r2 [] 0 0 0 0 0 0)) ?_;exact ⟨rfl,by go_grown⟩
theorem zy7 (k us c1 r1 c2 r2:Int) (s:zaa) (rd wr ow fns to_ ix:Int) (w:World):
 Calls prog 167 #[.agg (aJ k us c1 r1 c2 r2 s rd wr ow fns to_ ix),.int .i64 4] w λu w'=>u=.returned (.agg (aJ k 0 0 0 0 0 s 0 0 0 0 0 0))/\Below w w w':=by
 go_enter func167,ntmps167;go_wp2;refine jO results167 (v:=.agg (aJ k 0 0 0 0 0 s 0 0 0 0 0 0)) ?_;exact ⟨rfl,by go_grown⟩
theorem zy6 (k us c1 r1 c2 r2:Int) (s:zaa) (rd wr ow fns to_ ix:Int) (w:World):
 Calls prog 167 #[.agg (aJ k us c1 r1 c2 r2 s rd wr ow fns to_ ix),.int .i64 8] w λu w'=>u=.returned (.agg (aJ k 0 0 0 0 0 [] rd wr ow 0 0 0))/\Below w w w':=by
 go_enter func167,ntmps167;go_wp2;refine jO results167 (v:=.agg (aJ k 0 0 0 0 0 [] rd wr ow 0 0 0)) ?_;exact ⟨rfl,by go_grown⟩
theorem zy5 (k us c1 r1 c2 r2:Int) (s:zaa) (rd wr ow fns to_ ix:Int) (w:World):
 Calls prog 167 #[.agg (aJ k us c1 r1 c2 r2 s rd wr ow fns to_ ix),.int .i64 16] w λu w'=>u=.returned (.agg (aJ k 0 0 0 0 0 [] 0 0 0 fns 0 0))/\Below w w w':=by
 go_enter func167,ntmps167;go_wp2;refine jO results167 (v:=.agg (aJ k 0 0 0 0 0 [] 0 0 0 fns 0 0)) ?_;exact ⟨rfl,by go_grown⟩
theorem zy4 (k us c1 r1 c2 r2:Int) (s:zaa) (rd wr ow fns to_ ix:Int) (w:World):
 Calls prog 167 #[.agg (aJ k us c1 r1 c2 r2 s rd wr ow fns to_ ix),.int .i64 32] w λu w'=>u=.returned (.agg (aJ k 0 0 0 0 0 [] 0 0 0 0 to_ 0))/\Below w w w':=by
 go_enter func167,ntmps167;go_wp2;refine jO results167 (v:=.agg (aJ k 0 0 0 0 0 [] 0 0 0 0 to_ 0)) ?_;exact ⟨rfl,by go_grown⟩
theorem zy3 (k us c1 r1 c2 r2:Int) (s:zaa) (rd wr ow fns to_ ix:Int) (w:World):
 Calls prog 167 #[.agg (aJ k us c1 r1 c2 r2 s rd wr ow fns to_ ix),.int .i64 64] w λu w'=>u=.returned (.agg (aJ k 0 0 0 0 0 [] 0 0 0 0 0 ix))/\Below w w w':=by
 go_enter func167,ntmps167;go_wp2;refine jO results167 (v:=.agg (aJ k 0 0 0 0 0 [] 0 0 0 0 0 ix)) ?_;exact ⟨rfl,by go_grown⟩
theorem ztd (k us _c1 _r1 _c2 _r2:Int) (_s:zaa) (_rd _wt _ow _fns _to_ _ix:Int) (W:World):(binOp .neq 48 (.agg (aJ k us 0 0 0 0 [] 0 0 0 0 0 0)) (.agg (aK k))).run prog W=.ok (.bool (decide (¬us=0))) W:=by
 by_cases hf:us=0
 ·rw[jA (by simpa using hf)]
  skip
  simp[go_sem,hf]
 rw[jB hf]
 skip
 simp[go_sem,hf]
theorem ztc (k _us c1 r1 c2 r2:Int) (_s:zaa) (_rd _wt _ow _fns _to_ _ix:Int) (W:World):(binOp .neq 48 (.agg (aJ k 0 c1 r1 c2 r2 [] 0 0 0 0 0 0)) (.agg (aK k))).run prog W=.ok (.bool (decide (¬(⟨c1,r1,c2,r2⟩:Rct)=⟨0,0,0,0⟩))) W:=by
 by_cases hf:(⟨c1,r1,c2,r2⟩:Rct)=⟨0,0,0,0⟩
 ·rw[jA (by simpa using hf)];simp only[Rct.mk.injEq] at hf;simp[go_sem,hf]
 rw[jB hf];simp only[Rct.mk.injEq] at hf;simp[go_sem];intro a b c d;exact hf ⟨a,b,c,d⟩
theorem ztb (k _us _c1 _r1 _c2 _r2:Int) (s:zaa) (_rd _wt _ow _fns _to_ _ix:Int) (W:World):(binOp .neq 48 (.agg (aJ k 0 0 0 0 0 s 0 0 0 0 0 0)) (.agg (aK k))).run prog W=.ok (.bool (decide (¬s=[]))) W:=by
 by_cases hf:s=[]
 ·rw[jA (by simpa using hf)]
  skip
  simp[go_sem,hf]
 rw[jB hf]
 skip
 simp[go_sem,hf]
theorem zta (k _us _c1 _r1 _c2 _r2:Int) (_s:zaa) (rd wt ow _fns _to_ _ix:Int) (W:World):(binOp .neq 48 (.agg (aJ k 0 0 0 0 0 [] rd wt ow 0 0 0)) (.agg (aK k))).run prog W=.ok (.bool (decide (¬(⟨rd,wt,ow⟩:Rts)=⟨0,0,0⟩))) W:=by
 by_cases hf:(⟨rd,wt,ow⟩:Rts)=⟨0,0,0⟩
 ·rw[jA (by simpa using hf)];simp only[Rts.mk.injEq] at hf;simp[go_sem,hf]
 rw[jB hf];simp only[Rts.mk.injEq] at hf;simp[go_sem];intro a b c;exact hf ⟨a,b,c⟩
theorem zs9 (k _us _c1 _r1 _c2 _r2:Int) (_s:zaa) (_rd _wt _ow fns _to_ _ix:Int) (W:World):(binOp .neq 48 (.agg (aJ k 0 0 0 0 0 [] 0 0 0 fns 0 0)) (.agg (aK k))).run prog W=.ok (.bool (decide (¬fns=0))) W:=by
 by_cases hf:fns=0
 ·rw[jA (by simpa using hf)]
  skip
  simp[go_sem,hf]
 rw[jB hf]
 skip
 simp[go_sem,hf]
theorem zs8 (k _us _c1 _r1 _c2 _r2:Int) (_s:zaa) (_rd _wt _ow _fns to_ _ix:Int) (W:World):(binOp .neq 48 (.agg (aJ k 0 0 0 0 0 [] 0 0 0 0 to_ 0)) (.agg (aK k))).run prog W=.ok (.bool (decide (¬to_=0))) W:=by
 by_cases hf:to_=0
 ·rw[jA (by simpa using hf)]
  skip
  simp[go_sem,hf]
 rw[jB hf]
 skip
 simp[go_sem,hf]
theorem zs7 (k _us _c1 _r1 _c2 _r2:Int) (_s:zaa) (_rd _wt _ow _fns _to_ ix:Int) (W:World):(binOp .neq 48 (.agg (aJ k 0 0 0 0 0 [] 0 0 0 0 0 ix)) (.agg (aK k))).run prog W=.ok (.bool (decide (¬ix=0))) W:=by
 by_cases hf:ix=0
 ·rw[jA (by simpa using hf)]
  skip
  simp[go_sem,hf]
 rw[jB hf]
 skip
 simp[go_sem,hf]
theorem zwc (k us c1 r1 c2 r2:Int) (s:zaa) (rd wt ow fns to_ ix:Int) (j:Nat) (b:Bool) (t:zaa) (h:(oprF ⟨k,us,⟨c1,r1,c2,r2⟩,s,⟨rd,wt,ow⟩,fns,to_,ix⟩)[j]?=some (b,t)):mkN ⟨k,us,⟨c1,r1,c2,r2⟩,s,⟨rd,wt,ow⟩,fns,to_,ix⟩ (j+1)=mkN ⟨k,us,⟨c1,r1,c2,r2⟩,s,⟨rd,wt,ow⟩,fns,to_,ix⟩ j+if b then 2 ^ j else 0:=zgf _ _ _ _ h
theorem zwb (x:Opr) (j:Nat):0<=mkN x j/\mkN x j<128:=by
 have h:=zma ((oprF x).take j);refine ⟨h.1,Int.lt_of_lt_of_le h.2 ?_⟩;have h1:((oprF x).take j).length<=7:=by rw[List.length_take];simp[oprF];omega
 have h2:∀m<8,(2:Int) ^ m<=128:=by decide
 exact h2 _ (by omega)
theorem zzq (k us c1 r1 c2 r2:Int) (s:zaa) (rd wt ow fns to_ ix:Int) (j:Nat) (hj:j<7):∃(a1 a2 a3 a4 a5:Int) (x:zaa) (a6 a7 a8 a9 a10 a11:Int) (q:Bool),(∀W,Calls prog 167 #[.agg (aJ k us c1 r1 c2 r2 s rd wt ow fns to_ ix),.int .i64 ((2 ^ j:Nat):Int)] W λu W'=>u=.returned (.agg (aJ k a1 a2 a3 a4 a5 x a6 a7 a8 a9 a10 a11))/\Below W W W')/\(∀W:World,(binOp .neq 48 (.agg (aJ k a1 a2 a3 a4 a5 x a6 a7 a8 a9 a10 a11)) (.agg (aK k))).run prog W=.ok (.bool q) W)/\mkN ⟨k,us,⟨c1,r1,c2,r2⟩,s,⟨rd,wt,ow⟩,fns,to_,ix⟩ (j+1)=mkN ⟨k,us,⟨c1,r1,c2,r2⟩,s,⟨rd,wt,ow⟩,fns,to_,ix⟩ j+if q then 2 ^ j else 0:=by
 have HS:=zwc k us c1 r1 c2 r2 s rd wt ow fns to_ ix;rcases (by omega:j=0\/j=1\/j=2\/j=3\/j=4\/j=5\/j=6) with rfl|rfl|rfl|rfl|rfl|rfl|rfl
 ·exact ⟨_,_,_,_,_,_,_,_,_,_,_,_,_,λW=>zy9 k us c1 r1 c2 r2 s rd wt ow fns to_ ix W,λW=>ztd k us c1 r1 c2 r2 s rd wt ow fns to_ ix W,HS 0 (decide (¬us=0)) (numI us) rfl⟩
 ·exact ⟨_,_,_,_,_,_,_,_,_,_,_,_,_,λW=>zy8 k us c1 r1 c2 r2 s rd wt ow fns to_ ix W,λW=>ztc k us c1 r1 c2 r2 s rd wt ow fns to_ ix W,HS 1 (decide (¬(⟨c1,r1,c2,r2⟩:Rct)=⟨0,0,0,0⟩)) (za7 ⟨c1,r1,c2,r2⟩) rfl⟩
 ·exact ⟨_,_,_,_,_,_,_,_,_,_,_,_,_,λW=>zy7 k us c1 r1 c2 r2 s rd wt ow fns to_ ix W,λW=>ztb k us c1 r1 c2 r2 s rd wt ow fns to_ ix W,HS 2 (decide (¬s=[])) (zcv s) rfl⟩
 ·exact ⟨_,_,_,_,_,_,_,_,_,_,_,_,_,λW=>zy6 k us c1 r1 c2 r2 s rd wt ow fns to_ ix W,λW=>zta k us c1 r1 c2 r2 s rd wt ow fns to_ ix W,HS 3 (decide (¬(⟨rd,wt,ow⟩:Rts)=⟨0,0,0⟩)) (zce ⟨rd,wt,ow⟩) rfl⟩
 ·exact ⟨_,_,_,_,_,_,_,_,_,_,_,_,_,λW=>zy5 k us c1 r1 c2 r2 s rd wt ow fns to_ ix W,λW=>zs9 k us c1 r1 c2 r2 s rd wt ow fns to_ ix W,HS 4 (decide (¬fns=0)) (numI fns) rfl⟩
 ·exact ⟨_,_,_,_,_,_,_,_,_,_,_,_,_,λW=>zy4 k us c1 r1 c2 r2 s rd wt ow fns to_ ix W,λW=>zs8 k us c1 r1 c2 r2 s rd wt ow fns to_ ix W,HS 5 (decide (¬to_=0)) (numI to_) rfl⟩
 exact ⟨_,_,_,_,_,_,_,_,_,_,_,_,_,λW=>zy3 k us c1 r1 c2 r2 s rd wt ow fns to_ ix W,λW=>zs7 k us c1 r1 c2 r2 s rd wt ow fns to_ ix W,HS 6 (decide (¬ix=0)) (numI ix) rfl⟩
theorem r_mask (k us c1 r1 c2 r2:Int) (s:zaa) (rd wt ow fns to_ ix:Int) (w:World):
 Calls prog 109 #[.agg (aJ k us c1 r1 c2 r2 s rd wt ow fns to_ ix)] w λu w'=>u=.returned (.int .i64 (zdh (oprF ⟨k,us,⟨c1,r1,c2,r2⟩,s,⟨rd,wt,ow⟩,fns,to_,ix⟩)))/\Below w w w':=by
 have HM:=jM (zdh (oprF ⟨k,us,⟨c1,r1,c2,r2⟩,s,⟨rd,wt,ow⟩,fns,to_,ix⟩)=mkN ⟨k,us,⟨c1,r1,c2,r2⟩,s,⟨rd,wt,ow⟩,fns,to_,ix⟩ 7) rfl;have H0:=jM (mkN ⟨k,us,⟨c1,r1,c2,r2⟩,s,⟨rd,wt,ow⟩,fns,to_,ix⟩ 0=0) rfl;have HBD:=Hd (zwb ⟨k,us,⟨c1,r1,c2,r2⟩,s,⟨rd,wt,ow⟩,fns,to_,ix⟩);have HB7:=Hd (zzq k us c1 r1 c2 r2 s rd wt ow fns to_ ix);rw[HM.o];go_enter func109,ntmps109;go_wp2;go_loopw [3,4] (λn b wr=>∃(j m:Nat),j<=7/\2 ^ j=m/\n=.int .i64 (mkN ⟨k,us,⟨c1,r1,c2,r2⟩,s,⟨rd,wt,ow⟩,fns,to_,ix⟩ j)/\b=.int .i64 (m:Int)/\Below w w wr/\Blk wr w 48 (aJ k us c1 r1 c2 r2 s rd wt ow fns to_ ix)) (λ_ b _=>129-(intOf b).toNat)
 case atStart=>exact ⟨0,1,by omega,rfl,by rw[H0.o],rfl,by go_grown,je w _ _⟩
 obtain ⟨j,m,hj,hm,rfl,rfl,hb,kb⟩:=hrel;have HB:=Hd hb;have KB:=Hd kb;clear hb kb;have hbd:=HBD.o j;by_cases h7:j=7
 ·subst h7;obtain rfl:m=128:=by rw[<- hm]
  have hle:¬((128:Nat):Int)<=64:=by omega
  go_wp2;go_ret;exact ⟨rfl,HB.o⟩
 have hm64:m<=64:=by rw[<- hm];exact jx (Nat.pow_le_pow_right (by decide) (by omega:j<=6)) (by decide)
 have hm1:1<=m:=by rw[<- hm];exact Nat.one_le_two_pow
 have hle:(m:Int)<=64:=by omega
 obtain ⟨a1,a2,a3,a4,a5,x,a6,a7,a8,a9,a10,a11,q,hO,hne,hE⟩:=HB7.o j (by omega);rw[show ((2 ^ j:Nat):Int)=(m:Int) by rw[hm]] at hO;have HO:=Hd hO;have HE:=jM (mkN ⟨k,us,⟨c1,r1,c2,r2⟩,s,⟨rd,wt,ow⟩,fns,to_,ix⟩ (j+1)=mkN ⟨k,us,⟨c1,r1,c2,r2⟩,s,⟨rd,wt,ow⟩,fns,to_,ix⟩ j+if q then (m:Int) else 0) (by rw[hE,<- hm];cases q <;> simp);have HM2:=jM (2 ^ (j+1)=2*m) (by rw[Nat.pow_succ,hm,Nat.mul_comm]);generalize mkN ⟨k,us,⟨c1,r1,c2,r2⟩,s,⟨rd,wt,ow⟩,fns,to_,ix⟩ j=n at *;clear hO hE hm;go_wp2_with fail;refine wp_region_noPanic ?_;refine wp_region_held_drew (S:=λW'=>Blk W' w.heap.size 48 (aJ k us c1 r1 c2 r2 s rd wt ow fns to_ ix)/\Below w w W') (by kernel_rfl) ⟨KB.o.drew,HB.o.drew⟩ (λhHeld=>?_);refine tH 0 (.agg _) hHeld ?_ (hy:=yieldsIf_load_mid rfl _ _ rfl (w.heap.size) (0) rfl _ _ (λW h=>h.1.range (l:=[.int .u8 k,.int .i64 us,.int .i64 c1,.int .i64 r1,.int .i64 c2,.int .i64 r2,str s,.int .u64 rd,.int .u64 wt,.int .u64 ow,.int .u8 fns,.int .u64 to_,.int .i64 ix]) (o:=0) (by intro j v hj;rw[Nat.zero_add];exact List.getElem?_toArray.trans hj)) rfl rfl (by kernel_rfl))
 try go_frame
 refine tH 1 (.int .i64 (m:Int)) hHeld ?_
 try go_frame
 refine tH 3 (.pointer (some ⟨w.heap.size,0,none⟩)) hHeld ?_
 try go_frame
 refine tH 4 (.int .u8 k) hHeld ?_ (hy:=Or.inl ⟨by rfl,by intro W hW;have hc:W.cell? ⟨w.heap.size,0,none⟩=some (.int .u8 k):=hW.1.cell 0;go_simp⟩)
 try go_frame
 refine tH 5 (.agg (aK k)) hHeld ?_
 try go_frame
 refine tC 2 rfl λK hK=>?_;go_simp;go_at_call 167;refine (HO.o _).mono ?_;rintro u w2 ⟨rfl,hb2⟩;refine hK.out _ _ (⟨hHeld.1.below_ hb2,jd hHeld.2 hb2 hHeld.2.size⟩) (λhHeld=>?_);clear hK K
 try go_frame
 refine tH 6 (.bool q) hHeld ?_
 try go_frame
 refine wpAnyH_done (by kernel_rfl) ?_ _;refine NoPanic.normal ?_;have HB2:=Hd hHeld.2;have KB2:=Hd hHeld.1;clear hHeld hb2;cases q
 ·go_wp2;exact ⟨⟨j+1,2*m,by omega,HM2.o,by rw[HE.o];simp,by go_num,HB2.o,KB2.o⟩,by simp[intOf];omega⟩
 go_wp2;exact ⟨⟨j+1,2*m,by omega,HM2.o,by rw[HE.o];simp,by go_num,HB2.o,KB2.o⟩,by simp[intOf];omega⟩
theorem WS.below {cs:Array Value} {l:zaa} (h:WS W0 p v0 g T cs W v l) (k:Below W W W1):WS W0 p v0 g T cs W1 v l:=
 ⟨h.wr.below k,h.to_.below k,h.kb.below_ k,h.ne,h.gp⟩
theorem zwd:∀a b c d e f g:Bool,bits .and .i64 ((zfb a b c d e f g:Nat):Int) 1=(if a then 1 else 0)/\bits .and .i64 ((zfb a b c d e f g:Nat):Int) 2=(if b then 2 else 0)/\bits .and .i64 ((zfb a b c d e f g:Nat):Int) 4=(if c then 4 else 0)/\bits .and .i64 ((zfb a b c d e f g:Nat):Int) 8=(if d then 8 else 0)/\bits .and .i64 ((zfb a b c d e f g:Nat):Int) 16=(if e then 16 else 0)/\bits .and .i64 ((zfb a b c d e f g:Nat):Int) 32=(if f then 32 else 0)/\bits .and .i64 ((zfb a b c d e f g:Nat):Int) 64=(if g then 64 else 0):=by decide+kernel
theorem z3f (a b c d e f g:Bool) (A B C D E F G:zaa):zdh [(a,A),(b,B),(c,C),(d,D),(e,E),(f,F),(g,G)]=((zfb a b c d e f g:Nat):Int):=by
 simp only[zdh,zfb];cases a <;> cases b <;> cases c <;> cases d <;> cases e <;> cases f <;> cases g <;> rfl
theorem zzr (x:Opr):bits .and .i64 (zdh (oprF x)) 1=(if decide (¬x.user=0) then 1 else 0)/\bits .and .i64 (zdh (oprF x)) 2=(if decide (¬x.rect=⟨0,0,0,0⟩) then 2 else 0)/\bits .and .i64 (zdh (oprF x)) 4=(if decide (¬x.input=[]) then 4 else 0)/\bits .and .i64 (zdh (oprF x)) 8=(if decide (¬x.rights=⟨0,0,0⟩) then 8 else 0)/\bits .and .i64 (zdh (oprF x)) 16=(if decide (¬x.fns=0) then 16 else 0)/\bits .and .i64 (zdh (oprF x)) 32=(if decide (¬x.to_=0) then 32 else 0)/\bits .and .i64 (zdh (oprF x)) 64=(if decide (¬x.index=0) then 64 else 0):=by
 unfold oprF;rw[z3f];exact zwd _ _ _ _ _ _ _
theorem z2z (x:Opr):oprB x=numI x.kind++numI (zdh (oprF x))++mkS x 7:=rfl
theorem mkS_0 (x:Opr):mkS x 1=mkS x 0++if x.user=0 then [] else numI x.user:=by
 by_cases h:x.user=0
 ·rw[jb h,jh];exact (zcb x 0 (numI x.user) (by rw[show (oprF x)[0]?=some (decide (¬x.user=0),numI x.user) from rfl,jA (by simpa using h)])).2
 rw[ja h];exact (zda x 0 (numI x.user) (by decide) (by rw[show (oprF x)[0]?=some (decide (¬x.user=0),numI x.user) from rfl,jB h])).2
theorem mkS_1 (x:Opr):mkS x 2=mkS x 1++if x.rect=⟨0,0,0,0⟩ then [] else za7 x.rect:=by
 by_cases h:x.rect=⟨0,0,0,0⟩
 ·rw[jb h,jh];exact (zcb x 1 (za7 x.rect) (by rw[show (oprF x)[1]?=some (decide (¬x.rect=⟨0,0,0,0⟩),za7 x.rect) from rfl,jA (by simpa using h)])).2
 rw[ja h];exact (zda x 1 (za7 x.rect) (by decide) (by rw[show (oprF x)[1]?=some (decide (¬x.rect=⟨0,0,0,0⟩),za7 x.rect) from rfl,jB h])).2
theorem mkS_2 (x:Opr):mkS x 3=mkS x 2++if x.input=[] then [] else zcv x.input:=by
 by_cases h:x.input=[]
 ·rw[jb h,jh];exact (zcb x 2 (zcv x.input) (by rw[show (oprF x)[2]?=some (decide (¬x.input=[]),zcv x.input) from rfl,jA (by simpa using h)])).2
 rw[ja h];exact (zda x 2 (zcv x.input) (by decide) (by rw[show (oprF x)[2]?=some (decide (¬x.input=[]),zcv x.input) from rfl,jB h])).2
theorem mkS_3 (x:Opr):mkS x 4=mkS x 3++if x.rights=⟨0,0,0⟩ then [] else zce x.rights:=by
 by_cases h:x.rights=⟨0,0,0⟩
 ·rw[jb h,jh];exact (zcb x 3 (zce x.rights) (by rw[show (oprF x)[3]?=some (decide (¬x.rights=⟨0,0,0⟩),zce x.rights) from rfl,jA (by simpa using h)])).2
 rw[ja h];exact (zda x 3 (zce x.rights) (by decide) (by rw[show (oprF x)[3]?=some (decide (¬x.rights=⟨0,0,0⟩),zce x.rights) from rfl,jB h])).2
theorem mkS_4 (x:Opr):mkS x 5=mkS x 4++if x.fns=0 then [] else numI x.fns:=by
 by_cases h:x.fns=0
 ·rw[jb h,jh];exact (zcb x 4 (numI x.fns) (by rw[show (oprF x)[4]?=some (decide (¬x.fns=0),numI x.fns) from rfl,jA (by simpa using h)])).2
 rw[ja h];exact (zda x 4 (numI x.fns) (by decide) (by rw[show (oprF x)[4]?=some (decide (¬x.fns=0),numI x.fns) from rfl,jB h])).2
theorem mkS_5 (x:Opr):mkS x 6=mkS x 5++if x.to_=0 then [] else numI x.to_:=by
 by_cases h:x.to_=0
 ·rw[jb h,jh];exact (zcb x 5 (numI x.to_) (by rw[show (oprF x)[5]?=some (decide (¬x.to_=0),numI x.to_) from rfl,jA (by simpa using h)])).2
 rw[ja h];exact (zda x 5 (numI x.to_) (by decide) (by rw[show (oprF x)[5]?=some (decide (¬x.to_=0),numI x.to_) from rfl,jB h])).2
theorem mkS_6 (x:Opr):mkS x 7=mkS x 6++if x.index=0 then [] else numI x.index:=by
 by_cases h:x.index=0
 ·rw[jb h,jh];exact (zcb x 6 (numI x.index) (by rw[show (oprF x)[6]?=some (decide (¬x.index=0),numI x.index) from rfl,jA (by simpa using h)])).2
 rw[ja h];exact (zda x 6 (numI x.index) (by decide) (by rw[show (oprF x)[6]?=some (decide (¬x.index=0),numI x.index) from rfl,jB h])).2
theorem rw_op (p:Nat) (v:Value) (l:zaa) (x:Opr) (W:World) (h:WrAt W p v l) (hx:OkOpr x) (hi:x.input.length<=1000000) (hl:l.length<=1000000000):
 Calls prog 30 #[(aA p),.agg x] W λu W'=>u=.returned (.tuple #[])/\∃v',WrAt W' p v' (l++oprB x)/\WTo p W v W' v':=by
 have HX:=Hd hx;have HS0:=Hd (WS.start h 48 #[.int .u8 x.kind,.int .i64 x.user,.int .i64 x.rect.c1,.int .i64 x.rect.r1,.int .i64 x.rect.c2,.int .i64 x.rect.r2,str x.input,.int .u64 x.rights.rd,.int .u64 x.rights.wr,.int .u64 x.rights.ow,.int .u8 x.fns,.int .u64 x.to_,.int .i64 x.index]);have hg0:=HS0.o.kb.lt;have k0:=hx.kind.1;have k1:=hx.kind.2;have n0:=hx.fns.1;have n1:=hx.fns.2;have HM:=Hd (zhl x hi);have HE:=Hd (z2z x);have HA:=Hd (zzr x);have ml1:=zab x.kind;have ml2:=zab (zdh (oprF x));clear h hx;go_enter func30,ntmps30;go_wp2_with fail;refine (r_mask x.kind x.user x.rect.c1 x.rect.r1 x.rect.c2 x.rect.r2 x.input x.rights.rd x.rights.wr x.rights.ow x.fns x.to_ x.index _).mono ?_;rintro u w1 ⟨rfl,hb1⟩;have HS1:=Hd (HS0.o.below hb1);have c0:=HS1.o.kb.cell 0;have hg1:=HS1.o.kb.lt;clear hb1 HS0;rw[show (⟨x.kind,x.user,⟨x.rect.c1,x.rect.r1,x.rect.c2,x.rect.r2⟩,x.input,⟨x.rights.rd,x.rights.wr,x.rights.ow⟩,x.fns,x.to_,x.index⟩:Opr)=x from rfl];generalize zdh (oprF x)=m at *;go_wp2_with fail;refine (zef p _ _ x.kind _ k0 (by omega) HS1.o.wr (by omega)).mono ?_;rintro u w2 ⟨rfl,v2,h2,t2⟩;have HS2:=Hd (HS1.o.next h2 t2);have hg2:=HS2.o.kb.lt;clear h2 t2 HS1
 try clear c0
 go_wp2_with fail;refine (zb2 p _ _ m _ HS2.o.wr (by rw[jH];omega)).mono ?_;rintro u w3 ⟨rfl,v3,h3,t3⟩;have HS:=Hd (HS2.o.next h3 t3);have hgs:=HS.o.kb.lt;clear h3 t3 HS2
 try clear c0
 try clear hg1
 try clear hg2
 rw[jJ] at HS;obtain ⟨L,hL⟩:=jN (l++(numI x.kind++numI m));have hLl:L.length<=1000000018:=by rw[<- hL,jH,jH];omega
 rw[hL] at HS;have HL:=jM (l++(numI x.kind++numI m++mkS x 7)=L++mkS x 7) (by rw[<- hL,jJ,jJ,jJ]);clear hL;rw[show L=L++mkS x 0 from (jh L).symm] at HS;go_upto_if 17 with (fail)
 go_cut [4] from 5 (λu4 wx=>u4=.int .i64 m/\∃v',WS W p v W.heap.size 48 #[.int .u8 x.kind,.int .i64 x.user,.int .i64 x.rect.c1,.int .i64 x.rect.r1,.int .i64 x.rect.c2,.int .i64 x.rect.r2,str x.input,.int .u64 x.rights.rd,.int .u64 x.rights.wr,.int .u64 x.rights.ow,.int .u8 x.fns,.int .u64 x.to_,.int .i64 x.index] wx v' (L++mkS x 1))
 case first=>
  have hml:=HM.o 0;have hLm:(L++mkS x 0).length<=2000000000:=by rw[jH];omega
  have hMS:=mkS_0 x;by_cases hc:x.user=0
  ·have hbit:bits .and .i64 m 1=0:=by
    have e:=HA.o.1;rw[e];simp[hc]
   rw[jb hc,jh] at hMS;have HMS:=Hd hMS;clear hMS hc;go_wp2;go_meet;exact ⟨rfl,_,by rw[HMS.o];exact HS.o⟩
  have hbit:bits .and .i64 m 1=1:=by have e:=HA.o.1;rw[e];simp[hc]
  rw[ja hc] at hMS;have HMS:=Hd hMS;clear hMS hc;have c1:=HS.o.kb.cell 1;go_wp2_with fail;refine (zb2 p _ _ x.user _ HS.o.wr (by omega)).mono ?_;rintro u w4 ⟨rfl,v4,h4,t4⟩;have HS4:=Hd (HS.o.next h4 t4);clear h4 t4;rw[jJ,<- HMS.o] at HS4;go_wp2;go_meet;exact ⟨rfl,_,HS4.o⟩
 obtain ⟨rfl,v5,hs⟩:=hcut;clear HS hgs;have HS:=Hd hs;have hgs:=HS.o.kb.lt;clear hs;go_upto_if 24 with (fail)
 go_cut [4] from 5 (λu4 wx=>u4=.int .i64 m/\∃v',WS W p v W.heap.size 48 #[.int .u8 x.kind,.int .i64 x.user,.int .i64 x.rect.c1,.int .i64 x.rect.r1,.int .i64 x.rect.c2,.int .i64 x.rect.r2,str x.input,.int .u64 x.rights.rd,.int .u64 x.rights.wr,.int .u64 x.rights.ow,.int .u8 x.fns,.int .u64 x.to_,.int .i64 x.index] wx v' (L++mkS x 2))
 case first=>
  have hml:=HM.o 1;have hLm:(L++mkS x 1).length<=2000000000:=by rw[jH];omega
  have hMS:=mkS_1 x;by_cases hc:x.rect=⟨0,0,0,0⟩
  ·have hbit:bits .and .i64 m 2=0:=by
    have e:=HA.o.2.1;rw[e];simp[hc]
   rw[jb hc,jh] at hMS;have HMS:=Hd hMS;clear hMS hc;go_wp2;go_meet;exact ⟨rfl,_,by rw[HMS.o];exact HS.o⟩
  have hbit:bits .and .i64 m 2=2:=by have e:=HA.o.2.1;rw[e];simp[hc]
  rw[ja hc] at hMS;have HMS:=Hd hMS;clear hMS hc;obtain ⟨c2,c3,c4,c5⟩:=HS.o.kb.c4 2 3 4 5;go_wp2_with fail;refine (zjc p _ _ x.rect _ HS.o.wr (by omega)).mono ?_;rintro u w4 ⟨rfl,v4,h4,t4⟩;have HS4:=Hd (HS.o.next h4 t4);clear h4 t4;rw[jJ,<- HMS.o] at HS4;go_wp2;go_meet;exact ⟨rfl,_,HS4.o⟩
 obtain ⟨rfl,v5,hs⟩:=hcut;clear HS hgs;have HS:=Hd hs;have hgs:=HS.o.kb.lt;clear hs;go_upto_if 31 with (fail)
 go_cut [4] from 5 (λu4 wx=>u4=.int .i64 m/\∃v',WS W p v W.heap.size 48 #[.int .u8 x.kind,.int .i64 x.user,.int .i64 x.rect.c1,.int .i64 x.rect.r1,.int .i64 x.rect.c2,.int .i64 x.rect.r2,str x.input,.int .u64 x.rights.rd,.int .u64 x.rights.wr,.int .u64 x.rights.ow,.int .u8 x.fns,.int .u64 x.to_,.int .i64 x.index] wx v' (L++mkS x 3))
 case first=>
  have hml:=HM.o 2;have hLm:(L++mkS x 2).length<=2000000000:=by rw[jH];omega
  have hMS:=mkS_2 x;by_cases hc:x.input=[]
  ·have hbit:bits .and .i64 m 4=0:=by
    have e:=HA.o.2.2.1;rw[e];simp[hc]
   rw[jb hc,jh] at hMS;have HMS:=Hd hMS;clear hMS hc;go_wp2;go_meet;exact ⟨rfl,_,by rw[HMS.o];exact HS.o⟩
  have hbit:bits .and .i64 m 4=4:=by have e:=HA.o.2.2.1;rw[e];simp[hc]
  rw[ja hc] at hMS;have HMS:=Hd hMS;clear hMS hc;have c6:=HS.o.kb.cell 6;go_wp2_with fail;refine (zur p _ _ x.input _ HS.o.wr (by omega) (by omega)).mono ?_;rintro u w4 ⟨rfl,v4,h4,t4⟩;have HS4:=Hd (HS.o.next h4 t4);clear h4 t4;rw[jJ,<- HMS.o] at HS4;go_wp2;go_meet;exact ⟨rfl,_,HS4.o⟩
 obtain ⟨rfl,v5,hs⟩:=hcut;clear HS hgs;have HS:=Hd hs;have hgs:=HS.o.kb.lt;clear hs;go_upto_if 38 with (fail)
 go_cut [4] from 5 (λu4 wx=>u4=.int .i64 m/\∃v',WS W p v W.heap.size 48 #[.int .u8 x.kind,.int .i64 x.user,.int .i64 x.rect.c1,.int .i64 x.rect.r1,.int .i64 x.rect.c2,.int .i64 x.rect.r2,str x.input,.int .u64 x.rights.rd,.int .u64 x.rights.wr,.int .u64 x.rights.ow,.int .u8 x.fns,.int .u64 x.to_,.int .i64 x.index] wx v' (L++mkS x 4))
 case first=>
  have hml:=HM.o 3;have hLm:(L++mkS x 3).length<=2000000000:=by rw[jH];omega
  have hMS:=mkS_3 x;by_cases hc:x.rights=⟨0,0,0⟩
  ·have hbit:bits .and .i64 m 8=0:=by
    have e:=HA.o.2.2.2.1;rw[e];simp[hc]
   rw[jb hc,jh] at hMS;have HMS:=Hd hMS;clear hMS hc;go_wp2;go_meet;exact ⟨rfl,_,by rw[HMS.o];exact HS.o⟩
  have hbit:bits .and .i64 m 8=8:=by have e:=HA.o.2.2.2.1;rw[e];simp[hc]
  rw[ja hc] at hMS;have HMS:=Hd hMS;clear hMS hc;obtain ⟨c7,c8,c9⟩:=HS.o.kb.c3 7 8 9;go_wp2_with fail;refine (znc p _ _ x.rights ⟨HX.o.rights.rd.1,HX.o.rights.rd.2,HX.o.rights.wr.1,HX.o.rights.wr.2,HX.o.rights.ow.1,HX.o.rights.ow.2⟩ _ HS.o.wr (by omega)).mono ?_;rintro u w4 ⟨rfl,v4,h4,t4⟩;have HS4:=Hd (HS.o.next h4 t4);clear h4 t4;rw[jJ,<- HMS.o] at HS4;go_wp2;go_meet;exact ⟨rfl,_,HS4.o⟩
 obtain ⟨rfl,v5,hs⟩:=hcut;clear HS hgs;have HS:=Hd hs;have hgs:=HS.o.kb.lt;clear hs;go_upto_if 45 with (fail)
 go_cut [4] from 5 (λu4 wx=>u4=.int .i64 m/\∃v',WS W p v W.heap.size 48 #[.int .u8 x.kind,.int .i64 x.user,.int .i64 x.rect.c1,.int .i64 x.rect.r1,.int .i64 x.rect.c2,.int .i64 x.rect.r2,str x.input,.int .u64 x.rights.rd,.int .u64 x.rights.wr,.int .u64 x.rights.ow,.int .u8 x.fns,.int .u64 x.to_,.int .i64 x.index] wx v' (L++mkS x 5))
 case first=>
  have hml:=HM.o 4;have hLm:(L++mkS x 4).length<=2000000000:=by rw[jH];omega
  have hMS:=mkS_4 x;by_cases hc:x.fns=0
  ·have hbit:bits .and .i64 m 16=0:=by
    have e:=HA.o.2.2.2.2.1;rw[e];simp[hc]
   rw[jb hc,jh] at hMS;have HMS:=Hd hMS;clear hMS hc;go_wp2;go_meet;exact ⟨rfl,_,by rw[HMS.o];exact HS.o⟩
  have hbit:bits .and .i64 m 16=16:=by have e:=HA.o.2.2.2.2.1;rw[e];simp[hc]
  rw[ja hc] at hMS;have HMS:=Hd hMS;clear hMS hc;have c10:=HS.o.kb.cell 10;go_wp2_with fail;refine (zef p _ _ x.fns _ (by omega) (by omega) HS.o.wr (by omega)).mono ?_;rintro u w4 ⟨rfl,v4,h4,t4⟩;have HS4:=Hd (HS.o.next h4 t4);clear h4 t4;rw[jJ,<- HMS.o] at HS4;go_wp2;go_meet;exact ⟨rfl,_,HS4.o⟩
 obtain ⟨rfl,v5,hs⟩:=hcut;clear HS hgs;have HS:=Hd hs;have hgs:=HS.o.kb.lt;clear hs;go_upto_if 53 with (fail)
 go_cut [4] from 5 (λu4 wx=>u4=.int .i64 m/\∃v',WS W p v W.heap.size 48 #[.int .u8 x.kind,.int .i64 x.user,.int .i64 x.rect.c1,.int .i64 x.rect.r1,.int .i64 x.rect.c2,.int .i64 x.rect.r2,str x.input,.int .u64 x.rights.rd,.int .u64 x.rights.wr,.int .u64 x.rights.ow,.int .u8 x.fns,.int .u64 x.to_,.int .i64 x.index] wx v' (L++mkS x 6))
 case first=>
  have hml:=HM.o 5;have hLm:(L++mkS x 5).length<=2000000000:=by rw[jH];omega
  have hMS:=mkS_5 x;by_cases hc:x.to_=0
  ·have hbit:bits .and .i64 m 32=0:=by
    have e:=HA.o.2.2.2.2.2.1;rw[e];simp[hc]
   rw[jb hc,jh] at hMS;have HMS:=Hd hMS;clear hMS hc;go_wp2;go_meet;exact ⟨rfl,_,by rw[HMS.o];exact HS.o⟩
  have hbit:bits .and .i64 m 32=32:=by have e:=HA.o.2.2.2.2.2.1;rw[e];simp[hc]
  rw[ja hc] at hMS;have HMS:=Hd hMS;clear hMS hc;have c11:=HS.o.kb.cell 11;go_wp2_with fail;refine (zef p _ _ x.to_ _ HX.o.to_.1 HX.o.to_.2 HS.o.wr (by omega)).mono ?_;rintro u w4 ⟨rfl,v4,h4,t4⟩;have HS4:=Hd (HS.o.next h4 t4);clear h4 t4;rw[jJ,<- HMS.o] at HS4;go_wp2;go_meet;exact ⟨rfl,_,HS4.o⟩
 obtain ⟨rfl,v5,hs⟩:=hcut;clear HS hgs;have HS:=Hd hs;have hgs:=HS.o.kb.lt;clear hs;have hml:=HM.o 6;have hLm:(L++mkS x 6).length<=2000000000:=by rw[jH];omega
 have hMS:=mkS_6 x;by_cases hc:x.index=0
 ·have hbit:bits .and .i64 m 64=0:=by
   have e:=HA.o.2.2.2.2.2.2;rw[e];simp[hc]
  rw[jb hc,jh] at hMS;have HMS:=Hd hMS;clear hMS hc;go_wp2;refine bE ?_;exact ⟨rfl,_,by rw[HE.o,HL.o,HMS.o];exact HS.o.wr,HS.o.to_⟩
 have hbit:bits .and .i64 m 64=64:=by have e:=HA.o.2.2.2.2.2.2;rw[e];simp[hc]
 rw[ja hc] at hMS;have HMS:=Hd hMS;clear hMS hc;have c12:=HS.o.kb.cell 12;go_wp2_with fail;refine (zb2 p _ _ x.index _ HS.o.wr (by omega)).mono ?_;rintro u w4 ⟨rfl,v4,h4,t4⟩;have HS4:=Hd (HS.o.next h4 t4);clear h4 t4;rw[jJ,<- HMS.o] at HS4;go_wp2;refine bE ?_;exact ⟨rfl,_,by rw[HE.o,HL.o];exact HS4.o.wr,HS4.o.to_⟩
theorem zjw (f:α->Int) (step:Int):∀l:List α,l.Pairwise (λa b=>f a<=f b)->l.any (λx=>decide (step<=f x))=zgu step (l.getLast?.map f)
 | [],_=>rfl
 | [x],_=>by simp[zgu]
 | x::y::l,h=>by
  obtain ⟨h1,h2⟩:=List.pairwise_cons.1 h;have ih:=zjw f step (y::l) h2;rw[List.any_cons,ih,List.getLast?_cons_cons];obtain ⟨z,hz⟩:∃z,(y::l).getLast?=some z:=⟨_,List.getLast?_eq_some_getLast (by simp)⟩;have hm:=h1 z (List.mem_of_getLast? hz);rw[hz];simp only[Option.map,zgu];by_cases hs:step<=f x
  ·rw[jB hs,jB (by omega:step<=f z)];rfl
  rw[jA hs,Bool.false_or]
theorem zw5 (u:Int):∀(l:List Evt) (z:Int),evsE u z l=0->(∀y∈l,z<y.step)/\l.Pairwise (λa b=>a.step<=b.step)
 | [],_,_=>⟨by simp,List.Pairwise.nil⟩
 | x::l,z,h=>by
  unfold evsE at h;by_cases he:evE u z x≠0
  ·rw[jb he] at h;exact absurd h he
  rw[ja he] at h;obtain ⟨h1,h2⟩:=zw5 u l x.step h;have hz:z<x.step:=by
   by_cases hz:x.step<=z
   ·exact absurd (by unfold evE;rw[jb hz];decide) he
   omega
  refine ⟨λy hy=>?_,List.pairwise_cons.2 ⟨λy hy=>Int.le_of_lt (h1 y hy),h2⟩⟩;rcases List.mem_cons.1 hy with rfl | hy
  ·exact hz
  have:=h1 y hy;omega
theorem zu5 (u:Int):∀(l:List Rls) (z:Int),rlsE u z l=0->(∀y∈l,z<=y.step)/\l.Pairwise (λa b=>a.step<=b.step)
 | [],_,_=>⟨by simp,List.Pairwise.nil⟩
 | x::l,z,h=>by
  unfold rlsE at h;by_cases he:rlE u z x≠0
  ·rw[jb he] at h;exact absurd h he
  rw[ja he] at h;obtain ⟨h1,h2⟩:=zu5 u l x.step h;have hz:z<=x.step:=by
   by_cases hz:x.step<z
   ·exact absurd (by unfold rlE;rw[jb hz];decide) he
   omega
  refine ⟨λy hy=>?_,List.pairwise_cons.2 ⟨λy hy=>h1 y hy,h2⟩⟩;rcases List.mem_cons.1 hy with rfl | hy
  ·exact hz
  have:=h1 y hy;omega
theorem zz7 {l:List Evt} {m:List Rls} (step:Int) (h:audE u l m=0):
 l.any (λx=>decide (step<=x.step))=zgu step (l.getLast?.map (·.step))/\m.any (λx=>decide (step<=x.step))=zgu step (m.getLast?.map (·.step)):=by
 unfold audE at h;by_cases hu:u<1\/64<u
 ·rw[jb hu] at h;exact absurd h (by decide)
 rw[ja hu] at h;by_cases he:evsE u (-1) l=0
 ·rw[ja (by simpa using he)] at h;exact ⟨zjw _ _ _ (zw5 u l _ he).2,zjw _ _ _ (zu5 u m _ h).2⟩
 rw[jb he] at h;exact absurd h he
theorem zr2 (f:α->Bool) {l:List α} {x:α} (h:l[k]?=some x):(l.drop k).any f=(f x||(l.drop (k+1)).any f):=by
 have hk:=(jE.1 h).1;rw[jo hk];have:l[k]=x:=by rw[jz hk] at h;simpa using h
 rw[this];rfl
end Go.Proofs.YtamcgggmfghljaaGreatDoor
