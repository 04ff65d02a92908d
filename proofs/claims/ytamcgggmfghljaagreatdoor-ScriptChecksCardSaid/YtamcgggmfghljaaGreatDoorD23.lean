/- Layer 29 (reference): the mask of an operation (printed by tools/gen_rwd.py). -/
import Derived.Test.YtamcgggmfghljaaGreatDoorD18
import Derived.Test.YtamcgggmfghljaaGreatDoorD22
set_option maxRecDepth 100000
set_option maxHeartbeats 8000000
open Go.Proofs.Tryz
namespace Go.Proofs.YtamcgggmfghljaaGreatDoor
open Go.RowKit
theorem zpp (k us _c1 _r1 _c2 _r2:Int) (_s:zaa) (_rd _wt _ow _fns _to_ _ix:Int) (W:World):(binOp .neq 48 (.agg #[.int .u8 k,.int .i64 us,.int .i64 0,.int .i64 0,.int .i64 0,.int .i64 0,str [],.int .u64 0,.int .u64 0,.int .u64 0,.int .u8 0,.int .u64 0,.int .i64 0]) (.agg #[.int .u8 k,.int .i64 0,.int .i64 0,.int .i64 0,.int .i64 0,.int .i64 0,str [],.int .u64 0,.int .u64 0,.int .u64 0,.int .u8 0,.int .u64 0,.int .i64 0])).run prog W=.ok (.bool (decide (¬us=0))) W:=by
 by_cases hf:us=0
 ·rw [decide_eq_false (by simpa using hf)]
  skip
  simp [go_sem,hf]
 rw [decide_eq_true hf]
 skip
 simp [go_sem,hf]
theorem zpo (k _us c1 r1 c2 r2:Int) (_s:zaa) (_rd _wt _ow _fns _to_ _ix:Int) (W:World):(binOp .neq 48 (.agg #[.int .u8 k,.int .i64 0,.int .i64 c1,.int .i64 r1,.int .i64 c2,.int .i64 r2,str [],.int .u64 0,.int .u64 0,.int .u64 0,.int .u8 0,.int .u64 0,.int .i64 0]) (.agg #[.int .u8 k,.int .i64 0,.int .i64 0,.int .i64 0,.int .i64 0,.int .i64 0,str [],.int .u64 0,.int .u64 0,.int .u64 0,.int .u8 0,.int .u64 0,.int .i64 0])).run prog W=.ok (.bool (decide (¬(⟨c1,r1,c2,r2⟩:Rct)=⟨0,0,0,0⟩))) W:=by
 by_cases hf:(⟨c1,r1,c2,r2⟩:Rct)=⟨0,0,0,0⟩
 ·rw [decide_eq_false (by simpa using hf)]
  simp only [Rct.mk.injEq] at hf
  simp [go_sem,hf]
 rw [decide_eq_true hf]
 simp only [Rct.mk.injEq] at hf
 simp [go_sem]
 intro a b c d
 exact hf ⟨a,b,c,d⟩
theorem zpn (k _us _c1 _r1 _c2 _r2:Int) (s:zaa) (_rd _wt _ow _fns _to_ _ix:Int) (W:World):(binOp .neq 48 (.agg #[.int .u8 k,.int .i64 0,.int .i64 0,.int .i64 0,.int .i64 0,.int .i64 0,str s,.int .u64 0,.int .u64 0,.int .u64 0,.int .u8 0,.int .u64 0,.int .i64 0]) (.agg #[.int .u8 k,.int .i64 0,.int .i64 0,.int .i64 0,.int .i64 0,.int .i64 0,str [],.int .u64 0,.int .u64 0,.int .u64 0,.int .u8 0,.int .u64 0,.int .i64 0])).run prog W=.ok (.bool (decide (¬s=[]))) W:=by
 by_cases hf:s=[]
 ·rw [decide_eq_false (by simpa using hf)]
  skip
  simp [go_sem,hf]
 rw [decide_eq_true hf]
 skip
 simp [go_sem,hf]
theorem zpm (k _us _c1 _r1 _c2 _r2:Int) (_s:zaa) (rd wt ow _fns _to_ _ix:Int) (W:World):(binOp .neq 48 (.agg #[.int .u8 k,.int .i64 0,.int .i64 0,.int .i64 0,.int .i64 0,.int .i64 0,str [],.int .u64 rd,.int .u64 wt,.int .u64 ow,.int .u8 0,.int .u64 0,.int .i64 0]) (.agg #[.int .u8 k,.int .i64 0,.int .i64 0,.int .i64 0,.int .i64 0,.int .i64 0,str [],.int .u64 0,.int .u64 0,.int .u64 0,.int .u8 0,.int .u64 0,.int .i64 0])).run prog W=.ok (.bool (decide (¬(⟨rd,wt,ow⟩:Rts)=⟨0,0,0⟩))) W:=by
 by_cases hf:(⟨rd,wt,ow⟩:Rts)=⟨0,0,0⟩
 ·rw [decide_eq_false (by simpa using hf)]
  simp only [Rts.mk.injEq] at hf
  simp [go_sem,hf]
 rw [decide_eq_true hf]
 simp only [Rts.mk.injEq] at hf
 simp [go_sem]
 intro a b c
 exact hf ⟨a,b,c⟩
theorem zpl (k _us _c1 _r1 _c2 _r2:Int) (_s:zaa) (_rd _wt _ow fns _to_ _ix:Int) (W:World):(binOp .neq 48 (.agg #[.int .u8 k,.int .i64 0,.int .i64 0,.int .i64 0,.int .i64 0,.int .i64 0,str [],.int .u64 0,.int .u64 0,.int .u64 0,.int .u8 fns,.int .u64 0,.int .i64 0]) (.agg #[.int .u8 k,.int .i64 0,.int .i64 0,.int .i64 0,.int .i64 0,.int .i64 0,str [],.int .u64 0,.int .u64 0,.int .u64 0,.int .u8 0,.int .u64 0,.int .i64 0])).run prog W=.ok (.bool (decide (¬fns=0))) W:=by
 by_cases hf:fns=0
 ·rw [decide_eq_false (by simpa using hf)]
  skip
  simp [go_sem,hf]
 rw [decide_eq_true hf]
 skip
 simp [go_sem,hf]
theorem zpk (k _us _c1 _r1 _c2 _r2:Int) (_s:zaa) (_rd _wt _ow _fns to_ _ix:Int) (W:World):(binOp .neq 48 (.agg #[.int .u8 k,.int .i64 0,.int .i64 0,.int .i64 0,.int .i64 0,.int .i64 0,str [],.int .u64 0,.int .u64 0,.int .u64 0,.int .u8 0,.int .u64 to_,.int .i64 0]) (.agg #[.int .u8 k,.int .i64 0,.int .i64 0,.int .i64 0,.int .i64 0,.int .i64 0,str [],.int .u64 0,.int .u64 0,.int .u64 0,.int .u8 0,.int .u64 0,.int .i64 0])).run prog W=.ok (.bool (decide (¬to_=0))) W:=by
 by_cases hf:to_=0
 ·rw [decide_eq_false (by simpa using hf)]
  skip
  simp [go_sem,hf]
 rw [decide_eq_true hf]
 skip
 simp [go_sem,hf]
theorem zpj (k _us _c1 _r1 _c2 _r2:Int) (_s:zaa) (_rd _wt _ow _fns _to_ ix:Int) (W:World):(binOp .neq 48 (.agg #[.int .u8 k,.int .i64 0,.int .i64 0,.int .i64 0,.int .i64 0,.int .i64 0,str [],.int .u64 0,.int .u64 0,.int .u64 0,.int .u8 0,.int .u64 0,.int .i64 ix]) (.agg #[.int .u8 k,.int .i64 0,.int .i64 0,.int .i64 0,.int .i64 0,.int .i64 0,str [],.int .u64 0,.int .u64 0,.int .u64 0,.int .u8 0,.int .u64 0,.int .i64 0])).run prog W=.ok (.bool (decide (¬ix=0))) W:=by
 by_cases hf:ix=0
 ·rw [decide_eq_false (by simpa using hf)]
  skip
  simp [go_sem,hf]
 rw [decide_eq_true hf]
 skip
 simp [go_sem,hf]
theorem zr2 (k us c1 r1 c2 r2:Int) (s:zaa) (rd wt ow fns to_ ix:Int) (j:Nat) (b:Bool) (t:zaa) (h:(oprF ⟨k,us,⟨c1,r1,c2,r2⟩,s,⟨rd,wt,ow⟩,fns,to_,ix⟩)[j]?=some (b,t)):mkN ⟨k,us,⟨c1,r1,c2,r2⟩,s,⟨rd,wt,ow⟩,fns,to_,ix⟩ (j+1)=mkN ⟨k,us,⟨c1,r1,c2,r2⟩,s,⟨rd,wt,ow⟩,fns,to_,ix⟩ j+if b then 2 ^ j else 0:=ze2 _ _ _ _ h
theorem zr1 (x:Opr) (j:Nat):0≤mkN x j∧mkN x j<128:=by
 have h:=zjw ((oprF x).take j)
 refine ⟨h.1,Int.lt_of_lt_of_le h.2 ?_⟩
 have h1:((oprF x).take j).length≤7:=by rw [List.length_take];simp [oprF];omega
 have h2:∀m<8,(2:Int) ^ m≤128:=by decide
 exact h2 _ (by omega)
theorem zvf (k us c1 r1 c2 r2:Int) (s:zaa) (rd wt ow fns to_ ix:Int) (j:Nat) (hj:j<7):∃(a1 a2 a3 a4 a5:Int) (x:zaa) (a6 a7 a8 a9 a10 a11:Int) (q:Bool),(∀W,Calls prog 167 #[.agg #[.int .u8 k,.int .i64 us,.int .i64 c1,.int .i64 r1,.int .i64 c2,.int .i64 r2,str s,.int .u64 rd,.int .u64 wt,.int .u64 ow,.int .u8 fns,.int .u64 to_,.int .i64 ix],.int .i64 ((2 ^ j:Nat):Int)] W fun u W'=>u=.returned (.agg #[.int .u8 k,.int .i64 a1,.int .i64 a2,.int .i64 a3,.int .i64 a4,.int .i64 a5,str x,.int .u64 a6,.int .u64 a7,.int .u64 a8,.int .u8 a9,.int .u64 a10,.int .i64 a11])∧Below W.heap.size W W')∧(∀W:World,(binOp .neq 48 (.agg #[.int .u8 k,.int .i64 a1,.int .i64 a2,.int .i64 a3,.int .i64 a4,.int .i64 a5,str x,.int .u64 a6,.int .u64 a7,.int .u64 a8,.int .u8 a9,.int .u64 a10,.int .i64 a11]) (.agg #[.int .u8 k,.int .i64 0,.int .i64 0,.int .i64 0,.int .i64 0,.int .i64 0,str [],.int .u64 0,.int .u64 0,.int .u64 0,.int .u8 0,.int .u64 0,.int .i64 0])).run prog W=.ok (.bool q) W)∧mkN ⟨k,us,⟨c1,r1,c2,r2⟩,s,⟨rd,wt,ow⟩,fns,to_,ix⟩ (j+1)=mkN ⟨k,us,⟨c1,r1,c2,r2⟩,s,⟨rd,wt,ow⟩,fns,to_,ix⟩ j+if q then 2 ^ j else 0:=by
 have HS:=zr2 k us c1 r1 c2 r2 s rd wt ow fns to_ ix
 rcases (by omega:j=0∨j=1∨j=2∨j=3∨j=4∨j=5∨j=6) with rfl | rfl | rfl | rfl | rfl | rfl | rfl
 ·exact ⟨_,_,_,_,_,_,_,_,_,_,_,_,_,fun W=>zut k us c1 r1 c2 r2 s rd wt ow fns to_ ix W,fun W=>zpp k us c1 r1 c2 r2 s rd wt ow fns to_ ix W,HS 0 (decide (¬us=0)) (numI us) rfl⟩
 ·exact ⟨_,_,_,_,_,_,_,_,_,_,_,_,_,fun W=>zus k us c1 r1 c2 r2 s rd wt ow fns to_ ix W,fun W=>zpo k us c1 r1 c2 r2 s rd wt ow fns to_ ix W,HS 1 (decide (¬(⟨c1,r1,c2,r2⟩:Rct)=⟨0,0,0,0⟩)) (za7 ⟨c1,r1,c2,r2⟩) rfl⟩
 ·exact ⟨_,_,_,_,_,_,_,_,_,_,_,_,_,fun W=>zur k us c1 r1 c2 r2 s rd wt ow fns to_ ix W,fun W=>zpn k us c1 r1 c2 r2 s rd wt ow fns to_ ix W,HS 2 (decide (¬s=[])) (zcy s) rfl⟩
 ·exact ⟨_,_,_,_,_,_,_,_,_,_,_,_,_,fun W=>zuq k us c1 r1 c2 r2 s rd wt ow fns to_ ix W,fun W=>zpm k us c1 r1 c2 r2 s rd wt ow fns to_ ix W,HS 3 (decide (¬(⟨rd,wt,ow⟩:Rts)=⟨0,0,0⟩)) (zcb ⟨rd,wt,ow⟩) rfl⟩
 ·exact ⟨_,_,_,_,_,_,_,_,_,_,_,_,_,fun W=>zup k us c1 r1 c2 r2 s rd wt ow fns to_ ix W,fun W=>zpl k us c1 r1 c2 r2 s rd wt ow fns to_ ix W,HS 4 (decide (¬fns=0)) (numI fns) rfl⟩
 ·exact ⟨_,_,_,_,_,_,_,_,_,_,_,_,_,fun W=>zuo k us c1 r1 c2 r2 s rd wt ow fns to_ ix W,fun W=>zpk k us c1 r1 c2 r2 s rd wt ow fns to_ ix W,HS 5 (decide (¬to_=0)) (numI to_) rfl⟩
 exact ⟨_,_,_,_,_,_,_,_,_,_,_,_,_,fun W=>zun k us c1 r1 c2 r2 s rd wt ow fns to_ ix W,fun W=>zpj k us c1 r1 c2 r2 s rd wt ow fns to_ ix W,HS 6 (decide (¬ix=0)) (numI ix) rfl⟩
theorem r_mask (k us c1 r1 c2 r2:Int) (s:zaa) (rd wt ow fns to_ ix:Int) (w:World):
 Calls prog 109 #[.agg #[.int .u8 k,.int .i64 us,.int .i64 c1,.int .i64 r1,.int .i64 c2,.int .i64 r2,str s,.int .u64 rd,.int .u64 wt,.int .u64 ow,.int .u8 fns,.int .u64 to_,.int .i64 ix]] w fun u w'=>u=.returned (.int .i64 (zc9 (oprF ⟨k,us,⟨c1,r1,c2,r2⟩,s,⟨rd,wt,ow⟩,fns,to_,ix⟩)))∧Below w.heap.size w w':=by
 have HM:=Hd (show zc9 (oprF ⟨k,us,⟨c1,r1,c2,r2⟩,s,⟨rd,wt,ow⟩,fns,to_,ix⟩)=mkN ⟨k,us,⟨c1,r1,c2,r2⟩,s,⟨rd,wt,ow⟩,fns,to_,ix⟩ 7 from rfl)
 have H0:=Hd (show mkN ⟨k,us,⟨c1,r1,c2,r2⟩,s,⟨rd,wt,ow⟩,fns,to_,ix⟩ 0=0 from rfl)
 have HBD:=Hd (zr1 ⟨k,us,⟨c1,r1,c2,r2⟩,s,⟨rd,wt,ow⟩,fns,to_,ix⟩)
 have HB7:=Hd (zvf k us c1 r1 c2 r2 s rd wt ow fns to_ ix)
 rw [HM.out]
 go_enter func109,ntmps109
 go_wp2
 go_loopw [3,4] (fun n b wr=>∃(j m:Nat),j≤7∧2 ^ j=m∧n=.int .i64 (mkN ⟨k,us,⟨c1,r1,c2,r2⟩,s,⟨rd,wt,ow⟩,fns,to_,ix⟩ j)∧b=.int .i64 (m:Int)∧Below w.heap.size w wr∧Blk wr w.heap.size 48 #[.int .u8 k,.int .i64 us,.int .i64 c1,.int .i64 r1,.int .i64 c2,.int .i64 r2,str s,.int .u64 rd,.int .u64 wt,.int .u64 ow,.int .u8 fns,.int .u64 to_,.int .i64 ix]) (fun _ b _=>129-(intOf b).toNat)
 case atStart=>exact ⟨0,1,by omega,rfl,by rw [H0.out],rfl,by go_grown,Blk.new w _ _⟩
 obtain ⟨j,m,hj,hm,rfl,rfl,hb,kb⟩:=hrel
 have HB:=Hd hb
 have KB:=Hd kb
 clear hb kb
 have hbd:=HBD.out j
 by_cases h7:j=7
 ·subst h7
  obtain rfl:m=128:=by rw [← hm]
  have hle:¬((128:Nat):Int)≤64:=by omega
  go_wp2
  go_ret
  exact ⟨rfl,HB.out⟩
 have hm64:m≤64:=by
  rw [← hm]
  exact Nat.le_trans (Nat.pow_le_pow_right (by decide) (by omega:j≤6)) (by decide)
 have hm1:1≤m:=by rw [← hm];exact Nat.one_le_two_pow
 have hle:(m:Int)≤64:=by omega
 obtain ⟨a1,a2,a3,a4,a5,x,a6,a7,a8,a9,a10,a11,q,hO,hne,hE⟩:=HB7.out j (by omega)
 rw [show ((2 ^ j:Nat):Int)=(m:Int) by rw [hm]] at hO
 have HO:=Hd hO
 have HE:=Hd (show mkN ⟨k,us,⟨c1,r1,c2,r2⟩,s,⟨rd,wt,ow⟩,fns,to_,ix⟩ (j+1)=mkN ⟨k,us,⟨c1,r1,c2,r2⟩,s,⟨rd,wt,ow⟩,fns,to_,ix⟩ j+if q then (m:Int) else 0 by rw [hE,← hm];cases q <;> simp)
 have HM2:=Hd (show 2 ^ (j+1)=2*m by rw [Nat.pow_succ,hm,Nat.mul_comm])
 generalize mkN ⟨k,us,⟨c1,r1,c2,r2⟩,s,⟨rd,wt,ow⟩,fns,to_,ix⟩ j=n at *
 clear hO hE hm
 go_wp2_with fail
 refine wp_region_noPanic ?_
 refine wp_region_held_drew (S:=fun W'=>Blk W' w.heap.size 48 #[.int .u8 k,.int .i64 us,.int .i64 c1,.int .i64 r1,.int .i64 c2,.int .i64 r2,str s,.int .u64 rd,.int .u64 wt,.int .u64 ow,.int .u8 fns,.int .u64 to_,.int .i64 ix]∧Below w.heap.size w W') (by kernel_rfl) ⟨KB.out.drew,HB.out.drew⟩ (fun hHeld=>?_)
 refine tH 0 ⟨some 9,.load 48 (.tmp 1),48,_,_,none⟩ (.agg _) rfl hHeld ?_ (hy:=yieldsIf_load_mid rfl _ _ rfl (w.heap.size) (0) rfl _ _ (fun W h=>h.1.range (l:=[.int .u8 k,.int .i64 us,.int .i64 c1,.int .i64 r1,.int .i64 c2,.int .i64 r2,str s,.int .u64 rd,.int .u64 wt,.int .u64 ow,.int .u8 fns,.int .u64 to_,.int .i64 ix]) (o:=0) (by intro j v hj;rw [Nat.zero_add];exact List.getElem?_toArray.trans hj)) rfl rfl (by kernel_rfl))
 try go_frame
 refine tH 1 ⟨some 10,.move (.tmp 4),_,_,_,none⟩ (.int .i64 (m:Int)) rfl hHeld ?_
 try go_frame
 refine tH 3 ⟨some 12,.fieldAddr 48 (.tmp 1) 0,_,_,_,none⟩ (.pointer (some ⟨w.heap.size,0,none⟩)) rfl hHeld ?_
 try go_frame
 refine tH 4 ⟨some 13,.load 5 (.tmp 12),5,_,_,none⟩ (.int .u8 k) rfl hHeld ?_ (hy:=Or.inl ⟨by rfl,by intro W hW;have hc:W.cell? ⟨w.heap.size,0,none⟩=some (.int .u8 k):=hW.1.cell 0;go_simp⟩)
 try go_frame
 refine tH 5 ⟨some 14,.build 48 #[(0,.tmp 13)],_,_,_,none⟩ (.agg #[.int .u8 k,.int .i64 0,.int .i64 0,.int .i64 0,.int .i64 0,.int .i64 0,str [],.int .u64 0,.int .u64 0,.int .u64 0,.int .u8 0,.int .u64 0,.int .i64 0]) rfl hHeld ?_
 try go_frame
 refine tC 2 ⟨some 11,.call { callee:=.value (.func 167),args:=#[.tmp 9,.tmp 10],argTypes:=#[48,3] },48,_,_,none⟩ rfl fun K hK=>?_
 go_simp
 go_at_call 167
 refine (HO.out _).mono ?_
 rintro u w2 ⟨rfl,hb2⟩
 refine hK.out _ _ (⟨hHeld.1.below_ hb2,Below.next hHeld.2 hb2 hHeld.2.size⟩) (fun hHeld=>?_)
 clear hK K
 try go_frame
 refine tH 6 ⟨some 15,.binOp .neq 48 (.tmp 11) (.tmp 14) 48,4,_,_,none⟩ (.bool q) rfl hHeld ?_
 try go_frame
 refine wpAnyH_done (by kernel_rfl) ?_ _
 refine NoPanic.normal ?_
 have HB2:=Hd hHeld.2
 have KB2:=Hd hHeld.1
 clear hHeld hb2
 cases q with
 | false=>
  go_wp2
  exact ⟨⟨j+1,2*m,by omega,HM2.out,by rw [HE.out];simp,by go_num,HB2.out,KB2.out⟩,by simp [intOf];omega⟩
 | true=>
  go_wp2
  exact ⟨⟨j+1,2*m,by omega,HM2.out,by rw [HE.out];simp,by go_num,HB2.out,KB2.out⟩,by simp [intOf];omega⟩
theorem zat {r:PRes} {f:PSt→PRes} {st':PSt} (h:thenS r f=.ok st'):∃st1,r=.ok st1∧f st1=.ok st':=by
 cases r with
 | error e=>cases h
 | ok st1=>exact ⟨st1,rfl,h⟩
theorem zaj (st:PSt):(zan st).1.length=st.1.length-1:=by simp [zan]
theorem zah (st:PSt):(zan st).2=st.2:=rfl
theorem zca (n:Nod) (st:PSt):(putS n st).1=st.1:=rfl
theorem zb4 (n:Nod) (st:PSt):(putS n st).2.length=st.2.length+1:=by simp [putS]
theorem zb7 {e:Int} {st:PSt} (h:(zak e st).kind≠0):1≤st.1.length:=List.length_pos_iff.2 (zd3 h)
theorem zcr {e:Int} {st:PSt} {op:Int} (h:zcj e st op=true):1≤st.1.length:=by
 refine zb7 (e:=e) ?_
 unfold zcj at h
 rw [Bool.and_eq_true,decide_eq_true_eq,decide_eq_true_eq] at h
 omega
def zay:Stg→Nat
 | .loop _=>0
 | .pctl=>0
 | _=>1
theorem zg4 {e k:Int} {st st':PSt} (hk:k≠0) (h:zd6 e k st=.ok st'):st'=zan st∧1≤st.1.length:=by
 unfold zd6 at h
 split at h
 ·cases h
 rename_i hh
 cases h
 exact ⟨rfl,zb7 (e:=e) (by omega)⟩
theorem zsv {e:Int} {name:Tok} {fn n:Nat} {st st':PSt} (h:zd5 e name fn n st=.ok st'):st'.1.length+1≤st.1.length∧st'.1.length+st'.2.length≤st.1.length+st.2.length:=by
 unfold zd5 at h
 split at h
 ·cases h
 rename_i hk
 have hp:=zb7 (e:=e) (st:=st) (by omega)
 split at h
 ·cases h
 split at h
 ·cases h
 cases h
 rw [zca,zb4,zaj,zah]
 omega
theorem za0 (e:Int):∀(f:Nat) (g:Stg) (st st':PSt),parS e f g st=.ok st'→st'.1.length+zay g≤st.1.length∧st'.1.length+st'.2.length≤st.1.length+st.2.length
 | 0,g,st,st',h=>by cases g <;> simp [parS] at h
 | f+1,.level k,st,st',h=>by
  unfold parS at h
  obtain ⟨s1,h1,h2⟩:=zat h
  have a:=za0 e f _ _ _ h1
  have b:=za0 e f _ _ _ h2
  have c:zay (if k<4 then .level (k+1) else .sign)=1:=by split <;> rfl
  rw [c] at a
  simp only [zay] at b ⊢
  omega
 | f+1,.loop k,st,st',h=>by
  unfold parS at h
  split at h
  ·cases h
   simp [zay]
  rename_i hk
  have hp:=zb7 (e:=e) (st:=st) (by omega)
  obtain ⟨s1,h1,h2⟩:=zat h
  have a:=za0 e f _ _ _ h1
  have b:=za0 e f _ _ _ h2
  rw [zca,zb4] at b
  rw [zaj,zah] at a
  simp only [zay] at b ⊢
  omega
 | f+1,.sign,st,st',h=>by
  unfold parS at h
  split at h
  ·rename_i hk
   have hp:=zcr hk
   obtain ⟨s1,h1,h2⟩:=zat h
   have a:=za0 e f _ _ _ h1
   rw [zaj,zah] at a
   cases h2
   rw [zca,zb4]
   simp only [zay] at a ⊢
   omega
  obtain ⟨s1,h1,h2⟩:=zat h
  have a:=za0 e f _ _ _ h1
  split at h2
  ·rename_i hk
   have hp:=zcr hk
   obtain ⟨s2,h3,h4⟩:=zat h2
   have b:=za0 e f _ _ _ h3
   rw [zaj,zah] at b
   cases h4
   rw [zca,zb4]
   simp only [zay] at a b ⊢
   omega
  cases h2
  exact a
 | f+1,.pct,st,st',h=>by
  unfold parS at h
  obtain ⟨s1,h1,h2⟩:=zat h
  have a:=za0 e f _ _ _ h1
  have b:=za0 e f _ _ _ h2
  simp only [zay] at a b ⊢
  omega
 | f+1,.pctl,st,st',h=>by
  unfold parS at h
  split at h
  ·rename_i hk
   have hp:=zcr hk
   have a:=za0 e f _ _ _ h
   rw [zca,zb4,zaj,zah] at a
   simp only [zay] at a ⊢
   omega
  cases h
  simp [zay]
 | f+1,.prim,st,st',h=>by
  unfold parS at h
  simp only [zay]
  have leaf:∀n:Nod,(zak e st).kind≠0→(putS n (zan st)).1.length+1≤st.1.length∧(putS n (zan st)).1.length+(putS n (zan st)).2.length≤st.1.length+st.2.length:=fun n hk=>by
   have hp:=zb7 hk
   rw [zca,zb4,zaj,zah]
   omega
  simp only at h
  split at h
  ·cases h;exact leaf _ (by omega)
  split at h
  ·cases h;exact leaf _ (by omega)
  split at h
  ·cases h;exact leaf _ (by omega)
  split at h
  ·cases h;exact leaf _ (by omega)
  split at h
  ·cases h;exact leaf _ (by omega)
  split at h
  ·rename_i hk
   have hp:=zb7 (e:=e) (st:=st) (by omega)
   obtain ⟨s1,h1,h2⟩:=zat h
   have a:=za0 e f _ _ _ h1
   obtain ⟨rfl,hq⟩:=zg4 (by omega) h2
   rw [zaj,zah] at a ⊢
   simp only [zay] at a
   omega
  split at h
  ·have a:=za0 e f _ _ _ h
   simp only [zay] at a
   exact a
  cases h
 | f+1,.call name,st,st',h=>by
  unfold parS at h
  split at h
  ·cases h
  obtain ⟨s1,h1,h2⟩:=zat h
  obtain ⟨rfl,hq⟩:=zg4 (by omega) h1
  split at h2
  ·have a:=zsv h2
   rw [zaj,zah,zaj,zah] at a
   simp only [zay]
   omega
  have a:=za0 e f _ _ _ h2
  rw [zaj,zah,zaj,zah] at a
  simp only [zay] at a ⊢
  omega
 | f+1,.args name fn n,st,st',h=>by
  unfold parS at h
  obtain ⟨s1,h1,h2⟩:=zat h
  have a:=za0 e f _ _ _ h1
  split at h2
  ·rename_i hk
   have hp:=zb7 (e:=e) (st:=s1) (by omega)
   have b:=za0 e f _ _ _ h2
   rw [zaj,zah] at b
   simp only [zay] at a b ⊢
   omega
  have b:=zsv h2
  simp only [zay] at a b ⊢
  omega
 | f+1,.arg fn n,st,st',h=>by
  unfold parS at h
  split at h
  ·have a:=za0 e f _ _ _ h
   simp only [zay] at a ⊢
   exact a
  rename_i hk
  have hp:=zb7 (e:=e) (st:=st) (by omega)
  split at h
  ·cases h
  cases h
  rw [zca,zb4,zaj,zah]
  simp only [zay]
  omega
theorem zlw {e:Int} {name:Tok} {fn n:Nat} {st st':PSt} (h:zd5 e name fn n st=.ok st'):st.2.length+1≤st'.2.length:=by
 unfold zd5 at h
 split at h
 ·cases h
 split at h
 ·cases h
 split at h
 ·cases h
 cases h
 rw [zb4,zah]
 omega
theorem zbi (e:Int):∀(f:Nat) (g:Stg) (st st':PSt),parS e f g st=.ok st'→st.2.length+zay g≤st'.2.length
 | 0,g,st,st',h=>by cases g <;> simp [parS] at h
 | f+1,.level k,st,st',h=>by
  unfold parS at h
  obtain ⟨s1,h1,h2⟩:=zat h
  have a:=zbi e f _ _ _ h1
  have b:=zbi e f _ _ _ h2
  have c:zay (if k<4 then .level (k+1) else .sign)=1:=by split <;> rfl
  rw [c] at a
  simp only [zay] at b ⊢
  omega
 | f+1,.loop k,st,st',h=>by
  unfold parS at h
  split at h
  ·cases h
   simp [zay]
  rename_i hk
  have hp:=zb7 (e:=e) (st:=st) (by omega)
  obtain ⟨s1,h1,h2⟩:=zat h
  have a:=zbi e f _ _ _ h1
  have b:=zbi e f _ _ _ h2
  rw [zb4] at b
  rw [zah] at a
  simp only [zay] at b ⊢
  omega
 | f+1,.sign,st,st',h=>by
  unfold parS at h
  split at h
  ·rename_i hk
   have hp:=zcr hk
   obtain ⟨s1,h1,h2⟩:=zat h
   have a:=zbi e f _ _ _ h1
   rw [zah] at a
   cases h2
   rw [zb4]
   simp only [zay] at a ⊢
   omega
  obtain ⟨s1,h1,h2⟩:=zat h
  have a:=zbi e f _ _ _ h1
  split at h2
  ·rename_i hk
   have hp:=zcr hk
   obtain ⟨s2,h3,h4⟩:=zat h2
   have b:=zbi e f _ _ _ h3
   rw [zah] at b
   cases h4
   rw [zb4]
   simp only [zay] at a b ⊢
   omega
  cases h2
  exact a
 | f+1,.pct,st,st',h=>by
  unfold parS at h
  obtain ⟨s1,h1,h2⟩:=zat h
  have a:=zbi e f _ _ _ h1
  have b:=zbi e f _ _ _ h2
  simp only [zay] at a b ⊢
  omega
 | f+1,.pctl,st,st',h=>by
  unfold parS at h
  split at h
  ·rename_i hk
   have hp:=zcr hk
   have a:=zbi e f _ _ _ h
   rw [zb4,zah] at a
   simp only [zay] at a ⊢
   omega
  cases h
  simp [zay]
 | f+1,.prim,st,st',h=>by
  unfold parS at h
  simp only [zay]
  have leaf:∀n:Nod,(zak e st).kind≠0→st.2.length+1≤(putS n (zan st)).2.length:=fun n hk=>by
   have hp:=zb7 hk
   rw [zb4,zah]
   omega
  simp only at h
  split at h
  ·cases h;exact leaf _ (by omega)
  split at h
  ·cases h;exact leaf _ (by omega)
  split at h
  ·cases h;exact leaf _ (by omega)
  split at h
  ·cases h;exact leaf _ (by omega)
  split at h
  ·cases h;exact leaf _ (by omega)
  split at h
  ·rename_i hk
   have hp:=zb7 (e:=e) (st:=st) (by omega)
   obtain ⟨s1,h1,h2⟩:=zat h
   have a:=zbi e f _ _ _ h1
   obtain ⟨rfl,hq⟩:=zg4 (by omega) h2
   rw [zah] at a ⊢
   simp only [zay] at a
   omega
  split at h
  ·have a:=zbi e f _ _ _ h
   simp only [zay] at a
   exact a
  cases h
 | f+1,.call name,st,st',h=>by
  unfold parS at h
  split at h
  ·cases h
  obtain ⟨s1,h1,h2⟩:=zat h
  obtain ⟨rfl,hq⟩:=zg4 (by omega) h1
  split at h2
  ·have a:=zlw h2
   rw [zah,zah] at a
   simp only [zay]
   omega
  have a:=zbi e f _ _ _ h2
  rw [zah,zah] at a
  simp only [zay] at a ⊢
  omega
 | f+1,.args name fn n,st,st',h=>by
  unfold parS at h
  obtain ⟨s1,h1,h2⟩:=zat h
  have a:=zbi e f _ _ _ h1
  split at h2
  ·rename_i hk
   have hp:=zb7 (e:=e) (st:=s1) (by omega)
   have b:=zbi e f _ _ _ h2
   rw [zah] at b
   simp only [zay] at a b ⊢
   omega
  have b:=zlw h2
  simp only [zay] at a b ⊢
  omega
 | f+1,.arg fn n,st,st',h=>by
  unfold parS at h
  split at h
  ·have a:=zbi e f _ _ _ h
   simp only [zay] at a ⊢
   exact a
  rename_i hk
  have hp:=zb7 (e:=e) (st:=st) (by omega)
  split at h
  ·cases h
  cases h
  rw [zb4,zah]
  simp only [zay]
  omega
theorem zfm (fn:Nat) (W:World):Calls prog 328 #[.int .u8 fn] W fun u W'=>u=.returned (.bool (relB fn))∧W=W':=by
 by_cases h1:46≤fn
 ·have a1:(46:Int)≤(fn:Int):=by omega
  by_cases h2:fn≤50
  ·have a2:(fn:Int)≤50:=by omega
   have HE:=Hd (show relB fn=true by unfold relB;simp;omega)
   go_enter func328,ntmps328
   go_wp2
   go_ret
   exact ⟨by rw [HE.out];rfl,rfl⟩
  have a2:¬(fn:Int)≤50:=by omega
  have HE:=Hd (show relB fn=false by unfold relB;simp;omega)
  go_enter func328,ntmps328
  go_wp2
  go_ret
  exact ⟨by rw [HE.out];rfl,rfl⟩
 have a1:¬(46:Int)≤(fn:Int):=by omega
 have HE:=Hd (show relB fn=false by unfold relB;simp;omega)
 go_enter func328,ntmps328
 go_wp2
 go_ret
 exact ⟨by rw [HE.out];rfl,rfl⟩
theorem zg0 (fn:Nat) (h1:1≤fn) (h2:fn≤50):(zam fn).2.2=0:=by
 unfold zam
 repeat' split
 all_goals first | rfl | omega
theorem zqg (fn i:Int) (ha:(zam fn).2.2=0) (h0:0≤i) (h:i<(zam fn).2.1):
 zb9 fn i=if fn=9∨fn=10∨fn=11∨fn=12∨fn=14∨fn=15∨fn=16∨fn=17 then (true,0)
 else if fn=44 then (decide (i=1),0)
 else if fn=18∨fn=19∨fn=45∨fn=43∨fn=13 then (decide (i=0),0)
 else (relB fn,0):=by
 unfold zb9
 rw [if_neg (by simpa using ha),if_neg (by omega)]
theorem zqh (fn i:Int) (ha:(zam fn).2.2=0) (h:(zam fn).2.1≤i):zb9 fn i=(false,3):=by
 unfold zb9
 rw [if_neg (by simpa using ha),if_pos (.inr h)]
theorem zkm (fn i:Nat) (h1:1≤fn) (h2:fn≤50) (hi:i≤2000) (W:World):
 Calls prog 327 #[.int .u8 fn,.int .i64 i] W fun u W'=>u=.returned (.tuple #[.bool (zb9 fn i).1,.int .i64 (zb9 fn i).2])∧W=W':=by
 have ha:=zg0 fn h1 h2
 have HA:=Hd (zey fn h1 h2 W)
 have i0:(0:Int)≤(i:Int):=by omega
 have HL:=Hd (zqg fn i ha i0)
 have HG:=Hd (zqh fn i ha)
 rw [ha] at HA
 clear ha
 generalize zb9 fn i=w at HL HG ⊢
 generalize (zam fn).1=m0 at *
 generalize (zam fn).2.1=m1 at *
 by_cases hm:(i:Int)<m1
 rotate_left
 ·have HE:=Hd (HG.out (by omega))
  clear HL HG
  have hm':m1≤(i:Int):=by omega
  go_enter func327,ntmps327
  go_wp2_with fail
  refine HA.out.mono ?_
  rintro u w1 ⟨rfl,rfl⟩
  go_wp2
  go_ret2
  exact ⟨by rw [HE.out];rfl,rfl⟩
 have HE:=Hd (HL.out hm)
 clear HL HG
 have hm':¬m1≤(i:Int):=by omega
 by_cases c9:fn=9
 ·subst c9
  have HE2:=Hd (HE.out.trans (by simp;rfl))
  clear HE
  go_enter func327,ntmps327
  go_wp2_with fail
  refine HA.out.mono ?_
  rintro u w1 ⟨rfl,rfl⟩
  go_wp2
  go_ret2
  exact ⟨by rw [HE2.out];rfl,rfl⟩
 by_cases c10:fn=10
 ·subst c10
  have HE2:=Hd (HE.out.trans (by simp;rfl))
  clear HE
  go_enter func327,ntmps327
  go_wp2_with fail
  refine HA.out.mono ?_
  rintro u w1 ⟨rfl,rfl⟩
  go_wp2
  go_ret2
  exact ⟨by rw [HE2.out];rfl,rfl⟩
 by_cases c11:fn=11
 ·subst c11
  have HE2:=Hd (HE.out.trans (by simp;rfl))
  clear HE
  go_enter func327,ntmps327
  go_wp2_with fail
  refine HA.out.mono ?_
  rintro u w1 ⟨rfl,rfl⟩
  go_wp2
  go_ret2
  exact ⟨by rw [HE2.out];rfl,rfl⟩
 by_cases c12:fn=12
 ·subst c12
  have HE2:=Hd (HE.out.trans (by simp;rfl))
  clear HE
  go_enter func327,ntmps327
  go_wp2_with fail
  refine HA.out.mono ?_
  rintro u w1 ⟨rfl,rfl⟩
  go_wp2
  go_ret2
  exact ⟨by rw [HE2.out];rfl,rfl⟩
 by_cases c14:fn=14
 ·subst c14
  have HE2:=Hd (HE.out.trans (by simp;rfl))
  clear HE
  go_enter func327,ntmps327
  go_wp2_with fail
  refine HA.out.mono ?_
  rintro u w1 ⟨rfl,rfl⟩
  go_wp2
  go_ret2
  exact ⟨by rw [HE2.out];rfl,rfl⟩
 by_cases c15:fn=15
 ·subst c15
  have HE2:=Hd (HE.out.trans (by simp;rfl))
  clear HE
  go_enter func327,ntmps327
  go_wp2_with fail
  refine HA.out.mono ?_
  rintro u w1 ⟨rfl,rfl⟩
  go_wp2
  go_ret2
  exact ⟨by rw [HE2.out];rfl,rfl⟩
 by_cases c16:fn=16
 ·subst c16
  have HE2:=Hd (HE.out.trans (by simp;rfl))
  clear HE
  go_enter func327,ntmps327
  go_wp2_with fail
  refine HA.out.mono ?_
  rintro u w1 ⟨rfl,rfl⟩
  go_wp2
  go_ret2
  exact ⟨by rw [HE2.out];rfl,rfl⟩
 by_cases c17:fn=17
 ·subst c17
  have HE2:=Hd (HE.out.trans (by simp;rfl))
  clear HE
  go_enter func327,ntmps327
  go_wp2_with fail
  refine HA.out.mono ?_
  rintro u w1 ⟨rfl,rfl⟩
  go_wp2
  go_ret2
  exact ⟨by rw [HE2.out];rfl,rfl⟩
 by_cases c44:fn=44
 ·subst c44
  have HE2:=Hd (HE.out.trans (by simp;rfl))
  clear HE
  go_enter func327,ntmps327
  go_wp2_with fail
  refine HA.out.mono ?_
  rintro u w1 ⟨rfl,rfl⟩
  go_wp2
  go_ret2
  exact ⟨by rw [HE2.out];rfl,rfl⟩
 by_cases c18:fn=18
 ·subst c18
  have HE2:=Hd (HE.out.trans (show _=(decide ((i:Int)=0),(0:Int)) by simp))
  clear HE
  go_enter func327,ntmps327
  go_wp2_with fail
  refine HA.out.mono ?_
  rintro u w1 ⟨rfl,rfl⟩
  go_wp2
  go_ret2
  exact ⟨by rw [HE2.out];rfl,rfl⟩
 by_cases c19:fn=19
 ·subst c19
  have HE2:=Hd (HE.out.trans (show _=(decide ((i:Int)=0),(0:Int)) by simp))
  clear HE
  go_enter func327,ntmps327
  go_wp2_with fail
  refine HA.out.mono ?_
  rintro u w1 ⟨rfl,rfl⟩
  go_wp2
  go_ret2
  exact ⟨by rw [HE2.out];rfl,rfl⟩
 by_cases c45:fn=45
 ·subst c45
  have HE2:=Hd (HE.out.trans (show _=(decide ((i:Int)=0),(0:Int)) by simp))
  clear HE
  go_enter func327,ntmps327
  go_wp2_with fail
  refine HA.out.mono ?_
  rintro u w1 ⟨rfl,rfl⟩
  go_wp2
  go_ret2
  exact ⟨by rw [HE2.out];rfl,rfl⟩
 by_cases c43:fn=43
 ·subst c43
  have HE2:=Hd (HE.out.trans (show _=(decide ((i:Int)=0),(0:Int)) by simp))
  clear HE
  go_enter func327,ntmps327
  go_wp2_with fail
  refine HA.out.mono ?_
  rintro u w1 ⟨rfl,rfl⟩
  go_wp2
  go_ret2
  exact ⟨by rw [HE2.out];rfl,rfl⟩
 by_cases c13:fn=13
 ·subst c13
  have HE2:=Hd (HE.out.trans (show _=(decide ((i:Int)=0),(0:Int)) by simp))
  clear HE
  go_enter func327,ntmps327
  go_wp2_with fail
  refine HA.out.mono ?_
  rintro u w1 ⟨rfl,rfl⟩
  go_wp2
  go_ret2
  exact ⟨by rw [HE2.out];rfl,rfl⟩
 have HE2:=Hd (HE.out.trans (show _=(relB fn,(0:Int)) by rw [if_neg (by omega),if_neg (by omega),if_neg (by omega)]))
 clear HE
 have b9:((fn:Int)==9)=false:=by simp;omega
 have b10:((fn:Int)==10)=false:=by simp;omega
 have b11:((fn:Int)==11)=false:=by simp;omega
 have b12:((fn:Int)==12)=false:=by simp;omega
 have b14:((fn:Int)==14)=false:=by simp;omega
 have b15:((fn:Int)==15)=false:=by simp;omega
 have b16:((fn:Int)==16)=false:=by simp;omega
 have b17:((fn:Int)==17)=false:=by simp;omega
 have b44:((fn:Int)==44)=false:=by simp;omega
 have b18:((fn:Int)==18)=false:=by simp;omega
 have b19:((fn:Int)==19)=false:=by simp;omega
 have b45:((fn:Int)==45)=false:=by simp;omega
 have b43:((fn:Int)==43)=false:=by simp;omega
 have b13:((fn:Int)==13)=false:=by simp;omega
 clear c9 c10 c11 c12 c14 c15 c16 c17 c44 c18 c19 c45 c43 c13
 go_enter func327,ntmps327
 go_wp2_with fail
 refine HA.out.mono ?_
 rintro u w1 ⟨rfl,rfl⟩
 go_wp2_with fail
 refine (zfm fn _).mono ?_
 rintro u w2 ⟨rfl,rfl⟩
 go_wp2
 go_ret2
 exact ⟨by rw [HE2.out];rfl,rfl⟩
def zbd:Stg→Nat→Nat
 | .level k,m=>10*m+2*(5-k)+3
 | .loop k,m=>10*m+2*(5-k)+2
 | .sign,m=>10*m+4
 | .pct,m=>10*m+3
 | .pctl,m=>10*m+2
 | .prim,m=>10*m+2
 | .call _,m=>10*m+1
 | .args _ _ _,m=>10*m+13
 | .arg _ _,m=>10*m+12
def RunS (fn:Nat) (args:Nat→Array Value) (e:Int) (f:Nat) (g:Stg):Prop:=
 ∀(p:Nat) (ov:Value) (st:PSt) (W:World),PA W p e ov st→st.1.length+st.2.length≤2000→zbd g st.1.length≤f→Calls prog fn (args p) W (Went p e W ov (parS e f g st))
def one1 (p:Nat):Array Value:=#[.pointer (some ⟨p,0,none⟩)]
theorem zax {p:Nat} {e:Int} {W W':World} {ov:Value} {r:PRes} {u:Ending} (h:Went p e W ov r u W'):
 (∃st' ov',r=.ok st'∧u=.returned (.tuple #[])∧PA W' p e ov' st'∧PTo p W ov W' ov')∨(∃a er,r=.error (a,er)∧u=flt a er∧Below p W W'):=by
 unfold Went at h
 cases r with
 | error x=>exact .inr ⟨x.1,x.2,rfl,h⟩
 | ok st'=>obtain ⟨h1,ov',h2,h3⟩:=h;exact .inl ⟨st',ov',rfl,h1,h2,h3⟩
theorem zxu (e:Int) (f:Nat) (hs:RunS 284 one1 e f .sign) (hp:RunS 307 one1 e f .pct):
 RunS 284 one1 e (f+1) .sign:=by
 intro p ov st W h hn hf
 have HS:=Hd hs
 have HPC:=Hd hp
 have HH:=Hd h
 have hlt:=h.lt
 simp only [zbd] at hf
 have HR:Hid (parS e (f+1) .sign st=if zcj e st 2 then thenS (parS e f .sign (zan st)) fun st=>.ok (putS (nod0 4) st) else thenS (parS e f .pct st) fun st=>if zcj e st 5 then thenS (parS e f .sign (zan st)) fun st=>.ok (putS { nod0 6 with op:=5 } st) else .ok st):=Hd rfl
 generalize parS e (f+1) .sign st=R at HR ⊢
 clear hs hp h
 unfold one1
 go_enter func284,ntmps284
 go_wp2_with fail
 refine (zrj p e ov st 2 _ HH.out (by omega)).mono ?_
 rintro u w1 ⟨rfl,hb1⟩
 have H1:=Hd (HH.out.below hb1)
 have T1:=Hd (PTo.below (PTo.refl p W ov) hb1)
 clear hb1
 by_cases hi:zcj e st 2=true
 ·have hpos:=zcr hi
  have hne:st.1≠ []:=List.length_pos_iff.1 hpos
  have HR2:=Hd (HR.out.trans (if_pos hi))
  rw [hi]
  clear hi HR
  go_wp2_with fail
  refine (zbu p e ov st _ H1.out (by omega) hne).mono ?_
  rintro u w2 ⟨rfl,ha,ht⟩
  have H2:=Hd ha
  have T2:=Hd (T1.out.trans ht)
  clear ha ht
  go_wp2_with fail
  refine (HS.out p ov (zan st) _ H2.out (by rw [zaj,zah];omega) (by simp only [zbd,zaj];omega)).mono ?_
  intro u w3 hw
  rcases zax hw with ⟨s3,ov3,hr,rfl,ha,ht⟩ | ⟨a,er,hr,rfl,hb⟩
  ·have HL:=Hd (za0 e f .sign _ _ hr)
   have HR3:=Hd (show R=.ok (putS (nod0 4) s3) by rw [HR2.out,hr];rfl)
   have H3:=Hd ha
   have T3:=Hd (T2.out.trans ht)
   clear ha ht hr hw
   go_wp2_with fail
   refine (zdq p e ov3 s3 (nod0 4) _ H3.out (by have:=HL.out;simp only [zaj,zah,zay] at this;omega)).mono ?_
   rintro u w4 ⟨rfl,ov4,ha,ht⟩
   have H4:=Hd ha
   have T4:=Hd (T3.out.trans ht)
   clear ha ht
   go_wp2
   refine bR ?_
   exact zbg HR3.out H4.out T4.out
  have HR3:=Hd (show R=.error (a,er) by rw [HR2.out,hr];rfl)
  have HB3:=Hd ((T2.out.old' HH.out).trans hb)
  clear hr hw hb
  unfold flt
  go_wp2
  exact ⟨rfl,zaw HR3.out HB3.out⟩
 have hi':zcj e st 2=false:=eq_false_of_ne_true hi
 have HR2:=Hd (HR.out.trans (if_neg hi))
 rw [hi']
 clear hi hi' HR
 go_wp2_with fail
 refine (HPC.out p ov st _ H1.out hn (by simp only [zbd];omega)).mono ?_
 intro u w2 hw
 rcases zax hw with ⟨s2,ov2,hr,rfl,ha,ht⟩ | ⟨a,er,hr,rfl,hb⟩
 ·have HL2:=Hd (za0 e f .pct _ _ hr)
  have HR3:=Hd (show R=if zcj e s2 5 then thenS (parS e f .sign (zan s2)) fun st=>.ok (putS { nod0 6 with op:=5 } st) else .ok s2 by rw [HR2.out,hr];rfl)
  have H2:=Hd ha
  have T2:=Hd (T1.out.trans ht)
  clear ha ht hr hw HR2
  go_wp2_with fail
  refine (zrj p e ov2 s2 5 _ H2.out (by have:=HL2.out;omega)).mono ?_
  rintro u w3 ⟨rfl,hb3⟩
  have H3:=Hd (H2.out.below hb3)
  have T3:=Hd (PTo.below T2.out hb3)
  clear hb3
  by_cases hi:zcj e s2 5=true
  rotate_left
  ·have hi':zcj e s2 5=false:=eq_false_of_ne_true hi
   have HR4:=Hd (HR3.out.trans (if_neg hi))
   rw [hi']
   clear hi hi' HR3
   go_wp2
   refine bE ?_
   exact zbg HR4.out H3.out T3.out
  have hpos:=zcr hi
  have hne:s2.1≠ []:=List.length_pos_iff.1 hpos
  have HR4:=Hd (HR3.out.trans (if_pos hi))
  rw [hi]
  clear hi HR3
  go_wp2_with fail
  refine (zbu p e ov2 s2 _ H3.out (by have:=HL2.out;omega) hne).mono ?_
  rintro u w4 ⟨rfl,ha,ht⟩
  have H4:=Hd ha
  have T4:=Hd (T3.out.trans ht)
  clear ha ht
  go_wp2_with fail
  refine (HS.out p ov2 (zan s2) _ H4.out (by have:=HL2.out;rw [zaj,zah];omega) (by have:=HL2.out;simp only [zbd,zaj,zay] at this ⊢;omega)).mono ?_
  intro u w5 hw
  rcases zax hw with ⟨s5,ov5,hr,rfl,ha,ht⟩ | ⟨a,er,hr,rfl,hb⟩
  ·have HL:=Hd (za0 e f .sign _ _ hr)
   have HR5:=Hd (show R=.ok (putS { nod0 6 with op:=5 } s5) by rw [HR4.out,hr];rfl)
   have H5:=Hd ha
   have T5:=Hd (T4.out.trans ht)
   clear ha ht hr hw
   go_wp2_with fail
   refine (zdq p e ov5 s5 { nod0 6 with op:=5 } _ H5.out (by have:=HL.out;have:=HL2.out;simp only [zaj,zah,zay] at *;omega)).mono ?_
   rintro u w6 ⟨rfl,ov6,ha,ht⟩
   have H6:=Hd ha
   have T6:=Hd (T5.out.trans ht)
   clear ha ht
   go_wp2
   refine bE ?_
   exact zbg HR5.out H6.out T6.out
  have HR5:=Hd (show R=.error (a,er) by rw [HR4.out,hr];rfl)
  have HB5:=Hd ((T4.out.old' HH.out).trans hb)
  clear hr hw hb
  unfold flt
  go_wp2
  exact ⟨rfl,zaw HR5.out HB5.out⟩
 have HR3:=Hd (show R=.error (a,er) by rw [HR2.out,hr];rfl)
 have HB3:=Hd ((T1.out.old' HH.out).trans hb)
 clear hr hw hb
 unfold flt
 go_wp2
 exact ⟨rfl,zaw HR3.out HB3.out⟩
def zpw (p:Nat) (W:World):Nat:=match W.cell? ⟨p,0,none⟩ with
 | some (.slice _ n _)=>n
 | _=>0
theorem zdy {W:World} {p:Nat} {e:Int} {ov:Value} {st:PSt} (h:PA W p e ov st):zpw p W=st.1.length:=by
 obtain ⟨lv,h1,h2⟩:=h.bx
 obtain ⟨A,cap,rfl, -⟩:=h2
 have hc:W.cell? ⟨p,0,none⟩=some (.slice A st.1.length cap):=h1.cell 0
 unfold zpw
 rw [hc]
theorem pct_ok (e:Int) (f:Nat) (hp:RunS 325 one1 e f .prim):RunS 307 one1 e (f+1) .pct:=by
 intro p ov st W h hn hf
 have HPC:=Hd hp
 have HH:=Hd h
 simp only [zbd] at hf
 have HR:Hid (parS e (f+1) .pct st=thenS (parS e f .prim st) (parS e f .pctl)):=Hd rfl
 generalize parS e (f+1) .pct st=R at HR ⊢
 clear hp h
 unfold one1
 go_enter func307,ntmps307
 go_wp2_with fail
 refine (HPC.out p ov st _ HH.out hn (by simp only [zbd];omega)).mono ?_
 intro u w1 hw
 rcases zax hw with ⟨s1,ov1,hr,rfl,ha,ht⟩ | ⟨a,er,hr,rfl,hb⟩
 ·have HL:=Hd (za0 e f .prim _ _ hr)
  have HR1:=Hd (show R=parS e f .pctl s1 by rw [HR.out,hr];rfl)
  have H1:=Hd ha
  have T1:=Hd ht
  clear ha ht hr hw HR
  go_wp2_with fail
  go_loopw [5] (fun _ wr=>∃f' s' ov',R=parS e f' .pctl s'∧10*s'.1.length+2≤f'∧s'.1.length+s'.2.length≤2000∧PA wr p e ov' s'∧PTo p W ov wr ov') (fun _ wr=>zpw p wr)
  case atStart=>exact ⟨f,s1,ov1,HR1.out,by have:=HL.out;simp only [zay] at this;omega,by have:=HL.out;omega,H1.out,T1.out⟩
  obtain ⟨f',s',ov',hr,hf',hn',ha,ht⟩:=hrel
  obtain ⟨f2,rfl⟩:∃f2,f'=f2+1:=⟨f'-1,by omega⟩
  have HR2:Hid (R=if zcj e s' 13 then parS e f2 .pctl (putS (nod0 5) (zan s')) else .ok s'):=Hd hr
  have H2:=Hd ha
  have T2:=Hd ht
  have hla:=zdy ha
  clear hr ha ht
  go_wp2_with fail
  refine (zrj p e ov' s' 13 _ H2.out (by omega)).mono ?_
  rintro u w3 ⟨rfl,hb3⟩
  have H3:=Hd (H2.out.below hb3)
  have T3:=Hd (PTo.below T2.out hb3)
  clear hb3
  by_cases hi:zcj e s' 13=true
  rotate_left
  ·have hi':zcj e s' 13=false:=eq_false_of_ne_true hi
   have HR4:=Hd (HR2.out.trans (if_neg hi))
   rw [hi']
   clear hi hi' HR2
   go_wp2
   refine bE ?_
   exact zbg HR4.out H3.out T3.out
  have hpos:=zcr hi
  have hne:s'.1≠ []:=List.length_pos_iff.1 hpos
  have HR4:=Hd (HR2.out.trans (if_pos hi))
  rw [hi]
  clear hi HR2
  go_wp2_with fail
  refine (zbu p e ov' s' _ H3.out (by omega) hne).mono ?_
  rintro u w4 ⟨rfl,ha,ht⟩
  have H4:=Hd ha
  have T4:=Hd (T3.out.trans ht)
  clear ha ht
  go_wp2_with fail
  refine (zdq p e ov' (zan s') (nod0 5) _ H4.out (by rw [zah];omega)).mono ?_
  rintro u w5 ⟨rfl,ov5,ha,ht⟩
  have H5:=Hd ha
  have T5:=Hd (T4.out.trans ht)
  have hl5:=zdy ha
  clear ha ht
  rw [zca,zaj] at hl5
  have HL5:=Hd hl5
  have HLA:=Hd hla
  clear hl5 hla
  go_wp2
  exact ⟨⟨f2,_,ov5,HR4.out,by rw [zca,zaj];omega,by rw [zca,zb4,zaj,zah];omega,H5.out,T5.out⟩,by rw [HL5.out,HLA.out];omega⟩
 have HR3:=Hd (show R=.error (a,er) by rw [HR.out,hr];rfl)
 have HB3:=Hd hb
 clear hr hw hb
 unfold flt
 go_wp2
 exact ⟨rfl,zaw HR3.out HB3.out⟩
theorem zry:∀(L:List Tok) (i:Nat) (t:Tok),zfi L=true→L[i]?=some t→t.kind=7→∃u,L[i+1]?=some u∧u.kind=9
 | [],i,t,_,h,_=>by simp at h
 | a::L,0,t,hn,h,hk=>by
  simp only [List.getElem?_cons_zero,Option.some.injEq] at h
  subst h
  obtain ⟨u,hu,hv⟩:=(ziw hn).2 hk
  exact ⟨u,by rw [List.getElem?_cons_succ,← List.head?_eq_getElem?];exact hu,hv⟩
 | a::L,i+1,t,hn,h,hk=>by
  rw [List.getElem?_cons_succ] at h
  obtain ⟨u,hu,hv⟩:=zry L i t (ziw hn).1 h hk
  exact ⟨u,by rw [List.getElem?_cons_succ];exact hu,hv⟩
theorem zaz (L:List Tok) (i:Nat) (T:List Nod):zan (L.drop i,T)=(L.drop (i+1),T):=by
 unfold zan
 simp only [List.tail_drop]
theorem zhu (e:Int) (L:List Tok) (i:Nat) (T:List Nod) (h:i<L.length):zak e (L.drop i,T)=L[i]:=by
 unfold zak
 simp only [List.head?_drop,List.getElem?_eq_getElem h,Option.getD_some]
theorem zll (e:Int) (L:List Tok) (i:Nat) (T:List Nod) (h:L.length≤i):zak e (L.drop i,T)={ tok0 with at_:=e }:=by
 unfold zak
 simp only [List.head?_drop,List.getElem?_eq_none h,Option.getD_none]
theorem zfk {e:Int} {L:List Tok} {i:Nat} {T:List Nod} (h:(zak e (L.drop i,T)).kind≠0):i<L.length:=by
 rw [← Nat.not_le]
 intro q
 rw [zll e L i T q] at h
 exact h rfl
structure PR (W:World) (p:Nat) (s:zaa) (L:List Tok) (ov:Value) (i:Nat) (T:List Nod) (a f:Int):Prop where
 bx:∃lv,Blk W p 272 #[str s,lv,.int .i64 i,ov,.int .i64 a,.int .i64 f]∧Sls cTok W p lv L
 ow:Own cNod 297 11 W ov T
 ob:∀k,ov.ownBlock=some k→p<k
section
variable {W W1:World} {p:Nat} {s:zaa} {L:List Tok} {ov:Value} {i:Nat} {T:List Nod} {a f:Int}
theorem PR.lt (h:PR W p s L ov i T a f):p<W.heap.size:=by obtain ⟨lv,h1,_⟩:=h.bx;exact h1.lt
theorem PR.below (h:PR W p s L ov i T a f) (k:Below W.heap.size W W1):PR W1 p s L ov i T a f:=by
 obtain ⟨lv,h1,h2⟩:=h.bx
 exact ⟨⟨lv,h1.below_ k,h2.below (k.mono (Nat.le_of_lt h.lt))⟩,h.ow.below k,h.ob⟩
theorem PR.ne (h:PR W p s L ov i T a f):ov.ownBlock≠some p:=fun e=>by have:=h.ob p e;omega
theorem PR.setAt (h:PR W p s L ov i T a f) (j:Nat) (v:Value) (i':Nat) (a' f':Int)
 (hv:∀lv,#[str s,lv,.int .i64 i,ov,.int .i64 a,.int .i64 f].setIfInBounds j v=#[str s,lv,.int .i64 i',ov,.int .i64 a',.int .i64 f']):
 PR (W.setCell ⟨p,j,none⟩ v) p s L ov i' T a' f'∧PTo p W ov (W.setCell ⟨p,j,none⟩ v) ov:=by
 obtain ⟨lv,hb,hs⟩:=h.bx
 have hc:Chg (fun k=>k=p) W (W.setCell ⟨p,j,none⟩ v):=(Chg.refl (fun k=>k=p) W).setCell (p:=⟨p,j,none⟩) (.inl rfl) v
 refine ⟨⟨⟨lv,?_,?_⟩,h.ow.chg hc (fun q hq e=>h.ne (by rw [hq,e])),h.ob⟩,⟨hc.mono (fun k _ e=>.inl e),fun _ h=>.inl h⟩⟩
 ·have:=hb.set_ j v
  rw [hv lv] at this
  exact this
 exact Sl.chg hs hc (Nat.le_of_lt h.lt) (fun k hk e=>by omega)
theorem PR.next (h:PR W p s L ov i T a f) (j:Nat):PR (W.setCell ⟨p,2,none⟩ (.int .i64 j)) p s L ov j T a f∧PTo p W ov (W.setCell ⟨p,2,none⟩ (.int .i64 j)) ov:=h.setAt 2 _ j a f (fun _=>rfl)
theorem PR.fault (h:PR W p s L ov i T a f) (a' f':Int):PR ((W.setCell ⟨p,4,none⟩ (.int .i64 a')).setCell ⟨p,5,none⟩ (.int .i64 f')) p s L ov i T a' f'∧PTo p W ov ((W.setCell ⟨p,4,none⟩ (.int .i64 a')).setCell ⟨p,5,none⟩ (.int .i64 f')) ov:=by
 obtain ⟨h1,t1⟩:=h.setAt 4 (.int .i64 a') i a' f (fun _=>rfl)
 obtain ⟨h2,t2⟩:=h1.setAt 5 (.int .i64 f') i a' f' (fun _=>rfl)
 exact ⟨h2,t1.trans t2⟩
theorem PR.cells (h:PR W p s L ov i T a f):∃A cap,W.cell? ⟨p,0,none⟩=some (str s)∧W.cell? ⟨p,1,none⟩=some (.slice A L.length cap)∧W.cell? ⟨p,2,none⟩=some (.int .i64 i)∧W.cell? ⟨p,3,none⟩=some ov∧W.cell? ⟨p,4,none⟩=some (.int .i64 a)∧W.cell? ⟨p,5,none⟩=some (.int .i64 f)∧(∀o,W.frozen? ⟨p,o,none⟩=false)∧Sls cTok W p (.slice A L.length cap) L∧p<W.heap.size:=by
 obtain ⟨lv,hb,hs⟩:=h.bx
 obtain ⟨A,cap,rfl, -⟩:=id hs
 exact ⟨A,cap,hb.cell 0,hb.cell 1,hb.cell 2,hb.cell 3,hb.cell 4,hb.cell 5,fun o=>hb.frozen o,hs,hb.lt⟩
end
theorem zcl (p:Nat) (s:zaa) (L:List Tok) (ov:Value) (i:Nat) (T:List Nod) (a f:Int) (W:World) (h:PR W p s L ov i T a f) (_hn:L.length≤1000000):
 Calls prog 263 #[.pointer (some ⟨p,0,none⟩)] W fun u W'=>u=.returned (.agg (cTok (zak s.length (L.drop i,T))).toArray)∧Below W.heap.size W W':=by
 obtain ⟨A,cap,c0,c1,c2,c3,c4,c5,cf,hs,hlt⟩:=h.cells
 obtain ⟨lv,hbx,hs2⟩:=h.bx
 obtain rfl:lv=.slice A L.length cap:=by have:=hbx.cell 1;rw [c1] at this;simpa using this.symm
 have HBX:=Hd hbx
 have hi0:(0:Int)≤(i:Int):=Int.natCast_nonneg _
 clear hbx hs2 c3 c4 c5 cf h
 have HZ:=Hd (Blk.new W 239 #[.int .u8 0,.int .i64 0,str [],.int .i64 0,.int .i64 0,.int .i64 0,.int .i64 0,.int .i64 0])
 have hzl:=HZ.out.lt
 have hpz:p≠W.heap.size:=by omega
 by_cases hil:i<L.length
 rotate_left
 ·have hi1:¬(i:Int)<(L.length:Int):=by omega
  have hd1:decide ((i:Int)<(L.length:Int))=false:=decide_eq_false hi1
  rw [zll _ L i T (by omega)]
  clear hs hil
  go_enter func263,ntmps263
  go_wp2_with fail
  go_quiet (fail)
  obtain ⟨V,hV⟩:∃V,(W.alloc (.cells #[.int .u8 0,.int .i64 0,str [],.int .i64 0,.int .i64 0,.int .i64 0,.int .i64 0,.int .i64 0] 239)).drewN nq=V:=⟨_,rfl⟩
  have HZV:=Hd (show Blk V W.heap.size 239 #[.int .u8 0,.int .i64 0,str [],.int .i64 0,.int .i64 0,.int .i64 0,.int .i64 0,.int .i64 0] from hV▸HZ.out)
  have HBV:=Hd (show Below W.heap.size W V from hV▸Below.drewN_ (show Below W.heap.size W (W.alloc (.cells #[.int .u8 0,.int .i64 0,str [],.int .i64 0,.int .i64 0,.int .i64 0,.int .i64 0,.int .i64 0] 239)) by go_grown) nq)
  have HPV:=Hd (show Blk V p 272 #[str s,.slice A L.length cap,.int .i64 i,ov,.int .i64 a,.int .i64 f] by rw [← hV];exact HBX.out.alloc _)
  rw [hV]
  clear hV c0 c1 c2
  have c0:=HPV.out.cell 0
  have hlV:=HZV.out.lt
  have zf:=fun o=>HZV.out.frozen o
  have z0:=HZV.out.cell 0
  have z1:=HZV.out.cell 1
  have z2:=HZV.out.cell 2
  have z3:=HZV.out.cell 3
  have z4:=HZV.out.cell 4
  have z5:=HZV.out.cell 5
  have z6:=HZV.out.cell 6
  have z7:=HZV.out.cell 7
  go_wp2
  have ZF:=Hd (Blk.set_ (Blk.set_ (Blk.set_ (Blk.set_ (Blk.set_ (Blk.set_ (Blk.set_ (Blk.set_ HZV.out 0 (.int .u8 0)) 1 (.int .i64 0)) 2 (str [])) 3 (.int .i64 0)) 4 (.int .i64 0)) 5 (.int .i64 0)) 6 (.int .i64 0)) 7 (.int .i64 s.length))
  have HF:=Hd (Below.setCell (Below.setCell (Below.setCell (Below.setCell (Below.setCell (Below.setCell (Below.setCell (Below.setCell HBV.out (p:=⟨W.heap.size,0,none⟩) (Nat.le_refl _) (.int .u8 0)) (p:=⟨W.heap.size,1,none⟩) (Nat.le_refl _) (.int .i64 0)) (p:=⟨W.heap.size,2,none⟩) (Nat.le_refl _) (str [])) (p:=⟨W.heap.size,3,none⟩) (Nat.le_refl _) (.int .i64 0)) (p:=⟨W.heap.size,4,none⟩) (Nat.le_refl _) (.int .i64 0)) (p:=⟨W.heap.size,5,none⟩) (Nat.le_refl _) (.int .i64 0)) (p:=⟨W.heap.size,6,none⟩) (Nat.le_refl _) (.int .i64 0)) (p:=⟨W.heap.size,7,none⟩) (Nat.le_refl _) (.int .i64 s.length))
  have d0:=ZF.out.cell 0
  have d1:=ZF.out.cell 1
  have d2:=ZF.out.cell 2
  have d3:=ZF.out.cell 3
  have d4:=ZF.out.cell 4
  have d5:=ZF.out.cell 5
  have d6:=ZF.out.cell 6
  have d7:=ZF.out.cell 7
  clear zf z0 z1 z2 z3 z4 z5 z6 z7
  refine bodyPost_ret (v:=.agg #[.int .u8 0,.int .i64 0,str [],.int .i64 0,.int .i64 0,.int .i64 0,.int .i64 0,.int .i64 s.length]) (by simp (maxDischargeDepth:=9) [results,results263,go_sem,d0,d1,d2,d3,d4,d5,d6,d7]) rfl ?_
  exact ⟨rfl,HF.out⟩
 have hi1:(i:Int)<(L.length:Int):=by omega
 have hd1:decide ((i:Int)<(L.length:Int))=true:=decide_eq_true hi1
 rw [zhu _ L i T hil]
 have hx:L[i]?=some L[i]:=List.getElem?_eq_getElem hil
 obtain ⟨b,o,rfl,hb,rr⟩:=hs.get 8 zdk hx
 generalize L[i]=t at *
 have hbz:b≠W.heap.size:=by omega
 have HSW:=Hd (show ∀n,(fun W'=>Blk W' p 272 #[str s,.slice (some ⟨b,o,none⟩) L.length cap,.int .i64 i,ov,.int .i64 a,.int .i64 f]∧∀j v,(cTok t)[j]?=some v→W'.cell? ⟨b,o+i*8+j,none⟩=some v) ((W.alloc (.cells #[.int .u8 0,.int .i64 0,str [],.int .i64 0,.int .i64 0,.int .i64 0,.int .i64 0,.int .i64 0] 239)).drewN n).drew from fun n=>⟨HBX.out.alloc _,fun j v hj=>(World.cell?_alloc_old _ _ _ hbz).trans (rr j v hj)⟩)
 clear rr hx hs hil
 go_enter func263,ntmps263
 go_wp2_with fail
 go_quiet (fail)
 obtain ⟨V,hV⟩:∃V,(W.alloc (.cells #[.int .u8 0,.int .i64 0,str [],.int .i64 0,.int .i64 0,.int .i64 0,.int .i64 0,.int .i64 0] 239)).drewN nq=V:=⟨_,rfl⟩
 have HZV:=Hd (show Blk V W.heap.size 239 #[.int .u8 0,.int .i64 0,str [],.int .i64 0,.int .i64 0,.int .i64 0,.int .i64 0,.int .i64 0] from hV▸HZ.out)
 have HBV:=Hd (show Below W.heap.size W V from hV▸Below.drewN_ (show Below W.heap.size W (W.alloc (.cells #[.int .u8 0,.int .i64 0,str [],.int .i64 0,.int .i64 0,.int .i64 0,.int .i64 0,.int .i64 0] 239)) by go_grown) nq)
 have HSV:=Hd (show (fun W'=>Blk W' p 272 #[str s,.slice (some ⟨b,o,none⟩) L.length cap,.int .i64 i,ov,.int .i64 a,.int .i64 f]∧∀j v,(cTok t)[j]?=some v→W'.cell? ⟨b,o+i*8+j,none⟩=some v) V.drew from hV▸HSW.out nq)
 rw [hV]
 clear hV c0 c1 c2
 go_wp2_with fail
 refine wp_region_noPanic ?_
 refine za8 (fun W'=>Blk W' p 272 #[str s,.slice (some ⟨b,o,none⟩) L.length cap,.int .i64 i,ov,.int .i64 a,.int .i64 f]∧∀j v,(cTok t)[j]?=some v→W'.cell? ⟨b,o+i*8+j,none⟩=some v) 10 (by kernel_rfl) ?_
 have hHeld:(fun W'=>Blk W' p 272 #[str s,.slice (some ⟨b,o,none⟩) L.length cap,.int .i64 i,ov,.int .i64 a,.int .i64 f]∧∀j v,(cTok t)[j]?=some v→W'.cell? ⟨b,o+i*8+j,none⟩=some v) _:=HSV.out
 refine tU 0 ⟨some 13,.move (.tmp 0),_,_,_,none⟩ (.pointer (some ⟨p,0,none⟩)) rfl (fun _=>hHeld) ?_
 try go_frame
 refine tU 1 ⟨some 14,.nilCheck (.tmp 13),_,_,_,none⟩ (.pointer (some ⟨p,0,none⟩)) rfl (fun _=>hHeld) ?_
 try go_frame
 refine tU 2 ⟨some 15,.fieldAddr 272 (.tmp 14) 1,_,_,_,none⟩ (.pointer (some ⟨p,1,none⟩)) rfl (fun _=>hHeld) ?_
 try go_frame
 refine tV 3 ⟨some 16,.load 230 (.tmp 15),230,_,_,none⟩ (.slice (some ⟨b,o,none⟩) L.length cap) rfl hHeld (Or.inl ⟨by rfl,by intro W hW;have hc:W.cell? ⟨p,1,none⟩=some (.slice (some ⟨b,o,none⟩) L.length cap):=hW.1.cell 1;go_simp⟩) ?_
 try go_frame
 refine tU 4 ⟨some 17,.move (.tmp 0),_,_,_,none⟩ (.pointer (some ⟨p,0,none⟩)) rfl (fun _=>hHeld) ?_
 try go_frame
 refine tU 5 ⟨some 18,.nilCheck (.tmp 17),_,_,_,none⟩ (.pointer (some ⟨p,0,none⟩)) rfl (fun _=>hHeld) ?_
 try go_frame
 refine tU 6 ⟨some 19,.fieldAddr 272 (.tmp 18) 2,_,_,_,none⟩ (.pointer (some ⟨p,2,none⟩)) rfl (fun _=>hHeld) ?_
 try go_frame
 refine tV 7 ⟨some 20,.load 3 (.tmp 19),3,_,_,none⟩ (.int .i64 i) rfl hHeld (Or.inl ⟨by rfl,by intro W hW;have hc:W.cell? ⟨p,2,none⟩=some (.int .i64 i):=hW.1.cell 2;go_simp⟩) ?_
 try go_frame
 refine tU 8 ⟨some 21,.indexAddr 230 (.tmp 16) (.tmp 20),_,_,_,none⟩ (.pointer (some ⟨b,o+i*8,none⟩)) rfl (fun _=>hHeld) ?_
 try go_frame
 refine tV 9 ⟨some 22,.load 239 (.tmp 21),239,_,_,none⟩ (.agg _) rfl hHeld (yieldsIf_load_mid rfl _ _ rfl (b) (o+i*8) rfl _ _ (fun W' h=>h.2) rfl rfl (by kernel_rfl)) ?_
 try go_frame
 refine zai 10 (o:=⟨none,.store 239 (.tmp 2) (.tmp 22),0,_,_,none⟩) (by kernel_rfl) rfl rfl (fun K hK=>?_)
 refine wp_store_row 239 (.tmp 2) (.tmp 22) rfl W.heap.size (cTok t).toArray rfl rfl 239 _ HZV.out.drew (by kernel_rfl) rfl (by kernel_rfl) ?_
 refine hK.out _ _ (fun h=>absurd h (by decide)) ?_
 clear hK K
 try go_frame
 refine za9 (by kernel_rfl) ?_
 refine NoPanic.normal ?_
 clear hHeld
 go_wp2_with fail
 refine bodyPost_ret (zk0 rfl (by rfl) (HZV.out.drew.row (cTok t).toArray) underlying239 rfl (by kernel_rfl)) rfl ?_
 exact ⟨rfl,Below.setRow HBV.out.drew (Nat.le_refl _) _⟩
theorem zbp (p:Nat) (s:zaa) (L:List Tok) (ov:Value) (i:Nat) (T:List Nod) (a:Int) (x e:Int) (W:World) (h:PR W p s L ov i T a 0):
 Calls prog 262 #[.pointer (some ⟨p,0,none⟩),.int .i64 x,.int .i64 e] W fun u W'=>u=.returned (.tuple #[])∧PR W' p s L ov i T x e∧PTo p W ov W' ov:=by
 obtain ⟨A,cap,c0,c1,c2,c3,c4,c5,cf,hs,hlt⟩:=h.cells
 have HF:=Hd (h.fault x e)
 clear h hs
 go_enter func262,ntmps262
 go_wp2
 refine bE ?_
 exact ⟨rfl,HF.out⟩
theorem zdi (p:Nat) (s:zaa) (L:List Tok) (ov:Value) (i:Nat) (T:List Nod) (a f:Int) (x e:Int) (W:World) (h:PR W p s L ov i T a f) (hf:f≠0):
 Calls prog 262 #[.pointer (some ⟨p,0,none⟩),.int .i64 x,.int .i64 e] W fun u W'=>u=.returned (.tuple #[])∧W=W':=by
 obtain ⟨A,cap,c0,c1,c2,c3,c4,c5,cf,hs,hlt⟩:=h.cells
 have f0:(f==0)=false:=by simpa using hf
 clear h hs hf
 go_enter func262,ntmps262
 go_wp2
 refine bE ?_
 exact ⟨rfl,rfl⟩
theorem zn4 (v:Value) (l:zaa) (b:Bool) (w:World) (h:Out w v l) (hl:l.length≤100000000000):
 Calls prog 95 #[v,.bool b] w fun e w'=>∃v',e=.returned v'∧Out w' v' (l++zhz b)∧OutTo w v w' v':=by
 have H:=Hd h
 clear h
 cases b
 all_goals
  go_enter func95,ntmps95
  go_wp2_with fail
  refine (zbv v l _ _ H.out hl).mono ?_
  rintro e w1 ⟨v1,rfl,o1,t1⟩
  have O1:=Hd o1
  have T1:=Hd t1
  clear o1 t1
  go_wp2
  go_ret
  exact ⟨_,rfl,O1.out,T1.out⟩
theorem zm6 (v:Value) (l s:zaa) (w:World) (h:Out w v l) (hs:s.length≤1000000000) (hl:l.length≤10000000000):
 Calls prog 87 #[v,str s] w fun e w'=>∃v',e=.returned v'∧Out w' v' (l++zcy s)∧OutTo w v w' v':=by
 obtain ⟨i0,hi0,hz0,hz1,hz2⟩:=info_parts (show (prog.info? 5).map (fun i=>(i.zero,i.size,i.bytes))=some (some (.int .u8 0),1,1) by kernel_rfl)
 have H:=Hd h
 clear h
 have n1:=zab s.length
 go_enter func87,ntmps87
 go_wp2_with fail
 refine (zbv v l _ _ H.out (by omega)).mono ?_
 rintro e w1 ⟨v1,rfl,o1,t1⟩
 have O1:=Hd o1
 have T1:=Hd t1
 clear o1 t1
 go_wp2_with (at_builtin;refine zen rfl _ _ 59 9 rfl i0 rfl rfl hi0 hz0 hz1 hz2 v1 _ s rfl O1.out rfl (by simp;omega) (by omega) ?_;intro v2 w2 o2 t2)
 have O2:=Hd o2
 have T2:=Hd (T1.out.trans t2)
 clear o2 t2
 go_wp2
 go_ret
 exact ⟨_,rfl,by simpa [zcy] using O2.out,T2.out⟩
end Go.Proofs.YtamcgggmfghljaaGreatDoor
