/- walk -/
import Derived.Test.YtamcgggmfghljaaGreatDoorE24
import Derived.Test.YtamcgggmfghljaaGreatDoorE25
set_option maxRecDepth 100000
set_option maxHeartbeats 8000000
open Go.Proofs.Tryz
namespace Go.Proofs.YtamcgggmfghljaaGreatDoor
open Go.RowKit
variable {B cap k n:Nat} {α:Type} {w:World}
theorem zzn (x:Rts) (w:World):(binOp .neq 46 (.agg x) (.agg #[.int .u64 0,.int .u64 0,.int .u64 0])).run prog w=.ok (.bool (decide (x≠⟨0,0,0⟩))) w:=by
 obtain ⟨a,b,c⟩:=x;simp[go_sem];by_cases q0:a=0
 ·by_cases q1:b=0
  ·by_cases q2:c=0
   ·simp[q0,q1,q2]
   simp[q0,q1,q2]
  simp[q0,q1]
 simp[q0]
theorem zzo (x:Rct) (w:World):(binOp .neq 43 (.agg x) (.agg #[.int .i64 0,.int .i64 0,.int .i64 0,.int .i64 0])).run prog w=.ok (.bool (decide (x≠⟨0,0,0,0⟩))) w:=by
 obtain ⟨a,b,c,d⟩:=x;simp[go_sem];by_cases q0:a=0
 ·by_cases q1:b=0
  ·by_cases q2:c=0
   ·by_cases q3:d=0
    ·simp[q0,q1,q2,q3]
    simp[q0,q1,q2,q3]
   simp[q0,q1,q2]
  simp[q0,q1]
 simp[q0]
theorem z2x (x:Opr) (v:Value) (l:zaa) (w:World) (hi:x.input.length<=1000000) (a0:0<=x.rights.rd) (a1:x.rights.rd<18446744073709551616) (b0:0<=x.rights.wr) (b1:x.rights.wr<18446744073709551616) (c0:0<=x.rights.ow) (c1:x.rights.ow<18446744073709551616) (t0:0<=x.to_) (t1:x.to_<18446744073709551616)
 (h:Out w v l) (hl:l.length<=100000000):
 Calls prog 103 #[v,.agg (cOpr x).toArray] w λe w'=>∃v',e=.returned v'/\Out w' v' (l++oprB x)/\OutTo w v w' v':=by
 have hmf:∀(fn:Fn) (first cap:Array Value) (w:World),(Instr.makeFunc fn first cap).run prog w=.ok (.func fn first cap) w:=λ_ _ _ _=>rfl;rw[show (cOpr x).toArray=#[.int .u8 x.kind,.int .i64 x.user,.int .i64 x.rect.c1,.int .i64 x.rect.r1,.int .i64 x.rect.c2,.int .i64 x.rect.r2,str x.input,.int .u64 x.rights.rd,.int .u64 x.rights.wr,.int .u64 x.rights.ow,.int .u8 x.fns,.int .u64 x.to_,.int .i64 x.index] from rfl];have KG:=Hd (je w 48 x);have HB0:=jM (Below w w (w.alloc (.cells x 48))) (by go_grown);have hn2:=zzo x.rect;have hn4:=zzn x.rights;obtain ⟨q1,hq1⟩:=jN (x.user != 0);obtain ⟨q2,hq2⟩:=jN (decide (x.rect≠⟨0,0,0,0⟩));obtain ⟨q3,hq3⟩:=jN (!(x.input==([]:List UInt8)));obtain ⟨q4,hq4⟩:=jN (decide (x.rights≠⟨0,0,0⟩));obtain ⟨q5,hq5⟩:=jN (x.fns != 0);obtain ⟨q6,hq6⟩:=jN (x.to_ != 0);obtain ⟨q7,hq7⟩:=jN (x.index != 0);have HF0:Hid ((oprF x)[0]?=some (q1,numI x.user)):=Hd (by rw[<- (show decide (x.user≠0)=q1 from (by rw[<- hq1];by_cases e:x.user=0 <;> simp[e]))];rfl);have HF1:Hid ((oprF x)[1]?=some (q2,za7 x.rect)):=Hd (by rw[<- (show decide (x.rect≠⟨0,0,0,0⟩)=q2 from hq2)];rfl);have HF2:Hid ((oprF x)[2]?=some (q3,zcv x.input)):=Hd (by rw[<- (show decide (x.input≠ [])=q3 from (by rw[<- hq3];by_cases e:x.input=[] <;> simp[e]))];rfl);have HF3:Hid ((oprF x)[3]?=some (q4,zce x.rights)):=Hd (by rw[<- (show decide (x.rights≠⟨0,0,0⟩)=q4 from hq4)];rfl);have HF4:Hid ((oprF x)[4]?=some (q5,numI x.fns)):=Hd (by rw[<- (show decide (x.fns≠0)=q5 from (by rw[<- hq5];by_cases e:x.fns=0 <;> simp[e]))];rfl);have HF5:Hid ((oprF x)[5]?=some (q6,numI x.to_)):=Hd (by rw[<- (show decide (x.to_≠0)=q6 from (by rw[<- hq6];by_cases e:x.to_=0 <;> simp[e]))];rfl);have HF6:Hid ((oprF x)[6]?=some (q7,numI x.index)):=Hd (by rw[<- (show decide (x.index≠0)=q7 from (by rw[<- hq7];by_cases e:x.index=0 <;> simp[e]))];rfl);rw[hq2] at hn2;rw[hq4] at hn4;go_enter func103,ntmps103;go_upto_region 1 with (fail)
 obtain ⟨W1,hW1⟩:=jN (w.alloc (.cells x 48));rw[hW1] at KG HB0 ⊢;clear hW1;go_upto_region 3 with (fail)
 refine wp_region_noPanic ?_;refine wp_region_held_drew (S:=λW=>Blk W w 48 x) (by kernel_rfl) KG.o.drew (λhHeld=>?_);refine tH 0 (.pointer (some ⟨w.heap.size,1,none⟩)) hHeld ?_
 try go_frame
 refine tH 1 (.int .i64 x.user) hHeld ?_ (hy:=Or.inl ⟨by rfl,by intro W hW;have hc:W.cell? ⟨w.heap.size,1,none⟩=some (.int .i64 x.user):=hW.cell 1;go_simp⟩)
 try go_frame
 refine tH 2 (.bool q1) hHeld ?_
 try go_frame
 refine tH 3 (.func (.func 160) #[] #[.pointer (some ⟨w.heap.size,0,none⟩)]) hHeld ?_
 try go_frame
 refine tH 4 (.agg #[.bool q1,.func (.func 160) #[] #[.pointer (some ⟨w.heap.size,0,none⟩)]]) hHeld ?_
 try go_frame
 refine tH 5 (.pointer (some ⟨w.heap.size,2,none⟩)) hHeld ?_
 try go_frame
 refine wpAnyH_take (i:=6) (oi:=⟨some 15,.load 43 (.tmp 14),43,_,_,none⟩) (v:=.agg _) rfl (by kernel_rfl) (by kernel_rfl) (by kernel_rfl) (λc d e h=>NoPanic.put h) (yieldsIf_load_mid rfl _ _ rfl (w.heap.size) (2) rfl _ _ (λW' h=>h.range (l:=[.int .i64 x.rect.c1,.int .i64 x.rect.r1,.int .i64 x.rect.c2,.int .i64 x.rect.r2]) (o:=2) (by
  intro j v hj;rcases j with _ | _ | _ | _ | j
  ·exact hj
  ·exact hj
  ·exact hj
  ·exact hj
  simp at hj)) rfl rfl (by kernel_rfl)) hHeld ?_
 try go_frame
 refine tH 7 (.agg #[.int .i64 0,.int .i64 0,.int .i64 0,.int .i64 0]) hHeld ?_
 try go_frame
 refine tH 8 (.bool q2) hHeld ?_
 try go_frame
 refine tH 9 (.func (.func 161) #[] #[.pointer (some ⟨w.heap.size,0,none⟩)]) hHeld ?_
 try go_frame
 refine tH 10 (.agg #[.bool q2,.func (.func 161) #[] #[.pointer (some ⟨w.heap.size,0,none⟩)]]) hHeld ?_
 try go_frame
 refine tH 11 (.pointer (some ⟨w.heap.size,6,none⟩)) hHeld ?_
 try go_frame
 refine tH 12 (str x.input) hHeld ?_ (hy:=Or.inl ⟨by rfl,by intro W hW;have hc:W.cell? ⟨w.heap.size,6,none⟩=some (str x.input):=hW.cell 6;go_simp⟩)
 try go_frame
 refine tH 13 (.bool q3) hHeld ?_ (hy:=Or.inl ⟨by rfl,by intro W hW;go_simp;rw[<- hq3];cases x.input <;> rfl⟩)
 try go_frame
 refine tH 14 (.func (.func 162) #[] #[.pointer (some ⟨w.heap.size,0,none⟩)]) hHeld ?_
 try go_frame
 refine tH 15 (.agg #[.bool q3,.func (.func 162) #[] #[.pointer (some ⟨w.heap.size,0,none⟩)]]) hHeld ?_
 try go_frame
 refine tH 16 (.pointer (some ⟨w.heap.size,7,none⟩)) hHeld ?_
 try go_frame
 refine wpAnyH_take (i:=17) (oi:=⟨some 26,.load 46 (.tmp 25),46,_,_,none⟩) (v:=.agg _) rfl (by kernel_rfl) (by kernel_rfl) (by kernel_rfl) (λc d e h=>NoPanic.put h) (yieldsIf_load_mid rfl _ _ rfl (w.heap.size) (7) rfl _ _ (λW' h=>h.range (l:=[.int .u64 x.rights.rd,.int .u64 x.rights.wr,.int .u64 x.rights.ow]) (o:=7) (by
  intro j v hj;rcases j with _ | _ | _ | j
  ·exact hj
  ·exact hj
  ·exact hj
  simp at hj)) rfl rfl (by kernel_rfl)) hHeld ?_
 try go_frame
 refine tH 18 (.agg #[.int .u64 0,.int .u64 0,.int .u64 0]) hHeld ?_
 try go_frame
 refine tH 19 (.bool q4) hHeld ?_
 try go_frame
 refine tH 20 (.func (.func 163) #[] #[.pointer (some ⟨w.heap.size,0,none⟩)]) hHeld ?_
 try go_frame
 refine tH 21 (.agg #[.bool q4,.func (.func 163) #[] #[.pointer (some ⟨w.heap.size,0,none⟩)]]) hHeld ?_
 try go_frame
 refine tH 22 (.pointer (some ⟨w.heap.size,10,none⟩)) hHeld ?_
 try go_frame
 refine tH 23 (.int .u8 x.fns) hHeld ?_ (hy:=Or.inl ⟨by rfl,by intro W hW;have hc:W.cell? ⟨w.heap.size,10,none⟩=some (.int .u8 x.fns):=hW.cell 10;go_simp⟩)
 try go_frame
 refine tH 24 (.bool q5) hHeld ?_
 try go_frame
 refine tH 25 (.func (.func 164) #[] #[.pointer (some ⟨w.heap.size,0,none⟩)]) hHeld ?_
 try go_frame
 refine tH 26 (.agg #[.bool q5,.func (.func 164) #[] #[.pointer (some ⟨w.heap.size,0,none⟩)]]) hHeld ?_
 try go_frame
 refine tH 27 (.pointer (some ⟨w.heap.size,11,none⟩)) hHeld ?_
 try go_frame
 refine tH 28 (.int .u64 x.to_) hHeld ?_ (hy:=Or.inl ⟨by rfl,by intro W hW;have hc:W.cell? ⟨w.heap.size,11,none⟩=some (.int .u64 x.to_):=hW.cell 11;go_simp⟩)
 try go_frame
 refine tH 29 (.bool q6) hHeld ?_
 try go_frame
 refine tH 30 (.func (.func 165) #[] #[.pointer (some ⟨w.heap.size,0,none⟩)]) hHeld ?_
 try go_frame
 refine tH 31 (.agg #[.bool q6,.func (.func 165) #[] #[.pointer (some ⟨w.heap.size,0,none⟩)]]) hHeld ?_
 try go_frame
 refine tH 32 (.pointer (some ⟨w.heap.size,12,none⟩)) hHeld ?_
 try go_frame
 refine tH 33 (.int .i64 x.index) hHeld ?_ (hy:=Or.inl ⟨by rfl,by intro W hW;have hc:W.cell? ⟨w.heap.size,12,none⟩=some (.int .i64 x.index):=hW.cell 12;go_simp⟩)
 try go_frame
 refine tH 34 (.bool q7) hHeld ?_
 try go_frame
 refine tH 35 (.func (.func 166) #[] #[.pointer (some ⟨w.heap.size,0,none⟩)]) hHeld ?_
 try go_frame
 refine tH 36 (.agg #[.bool q7,.func (.func 166) #[] #[.pointer (some ⟨w.heap.size,0,none⟩)]]) hHeld ?_
 try go_frame
 refine tH 39 (.int .i64 0) hHeld ?_
 try go_frame
 refine tC 37 rfl λK hK=>?_;go_simp;refine hK.out _ _ ((KG.o.drew.alloc _).drew) (λhHeld=>?_);clear hK K
 try go_frame
 refine tH 38 (.int .i64 7) hHeld ?_
 try go_frame
 refine wpAnyH_done (by kernel_rfl) ?_ _;refine NoPanic.normal ?_;have KF:=Hd ((je W1 184 #[.bool q1,.func (.func 160) #[] #[.pointer (some (w,0))],.bool q2,.func (.func 161) #[] #[.pointer (some (w,0))],.bool q3,.func (.func 162) #[] #[.pointer (some (w,0))],.bool q4,.func (.func 163) #[] #[.pointer (some (w,0))],.bool q5,.func (.func 164) #[] #[.pointer (some (w,0))],.bool q6,.func (.func 165) #[] #[.pointer (some (w,0))],.bool q7,.func (.func 166) #[] #[.pointer (some (w,0))]]).drew);have KG2:=Hd ((KG.o.alloc (.cells #[.bool q1,.func (.func 160) #[] #[.pointer (some (w,0))],.bool q2,.func (.func 161) #[] #[.pointer (some (w,0))],.bool q3,.func (.func 162) #[] #[.pointer (some (w,0))],.bool q4,.func (.func 163) #[] #[.pointer (some (w,0))],.bool q5,.func (.func 164) #[] #[.pointer (some (w,0))],.bool q6,.func (.func 165) #[] #[.pointer (some (w,0))],.bool q7,.func (.func 166) #[] #[.pointer (some (w,0))]] 184)).drew);have HB2:=jM (Below w w (W1.alloc (.cells #[.bool q1,.func (.func 160) #[] #[.pointer (some (w,0))],.bool q2,.func (.func 161) #[] #[.pointer (some (w,0))],.bool q3,.func (.func 162) #[] #[.pointer (some (w,0))],.bool q4,.func (.func 163) #[] #[.pointer (some (w,0))],.bool q5,.func (.func 164) #[] #[.pointer (some (w,0))],.bool q6,.func (.func 165) #[] #[.pointer (some (w,0))],.bool q7,.func (.func 166) #[] #[.pointer (some (w,0))]] 184)).drew) ((HB0.o.alloc HB0.o.size _).drew);have hlt2:W1.heap.size<(W1.alloc (.cells #[.bool q1,.func (.func 160) #[] #[.pointer (some (w,0))],.bool q2,.func (.func 161) #[] #[.pointer (some (w,0))],.bool q3,.func (.func 162) #[] #[.pointer (some (w,0))],.bool q4,.func (.func 163) #[] #[.pointer (some (w,0))],.bool q5,.func (.func 164) #[] #[.pointer (some (w,0))],.bool q6,.func (.func 165) #[] #[.pointer (some (w,0))],.bool q7,.func (.func 166) #[] #[.pointer (some (w,0))]] 184)).drew.heap.size:=by show _<(W1.heap.push _).size;simp
 have hlt1:w.heap.size<W1.heap.size:=KG.o.lt;obtain ⟨W2,hW2⟩:=jN ((W1.alloc (.cells #[.bool q1,.func (.func 160) #[] #[.pointer (some (w,0))],.bool q2,.func (.func 161) #[] #[.pointer (some (w,0))],.bool q3,.func (.func 162) #[] #[.pointer (some (w,0))],.bool q4,.func (.func 163) #[] #[.pointer (some (w,0))],.bool q5,.func (.func 164) #[] #[.pointer (some (w,0))],.bool q6,.func (.func 165) #[] #[.pointer (some (w,0))],.bool q7,.func (.func 166) #[] #[.pointer (some (w,0))]] 184)).drew);rw[hW2] at KF KG2 HB2 hlt2 ⊢;obtain ⟨p,hp⟩:=jN W1.heap.size;rw[hp] at KF hlt2 hlt1 ⊢;clear hW2 hp KG HB0 hn2 hn4 hmf hHeld;have HO:=Hd (h.below HB2.o);go_wp2_with fail;go_loopw [5,6,48] (λm fv i wr=>∃k:Nat,k<=7/\i=.int .i64 k/\m=.int .i64 (mkN x k)/\Out wr fv (mkS x k)/\(∀q,fv.ownBlock=some q->W2.heap.size<=q)/\Below W2 W2 wr) (λ_ _ i _=>7-(intOf i).toNat)
 case atStart=>exact ⟨0,by omega,rfl,rfl,Out.nil _,λq hq=>by simp[Value.ownBlock] at hq,jg _ _⟩
 rename World=>w0
 obtain ⟨k,hk,rfl,rfl,ho,hob,hbw⟩:=hrel;have HBW:=Hd hbw;have HOW:=Hd ho;have HOB:=Hd hob;have KFW:=Hd (KF.o.below hbw hlt2);have KGW:=Hd (KG2.o.below hbw KG2.o.lt);clear ho hob hbw;have h8:k=7\/k=0\/k=1\/k=2\/k=3\/k=4\/k=5\/k=6:=by omega
 rcases h8 with rfl|rfl|rfl|rfl|rfl|rfl|rfl|rfl
 ·rw[show (((7:Nat):Int))=7 from rfl];have e0:=KGW.o.cell 0;go_wp2_with fail;refine (zn7 v l x.kind w0 (HO.o.below HBW.o) (by omega)).mono ?_;rintro e w3 ⟨v3,rfl,o3,t3⟩;have O3:=Hd o3;have T3:=Hd t3;clear o3 t3 e0;go_wp2_with fail;refine (zb6 v3 _ (mkN x 7) w3 O3.o (by rw[jH];have:=zab x.kind;omega)).mono ?_;rintro e w4 ⟨v4,rfl,o4,t4⟩;have hne:∀q,u6.ownBlock=some q->v.ownBlock≠some q:=λq hq e=>by
   have k1:=HOB.o q hq;have k2:=HO.o.lt q e;omega
  have T34:=Hd (T3.o.trans t4);have OU:=Hd (HOW.o.outTo T34.o hne);obtain ⟨i0,hi0,hz0,hz1,hz2⟩:=info_parts (show (prog.info? 5).map (λi=>(i.zero,i.size,i.bytes))=some (some (.int .u8 0),1,1) by kernel_rfl);obtain ⟨v5,w5,hr,o5,t5⟩:=zyk w4 59 59 i0 underlying59 hi0 hz0 hz1 hz2 v4 _ o4 u6 _ OU.o (by
   have m0:=zhl x hi 7;have m1:=zab x.kind;have m2:=zab (mkN x 7);simp only[jH];omega)
  have R1:=Hd hr;have O5:=Hd o5;have T5:=Hd (T34.o.trans t5);clear hr o5 t5 o4 t4 hne hi0 hz0 hz1 hz2;go_wp2_with (first | (at_builtin;refine zig rfl (.tmp 69) (.tmp 70) 59 59 rfl v4 u6 v5 w5 rfl rfl R1.o ?_));go_ret;refine ⟨v5,rfl,?_,?_⟩
  ·have e:l++oprB x=l++numI x.kind++numI (mkN x 7)++mkS x 7:=by
    rw[jJ,jJ];unfold oprB;rw[jJ];rfl
   rw[e];exact O5.o
  exact (((OutTo.refl w v).below HB2.o).below HBW.o).trans T5.o
 ·rw[show (((0:Nat):Int))=0 from rfl];obtain ⟨e1,e2⟩:=KFW.o.c2 0 1;cases q1
  ·go_wp2_with fail;obtain ⟨f1,f2⟩:=zcb x 0 _ HF0.o;exact ⟨⟨1,by omega,rfl,by rw[<- f1],by rw[show mkS x 1=_ from f2];exact HOW.o.alloc _,HOB.o,HBW.o.alloc HBW.o.size _⟩,by simp[intOf]⟩
  go_wp2_with fail;obtain ⟨f1,f2⟩:=zda x 0 _ (by omega) HF0.o;rw[show ((2:Int) ^ 0)=1 from by decide] at f1;have F1:=Hd f1;have F2:=Hd f2;clear f1 f2 e1 e2;refine (oc_1 w.heap.size x u6 (mkS x 0) _ (KGW.o.alloc _) (HOW.o.alloc _) (by have:=zhl x hi 0;omega)).mono ?_;rintro e w3 ⟨u7,rfl,o3,t3⟩;have O3:=Hd o3;have T3:=Hd t3;clear o3 t3;go_wp2;exact ⟨⟨1,by omega,rfl,congrArg (Value.int .i64) (show bits .or .i64 (mkN x 0) 1=mkN x 1 from F1.o),by rw[show mkS x 1=_ from F2.o];exact O3.o,T3.o.newer (jx HBW.o.size (Below.alloc (jg _ _) jy _).size) HOB.o,(HBW.o.alloc HBW.o.size _).trans (T3.o.old (HBW.o.alloc HBW.o.size _).size HOB.o)⟩,by simp[intOf]⟩
 ·rw[show (((1:Nat):Int))=1 from rfl];obtain ⟨e1,e2⟩:=KFW.o.c2 2 3;cases q2
  ·go_wp2_with fail;obtain ⟨f1,f2⟩:=zcb x 1 _ HF1.o;exact ⟨⟨2,by omega,rfl,by rw[<- f1],by rw[show mkS x 2=_ from f2];exact HOW.o.alloc _,HOB.o,HBW.o.alloc HBW.o.size _⟩,by simp[intOf]⟩
  go_wp2_with fail;obtain ⟨f1,f2⟩:=zda x 1 _ (by omega) HF1.o;rw[show ((2:Int) ^ 1)=2 from by decide] at f1;have F1:=Hd f1;have F2:=Hd f2;clear f1 f2 e1 e2;refine (oc_2 w.heap.size x u6 (mkS x 1) _ (KGW.o.alloc _) (HOW.o.alloc _) (by have:=zhl x hi 1;omega)).mono ?_;rintro e w3 ⟨u7,rfl,o3,t3⟩;have O3:=Hd o3;have T3:=Hd t3;clear o3 t3;go_wp2;exact ⟨⟨2,by omega,rfl,congrArg (Value.int .i64) (show bits .or .i64 (mkN x 1) 2=mkN x 2 from F1.o),by rw[show mkS x 2=_ from F2.o];exact O3.o,T3.o.newer (jx HBW.o.size (Below.alloc (jg _ _) jy _).size) HOB.o,(HBW.o.alloc HBW.o.size _).trans (T3.o.old (HBW.o.alloc HBW.o.size _).size HOB.o)⟩,by simp[intOf]⟩
 ·rw[show (((2:Nat):Int))=2 from rfl];obtain ⟨e1,e2⟩:=KFW.o.c2 4 5;cases q3
  ·go_wp2_with fail;obtain ⟨f1,f2⟩:=zcb x 2 _ HF2.o;exact ⟨⟨3,by omega,rfl,by rw[<- f1],by rw[show mkS x 3=_ from f2];exact HOW.o.alloc _,HOB.o,HBW.o.alloc HBW.o.size _⟩,by simp[intOf]⟩
  go_wp2_with fail;obtain ⟨f1,f2⟩:=zda x 2 _ (by omega) HF2.o;rw[show ((2:Int) ^ 2)=4 from by decide] at f1;have F1:=Hd f1;have F2:=Hd f2;clear f1 f2 e1 e2;refine (oc_3 w.heap.size x u6 (mkS x 2) _ (by omega) (KGW.o.alloc _) (HOW.o.alloc _) (by have:=zhl x hi 2;omega)).mono ?_;rintro e w3 ⟨u7,rfl,o3,t3⟩;have O3:=Hd o3;have T3:=Hd t3;clear o3 t3;go_wp2;exact ⟨⟨3,by omega,rfl,congrArg (Value.int .i64) (show bits .or .i64 (mkN x 2) 4=mkN x 3 from F1.o),by rw[show mkS x 3=_ from F2.o];exact O3.o,T3.o.newer (jx HBW.o.size (Below.alloc (jg _ _) jy _).size) HOB.o,(HBW.o.alloc HBW.o.size _).trans (T3.o.old (HBW.o.alloc HBW.o.size _).size HOB.o)⟩,by simp[intOf]⟩
 ·rw[show (((3:Nat):Int))=3 from rfl];obtain ⟨e1,e2⟩:=KFW.o.c2 6 7;cases q4
  ·go_wp2_with fail;obtain ⟨f1,f2⟩:=zcb x 3 _ HF3.o;exact ⟨⟨4,by omega,rfl,by rw[<- f1],by rw[show mkS x 4=_ from f2];exact HOW.o.alloc _,HOB.o,HBW.o.alloc HBW.o.size _⟩,by simp[intOf]⟩
  go_wp2_with fail;obtain ⟨f1,f2⟩:=zda x 3 _ (by omega) HF3.o;rw[show ((2:Int) ^ 3)=8 from by decide] at f1;have F1:=Hd f1;have F2:=Hd f2;clear f1 f2 e1 e2;refine (oc_4 w.heap.size x u6 (mkS x 3) _ a0 a1 b0 b1 c0 c1 (KGW.o.alloc _) (HOW.o.alloc _) (by have:=zhl x hi 3;omega)).mono ?_;rintro e w3 ⟨u7,rfl,o3,t3⟩;have O3:=Hd o3;have T3:=Hd t3;clear o3 t3;go_wp2;exact ⟨⟨4,by omega,rfl,congrArg (Value.int .i64) (show bits .or .i64 (mkN x 3) 8=mkN x 4 from F1.o),by rw[show mkS x 4=_ from F2.o];exact O3.o,T3.o.newer (jx HBW.o.size (Below.alloc (jg _ _) jy _).size) HOB.o,(HBW.o.alloc HBW.o.size _).trans (T3.o.old (HBW.o.alloc HBW.o.size _).size HOB.o)⟩,by simp[intOf]⟩
 ·rw[show (((4:Nat):Int))=4 from rfl];obtain ⟨e1,e2⟩:=KFW.o.c2 8 9;cases q5
  ·go_wp2_with fail;obtain ⟨f1,f2⟩:=zcb x 4 _ HF4.o;exact ⟨⟨5,by omega,rfl,by rw[<- f1],by rw[show mkS x 5=_ from f2];exact HOW.o.alloc _,HOB.o,HBW.o.alloc HBW.o.size _⟩,by simp[intOf]⟩
  go_wp2_with fail;obtain ⟨f1,f2⟩:=zda x 4 _ (by omega) HF4.o;rw[show ((2:Int) ^ 4)=16 from by decide] at f1;have F1:=Hd f1;have F2:=Hd f2;clear f1 f2 e1 e2;refine (oc_5 w.heap.size x u6 (mkS x 4) _ (KGW.o.alloc _) (HOW.o.alloc _) (by have:=zhl x hi 4;omega)).mono ?_;rintro e w3 ⟨u7,rfl,o3,t3⟩;have O3:=Hd o3;have T3:=Hd t3;clear o3 t3;go_wp2;exact ⟨⟨5,by omega,rfl,congrArg (Value.int .i64) (show bits .or .i64 (mkN x 4) 16=mkN x 5 from F1.o),by rw[show mkS x 5=_ from F2.o];exact O3.o,T3.o.newer (jx HBW.o.size (Below.alloc (jg _ _) jy _).size) HOB.o,(HBW.o.alloc HBW.o.size _).trans (T3.o.old (HBW.o.alloc HBW.o.size _).size HOB.o)⟩,by simp[intOf]⟩
 ·rw[show (((5:Nat):Int))=5 from rfl];obtain ⟨e1,e2⟩:=KFW.o.c2 10 11;cases q6
  ·go_wp2_with fail;obtain ⟨f1,f2⟩:=zcb x 5 _ HF5.o;exact ⟨⟨6,by omega,rfl,by rw[<- f1],by rw[show mkS x 6=_ from f2];exact HOW.o.alloc _,HOB.o,HBW.o.alloc HBW.o.size _⟩,by simp[intOf]⟩
  go_wp2_with fail;obtain ⟨f1,f2⟩:=zda x 5 _ (by omega) HF5.o;rw[show ((2:Int) ^ 5)=32 from by decide] at f1;have F1:=Hd f1;have F2:=Hd f2;clear f1 f2 e1 e2;refine (oc_6 w.heap.size x u6 (mkS x 5) _ t0 t1 (KGW.o.alloc _) (HOW.o.alloc _) (by have:=zhl x hi 5;omega)).mono ?_;rintro e w3 ⟨u7,rfl,o3,t3⟩;have O3:=Hd o3;have T3:=Hd t3;clear o3 t3;go_wp2;exact ⟨⟨6,by omega,rfl,congrArg (Value.int .i64) (show bits .or .i64 (mkN x 5) 32=mkN x 6 from F1.o),by rw[show mkS x 6=_ from F2.o];exact O3.o,T3.o.newer (jx HBW.o.size (Below.alloc (jg _ _) jy _).size) HOB.o,(HBW.o.alloc HBW.o.size _).trans (T3.o.old (HBW.o.alloc HBW.o.size _).size HOB.o)⟩,by simp[intOf]⟩
 rw[show (((6:Nat):Int))=6 from rfl];obtain ⟨e1,e2⟩:=KFW.o.c2 12 13;cases q7
 ·go_wp2_with fail;obtain ⟨f1,f2⟩:=zcb x 6 _ HF6.o;exact ⟨⟨7,by omega,rfl,by rw[<- f1],by rw[show mkS x 7=_ from f2];exact HOW.o.alloc _,HOB.o,HBW.o.alloc HBW.o.size _⟩,by simp[intOf]⟩
 go_wp2_with fail;obtain ⟨f1,f2⟩:=zda x 6 _ (by omega) HF6.o;rw[show ((2:Int) ^ 6)=64 from by decide] at f1;have F1:=Hd f1;have F2:=Hd f2;clear f1 f2 e1 e2;refine (oc_7 w.heap.size x u6 (mkS x 6) _ (KGW.o.alloc _) (HOW.o.alloc _) (by have:=zhl x hi 6;omega)).mono ?_;rintro e w3 ⟨u7,rfl,o3,t3⟩;have O3:=Hd o3;have T3:=Hd t3;clear o3 t3;go_wp2;exact ⟨⟨7,by omega,rfl,congrArg (Value.int .i64) (show bits .or .i64 (mkN x 6) 64=mkN x 7 from F1.o),by rw[show mkS x 7=_ from F2.o];exact O3.o,T3.o.newer (jx HBW.o.size (Below.alloc (jg _ _) jy _).size) HOB.o,(HBW.o.alloc HBW.o.size _).trans (T3.o.old (HBW.o.alloc HBW.o.size _).size HOB.o)⟩,by simp[intOf]⟩
def bokE (b:Bok):Int:=
 if b.users<1\/64<b.users then 2 else if entE none b.entries≠0 then entE none b.entries else if aclE b.users b.rules≠0 then aclE b.users b.rules
 else if zep b.users b.grants≠0 then zep b.users b.grants else if audE b.users b.log b.releases≠0 then audE b.users b.log b.releases
 else if b.step<0\/1099511627776<b.step then 2 else if zgu b.step (b.log.getLast?.map (·.step))=true then 2
 else if zgu b.step (b.releases.getLast?.map (·.step))=true then 2 else 0
def scpE (s:Scp):Int:=if bokE s.book≠0 then bokE s.book else if 4096<s.ops.length then 5 else 0
theorem zoc {c:α->List Value} (hk:∀x,(c x).length=k) (f:α->Int) (hf:∀x,(c x)[0]?=some (.int .i64 (f x))) {A:Option Addr} {l:List α} (h:Sls c w B (.slice A n cap) l):
 (l.getLast?.map f=none/\n=0)\/∃b o m z,A=some ⟨b,o,none⟩/\n=m+1/\b<B/\l.getLast?.map f=some z/\w.cell? ⟨b,o+m*k,none⟩=some (.int .i64 z):=by
 have hl:=h.len.1;rcases Nat.eq_zero_or_pos l.length with h0 | h0
 ·refine .inl ⟨?_,by omega⟩;rw[js h0];rfl
 obtain ⟨m,hm⟩:∃m,l.length=m+1:=⟨l.length-1,by omega⟩;have hx:=jz (l:=l) (i:=m) (by omega);obtain ⟨b,o,e,hb,hr⟩:=h.get k hk hx;refine .inr ⟨b,o,m,f (l[m]'(by omega)),e,by omega,hb,?_,?_⟩
 ·rw[List.getLast?_eq_getElem?,show l.length-1=m by omega,hx];rfl
 exact hr 0 _ (hf _)
theorem zki (b:Bok) (e r g l x:Value) (B:Nat) (w:World) (hB:B<=w.heap.size) (hb:RdBok w B b e r g l x) (hw:Words w) (hil:∀x∈b.entries,x.input.length<=1000000) (hto:∀x∈b.log,0<=x.to_/\x.to_<18446744073709551616):
 Calls prog 31 #[vBok b e r g l x] w λu w'=>u=.returned (.int .i64 (bokE b))/\Below w w w':=by
 obtain ⟨Ae,ce,rfl,_⟩:=id hb.ents;obtain ⟨Ar,cr,rfl,_⟩:=id hb.ruls;obtain ⟨Ag,cg,rfl,_⟩:=id hb.grts;obtain ⟨Al,cl,rfl,_⟩:=id hb.evts;obtain ⟨Ax,cx,rfl,_⟩:=id hb.rlss;have HB:=Hd hb;have HW:=Hd hw;have HIL:=Hd hil;have HTO:=Hd hto;have HLL:=Hd (zoc zdt (·.step) (λ_=>rfl) hb.evts);have HLX:=Hd (zoc zds (·.step) (λ_=>rfl) hb.rlss);have hml:=hb.evts.len.2.2;have hmx:=hb.rlss.len.2.2;unfold maxLen at hml hmx;clear hb hw hil hto;have K0:=Hd (je w 28 (aG b Ae Ar Ag Al Ax ce cr cg cl cx));have HB0:=jM (Below w w (w.alloc (.cells (aG b Ae Ar Ag Al Ax ce cr cg cl cx) 28))) (by go_grown);by_cases hu:b.users<1\/64<b.users
 ·have HE:=jM (bokE b=2) (by unfold bokE;rw[jb hu]);by_cases hu1:b.users<1
  ·clear hu;go_enter func31,ntmps31;go_wp2;go_ret;exact ⟨by rw[HE.o];rfl,HB0.o⟩
  have hu2:64<b.users:=hu.resolve_left hu1;clear hu;go_enter func31,ntmps31;go_wp2;go_ret;exact ⟨by rw[HE.o];rfl,HB0.o⟩
 have HE0:=jM (bokE b=_) (by unfold bokE;exact ja hu);have hu1:¬b.users<1:=λh=>hu (.inl h);have hu2:¬64<b.users:=λh=>hu (.inr h);clear hu;go_enter func31,ntmps31;go_upto_region 1 with (fail)
 obtain ⟨W0,hW0⟩:=jN (w.alloc (.cells (aG b Ae Ar Ag Al Ax ce cr cg cl cx) 28));rw[hW0] at K0 HB0 ⊢;clear hW0;obtain ⟨q0,q1⟩:=K0.o.c2 0 1;go_wp2_with fail;refine (zpx _ b.entries B _ (jx hB HB0.o.size) (HB.o.ents.below (HB0.o.mono hB)) (HW.o.below HB0.o) HIL.o).mono ?_;rintro u w1 ⟨i1,rfl,hb1⟩;generalize entE none b.entries=ee at HE0 ⊢;have K1:=Hd (K0.o.below_ hb1);have HB1:=Hd (jd HB0.o hb1 HB0.o.size);clear hb1;clear q0 q1;by_cases hee:ee=0;rotate_left
 ·have HE:=Hd (HE0.o.trans (jb hee));have be:(ee != 0)=true:=by simpa using hee
  clear hee;go_wp2;go_ret;exact ⟨by rw[HE.o];rfl,HB1.o⟩
 have beee:(ee != 0)=false:=by simpa using hee
 have HE1:=Hd (HE0.o.trans (ja (by simpa using hee)));clear hee;obtain ⟨q0,q2⟩:=K1.o.c2 0 2;go_wp2_with fail;refine (zxz b.users _ b.rules B _ (jx hB HB1.o.size) (HB.o.ruls.below (HB1.o.mono hB))).mono ?_;rintro u w2 ⟨i2,rfl,hb2⟩;generalize aclE b.users b.rules=ea at HE1 ⊢;have K2:=Hd (K1.o.below_ hb2);have HB2:=Hd (jd HB1.o hb2 HB1.o.size);clear hb2;clear q0 q2;by_cases hea:ea=0;rotate_left
 ·have HE:=Hd (HE1.o.trans (jb hea));have be:(ea != 0)=true:=by simpa using hea
  clear hea;go_wp2;go_ret;exact ⟨by rw[HE.o];rfl,HB2.o⟩
 have beea:(ea != 0)=false:=by simpa using hea
 have HE2:=Hd (HE1.o.trans (ja (by simpa using hea)));clear hea;obtain ⟨q0,q3⟩:=K2.o.c2 0 3;go_wp2_with fail;refine (zpq b.users _ b.grants B _ (jx hB HB2.o.size) (HB.o.grts.below (HB2.o.mono hB))).mono ?_;rintro u w3 ⟨i3,rfl,hb3⟩;generalize zep b.users b.grants=eg at HE2 ⊢;have K3:=Hd (K2.o.below_ hb3);have HB3:=Hd (jd HB2.o hb3 HB2.o.size);clear hb3;clear q0 q3;by_cases heg:eg=0;rotate_left
 ·have HE:=Hd (HE2.o.trans (jb heg));have be:(eg != 0)=true:=by simpa using heg
  clear heg;go_wp2;go_ret;exact ⟨by rw[HE.o];rfl,HB3.o⟩
 have beeg:(eg != 0)=false:=by simpa using heg
 have HE3:=Hd (HE2.o.trans (ja (by simpa using heg)));clear heg;obtain ⟨q0,q4,q5⟩:=K3.o.c3 0 4 5;go_wp2_with fail;refine (zp5 b.users _ _ b.log b.releases B _ (jx hB HB3.o.size) (HB.o.evts.below (HB3.o.mono hB)) (HB.o.rlss.below (HB3.o.mono hB)) HTO.o).mono ?_;rintro u w4 ⟨rfl,hb4⟩;generalize audE b.users b.log b.releases=eu at HE3 ⊢;have K4:=Hd (K3.o.below_ hb4);have HB4:=Hd (jd HB3.o hb4 HB3.o.size);clear hb4;clear q0 q4 q5;by_cases heu:eu=0;rotate_left
 ·have HE:=Hd (HE3.o.trans (jb heu));have be:(eu != 0)=true:=by simpa using heu
  clear heu;go_wp2;go_ret;exact ⟨by rw[HE.o];rfl,HB4.o⟩
 have beeu:(eu != 0)=false:=by simpa using heu
 have HE4:=Hd (HE3.o.trans (ja (by simpa using heu)));clear heu;obtain ⟨q4,q5,q6⟩:=K4.o.c3 4 5 6;by_cases s0:b.step<0
 ·have HE:=Hd (HE4.o.trans (jb (.inl s0)));go_wp2;go_ret;exact ⟨by rw[HE.o];rfl,HB4.o⟩
 by_cases s1:1099511627776<b.step
 ·have HE:=Hd (HE4.o.trans (jb (.inr s1)));go_wp2;go_ret;exact ⟨by rw[HE.o];rfl,HB4.o⟩
 have HE5:=Hd (HE4.o.trans (ja (by rw[not_or];exact ⟨s0,s1⟩)));rcases HLL.o with ⟨hn,h0⟩ | ⟨bl,ol,ml,zl,rfl,hlen,hbl,hz,hc⟩
 ·have HE6a:=Hd (HE5.o.trans (ja (by rw[hn];simp[zgu])));have ed0:decide ((0:Int)<(b.log.length:Int))=false:=by rw[h0];rfl
  have ed1:¬(0:Int)<(b.log.length:Int):=by omega
  have ed2:decide (0<b.log.length)=false:=by rw[h0];rfl
  clear hn h0;go_wp2_with fail;go_quiet (fail);rcases HLX.o with ⟨hn,h0⟩ | ⟨bx,ox,mx,zx,rfl,hlen,hbx,hz,hc⟩
  ·have HE6:=Hd (HE6a.o.trans (ja (by rw[hn];simp[zgu])));have b0:((b.releases.length:Int)==0)=true:=by rw[h0];rfl
   have hd0:decide ((0:Int)<(b.releases.length:Int))=false:=by rw[h0];rfl
   have hd1:¬(0:Int)<(b.releases.length:Int):=by omega
   have hd2:decide (0<b.releases.length)=false:=by rw[h0];rfl
   clear hn h0;go_wp2_with fail;go_quiet (fail);go_wp2;go_ret;exact ⟨by rw[HE6.o];rfl,jf (jf HB4.o _) _⟩
  have hcx:w4.cell? (bx,ox+mx*11)=some (.int .i64 zx):=(HB4.o.cell (p:=(bx,ox+mx*11)) (jG hbx hB)).trans hc;have hd0:decide ((0:Int)<(b.releases.length:Int))=true:=by rw[hlen,decide_eq_true_eq];omega
  have hd1:(0:Int)<(b.releases.length:Int):=by omega
  have hd2:decide (0<b.releases.length)=true:=by rw[hlen];simp
  have hmi:(b.releases.length:Int)-1=(mx:Int):=by omega
  have hmz:(0:Int)<=(mx:Int):=jw _;have hml2:(mx:Int)<(b.releases.length:Int):=by omega
  have hmu:(mx:Int)<=9223372036854775807:=by omega
  by_cases hlt:b.step<=zx
  ·have HE6:=Hd (HE6a.o.trans (jb (by rw[hz];simpa [zgu] using hlt)));have hdl:decide (b.step<=zx)=true:=jB hlt;clear hz hc hlen;go_wp2_with fail;go_quiet (fail);go_wp2;go_ret;exact ⟨by rw[HE6.o];rfl,jf (jf HB4.o _) _⟩
  have HE6:=Hd (HE6a.o.trans (ja (by rw[hz];simpa [zgu] using hlt)));have hdl:decide (b.step<=zx)=false:=jA hlt;clear hz hc hlen;go_wp2_with fail;go_quiet (fail);go_wp2;go_ret;exact ⟨by rw[HE6.o];rfl,jf (jf HB4.o _) _⟩
 have hcl:w4.cell? (bl,ol+ml*9)=some (.int .i64 zl):=(HB4.o.cell (p:=(bl,ol+ml*9)) (jG hbl hB)).trans hc;have ed0:decide ((0:Int)<(b.log.length:Int))=true:=by rw[hlen,decide_eq_true_eq];omega
 have ed1:(0:Int)<(b.log.length:Int):=by omega
 have ed2:decide (0<b.log.length)=true:=by rw[hlen];simp
 have emi:(b.log.length:Int)-1=(ml:Int):=by omega
 have emz:(0:Int)<=(ml:Int):=jw _;have eml2:(ml:Int)<(b.log.length:Int):=by omega
 have emu:(ml:Int)<=9223372036854775807:=by omega
 by_cases hlt:b.step<=zl
 ·have HE6:=Hd (HE5.o.trans (jb (by rw[hz];simpa [zgu] using hlt)));have hdl:decide (b.step<=zl)=true:=jB hlt;clear hz hc hlen;go_wp2_with fail;go_quiet (fail);go_wp2;go_ret;exact ⟨by rw[HE6.o];rfl,jf HB4.o _⟩
 have HE6a:=Hd (HE5.o.trans (ja (by rw[hz];simpa [zgu] using hlt)));have hdl:decide (b.step<=zl)=false:=jA hlt;clear hz hc hlen;go_wp2_with fail;go_quiet (fail);clear hcl ed0 ed1 ed2 emi emz eml2 emu hlt hdl;rcases HLX.o with ⟨hn,h0⟩ | ⟨bx,ox,mx,zx,rfl,hlen,hbx,hz,hc⟩
 ·have HE6:=Hd (HE6a.o.trans (ja (by rw[hn];simp[zgu])));have b0:((b.releases.length:Int)==0)=true:=by rw[h0];rfl
  have hd0:decide ((0:Int)<(b.releases.length:Int))=false:=by rw[h0];rfl
  have hd1:¬(0:Int)<(b.releases.length:Int):=by omega
  have hd2:decide (0<b.releases.length)=false:=by rw[h0];rfl
  clear hn h0;go_wp2_with fail;go_quiet (fail);go_wp2;go_ret;exact ⟨by rw[HE6.o];rfl,jf (jf HB4.o _) _⟩
 have hcx:w4.cell? (bx,ox+mx*11)=some (.int .i64 zx):=(HB4.o.cell (p:=(bx,ox+mx*11)) (jG hbx hB)).trans hc;have hd0:decide ((0:Int)<(b.releases.length:Int))=true:=by rw[hlen,decide_eq_true_eq];omega
 have hd1:(0:Int)<(b.releases.length:Int):=by omega
 have hd2:decide (0<b.releases.length)=true:=by rw[hlen];simp
 have hmi:(b.releases.length:Int)-1=(mx:Int):=by omega
 have hmz:(0:Int)<=(mx:Int):=jw _;have hml2:(mx:Int)<(b.releases.length:Int):=by omega
 have hmu:(mx:Int)<=9223372036854775807:=by omega
 by_cases hlt:b.step<=zx
 ·have HE6:=Hd (HE6a.o.trans (jb (by rw[hz];simpa [zgu] using hlt)));have hdl:decide (b.step<=zx)=true:=jB hlt;clear hz hc hlen;go_wp2_with fail;go_quiet (fail);go_wp2;go_ret;exact ⟨by rw[HE6.o];rfl,jf (jf HB4.o _) _⟩
 have HE6:=Hd (HE6a.o.trans (ja (by rw[hz];simpa [zgu] using hlt)));have hdl:decide (b.step<=zx)=false:=jA hlt;clear hz hc hlen;go_wp2_with fail;go_quiet (fail);go_wp2;go_ret;exact ⟨by rw[HE6.o];rfl,jf (jf HB4.o _) _⟩
theorem zft (s:Scp) (e r g l x o:Value) (B:Nat) (w:World) (hB:B<=w.heap.size) (hb:RdScp w B s e r g l x o) (hw:Words w) (hil:∀x∈s.book.entries,x.input.length<=1000000) (hto:∀x∈s.book.log,0<=x.to_/\x.to_<18446744073709551616):
 Calls prog 14 #[vScp s e r g l x o] w λu w'=>u=.returned (.int .i64 (scpE s))/\Below w w w':=by
 obtain ⟨Ao,co,rfl,_⟩:=id hb.ops;have hm:=hb.ops.len.2.2;unfold maxLen at hm;obtain ⟨Ae,ce,rfl,_⟩:=id hb.book.ents;obtain ⟨Ar,cr,rfl,_⟩:=id hb.book.ruls;obtain ⟨Ag,cg,rfl,_⟩:=id hb.book.grts;obtain ⟨Al,cl,rfl,_⟩:=id hb.book.evts;obtain ⟨Ax,cx,rfl,_⟩:=id hb.book.rlss;have HC:Hid (∀W,Below w w W->Calls prog 31 #[vBok s.book (.slice Ae s.book.entries.length ce) (.slice Ar s.book.rules.length cr) (.slice Ag s.book.grants.length cg) (.slice Al s.book.log.length cl) (.slice Ax s.book.releases.length cx)] W λu w'=>u=.returned (.int .i64 (bokE s.book))/\Below W W w'):=
  Hd (λW h=>zki s.book _ _ _ _ _ B W (jx hB h.size) (hb.book.below (h.mono hB)) (hw.below h) hil hto)
 have HE:=jM (scpE s=if bokE s.book≠0 then bokE s.book else if 4096<s.ops.length then 5 else 0) rfl;generalize bokE s.book=be at HC HE;generalize scpE s=se at HE ⊢;clear hb hw hil hto;go_enter func14,ntmps14;go_wp2_with fail;refine (HC.o _ (by go_grown)).mono ?_;rintro u w1 ⟨rfl,hb1⟩;have hc1:w1.cell? (w,7)=some (.slice Ao s.ops.length co):=(hb1.cell (p:=(w,7)) (by simp)).trans (by go_simp);have HB1:=jM (Below w w w1) (nxt hb1);clear hb1;by_cases h0:be=0
 ·have HE2:=Hd (HE.o.trans (ja (by simpa using h0)));have b0:(be != 0)=false:=by simpa using h0
  clear HE h0;by_cases h4:4096<s.ops.length
  ·have HE3:=Hd (HE2.o.trans (jb h4));have g4:(4096:Int)<(s.ops.length:Int):=by omega
   clear h4;go_wp2;go_ret;exact ⟨by rw[HE3.o];rfl,HB1.o⟩
  have HE3:=Hd (HE2.o.trans (ja h4));have g4:¬(4096:Int)<(s.ops.length:Int):=by omega
  clear h4;go_wp2;go_ret;exact ⟨by rw[HE3.o];rfl,HB1.o⟩
 have HE2:=Hd (HE.o.trans (jb h0));have b0:(be != 0)=true:=by simpa using h0
 clear HE h0;go_wp2;go_ret;exact ⟨by rw[HE2.o];rfl,HB1.o⟩
end Go.Proofs.YtamcgggmfghljaaGreatDoor
