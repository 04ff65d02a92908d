/- walk -/
import Derived.Test.YtamcgggmfghljaaGreatDoorE16
set_option maxRecDepth 100000
set_option maxHeartbeats 8000000
open Go.Proofs.Tryz
namespace Go.Proofs.YtamcgggmfghljaaGreatDoor
open Go.RowKit
variable {e:Int} {p:Nat} {st:PSt} {ov:Value} {W:World}
theorem zjn (r:Rd):oneR r=(decide (zaj (numR r).1=1),(numR r).2):=rfl
theorem ze9 (r:Rd):(zbz r).2.1.length<=r.1.length:=jx (zac _) (zac r)
theorem zcq (r:Rd):(zbr r).2.1.length<=r.1.length:=jx (zac _) (jx (zac _) (jx (zac _) (zac r)))
theorem zhf (r:Rd):(zd5 r).2.1.length<=r.1.length:=jx (zac _) (jx (zac _) (zac r))
theorem zja (r:Rd):(zdu r).2.1.length<=r.1.length:=by
 have h1:=zld (intR r).1 (intR r).2;have h2:(intR r).2.1.length<=r.1.length:=zac r;unfold zdu;exact jx h1 h2
theorem zpz (r:Rd):entR r=(⟨(zbz r).1,(zdu (zbz r).2).1⟩,(zdu (zbz r).2).2):=by simp only[entR]
theorem rc_ent (p c:Nat) (t:TypeId) (r:Rd) (W:World) (hc:Blk W c t #[.pointer (some (p,0))]) (hcp:c≠p) (h:RdAt W p r) (hl:r.1.length<=1000000):
 Calls prog 59 (aP c) W λu W'=>u=.returned (.agg (cEnt (entR r).1).toArray)/\RdTo p W W' (entR r).2:=by
 have hlt:=h.lt;have hlc:=hc.lt;have hne:W.heap.size≠p:=by omega
 have K0:=Hd ((je W 58 #[.int .i64 0,.int .i64 0,str []]).drew);have T0:=Hd (((RdTo.refl h).alloc (.cells #[.int .i64 0,.int .i64 0,str []] 58)).drew);have B0:=Hd ((hc.alloc (.cells #[.int .i64 0,.int .i64 0,str []] 58)).drew);have hr0:=Hd hl;clear h hl hc;go_enter func59,ntmps59;go_upto_region 1 with (fail)
 refine wp_region_noPanic ?_;refine zaw (λW'=>Blk W' c t #[.pointer (some ⟨p,0,none⟩)]) 5 (by kernel_rfl) ?_;have hHeld:(λW'=>Blk W' c t #[.pointer (some (p,0))]) _:=B0.o;refine tV 0 (.pointer (some ⟨p,0,none⟩)) rfl hHeld (Or.inl ⟨by rfl,by intro W hW;have hc:W.cell? ⟨c,0,none⟩=some (.pointer (some ⟨p,0,none⟩)):=hW.cell 0;go_simp⟩) ?_
 try go_frame
 refine tV 2 (.pointer (some ⟨p,0,none⟩)) rfl hHeld (Or.inl ⟨by rfl,by intro W hW;have hc:W.cell? ⟨c,0,none⟩=some (.pointer (some ⟨p,0,none⟩)):=hW.cell 0;go_simp⟩) ?_
 try go_frame
 refine tS 1 rfl λK hK=>?_;obtain ⟨q1,hq⟩:=jN (zbz r);have hC:=zqo p r _ T0.o.blk hr0.o;have hL:=ze9 r;rw[hq] at hC hL;have HQ1:=Hd hq;clear hq;go_simp;go_at_call 60;refine hC.mono ?_;rintro e W1 ⟨rfl,t1⟩;have K1:=Hd (t1.keep K0.o hne);have B1:=Hd (t1.keep B0.o hcp);have T1:=Hd (T0.o.trans t1);have hr1:=Hd (jx hL hr0.o);clear t1 hC hL;refine hK.out _ _ (λ_=>B1.o) ?_;have hHeld:(λW'=>Blk W' c t #[.pointer (some (p,0))]) _:=B1.o;clear hK K
 try go_frame
 refine tS 3 rfl λK hK=>?_;obtain ⟨q2,hq⟩:=jN (zdu q1.2);have hC:=zvg p q1.2 _ T1.o.blk hr1.o;have hL:=zja q1.2;rw[hq] at hC hL;have HQ2:=Hd hq;clear hq;go_simp;go_at_call 61;refine hC.mono ?_;rintro e W2 ⟨rfl,t2⟩;have K2:=Hd (t2.keep K1.o hne);have B2:=Hd (t2.keep B1.o hcp);have T2:=Hd (T1.o.trans t2);clear t2 hC hL;refine hK.out _ _ (λ_=>B2.o) ?_;have hHeld:(λW'=>Blk W' c t #[.pointer (some (p,0))]) _:=B2.o;clear hK K
 try go_frame
 refine tU 4 (.agg #[.int .i64 q1.1.col,.int .i64 q1.1.row,str q2.1]) (λ_=>hHeld) ?_
 try go_frame
 have c0:=K2.o.cell 0;have f0:W2.frozen? (W,0)=false:=K2.o.frozen 0;have c1:=K2.o.cell 1;have f1:W2.frozen? (W,1)=false:=K2.o.frozen 1;have c2:=K2.o.cell 2;have f2:W2.frozen? (W,2)=false:=K2.o.frozen 2;refine tS 5 rfl λK hK=>?_;go_simp;refine hK.out _ _ (λh=>absurd h (by decide)) ?_;clear hK K
 try go_frame
 refine zax (by kernel_rfl) ?_;refine NoPanic.normal ?_;go_wp2;have KF:=Hd (((K2.o.set_ 0 (.int .i64 q1.1.col)).set_ 1 (.int .i64 q1.1.row)).set_ 2 (str q2.1));have TF:=Hd (((T2.o.set jy hne.symm 0 (.int .i64 q1.1.col)).set jy hne.symm 1 (.int .i64 q1.1.row)).set jy hne.symm 2 (str q2.1));obtain ⟨d0,d1,d2⟩:=KF.o.c3 0 1 2;refine jO results59 (v:=.agg #[.int .i64 q1.1.col,.int .i64 q1.1.row,str q2.1]) ?_ (by simp (maxDischargeDepth:=9) [jQ,go_sem,d0,d1,d2]);have TG:=TF.o;clear TF KF;have HE:=zpz r;rw[HQ1.o,HQ2.o] at HE;rw[HE];refine ⟨by simp only[cEnt],?_⟩
 try simp only[str] at TG
 try simp only[]
 try dsimp only
 exact TG
theorem zuv (r:Rd):rulR r=(⟨(zbr r).1,(zd5 (zbr r).2).1⟩,(zd5 (zbr r).2).2):=by simp only[rulR]
theorem rc_rul (p c:Nat) (t:TypeId) (r:Rd) (W:World) (hc:Blk W c t #[.pointer (some (p,0))]) (hcp:c≠p) (h:RdAt W p r) (hl:r.1.length<=1000000):
 Calls prog 63 (aP c) W λu W'=>u=.returned (.agg (cRul (rulR r).1).toArray)/\RdTo p W W' (rulR r).2:=by
 have hlt:=h.lt;have hlc:=hc.lt;have hne:W.heap.size≠p:=by omega
 have K0:=Hd ((je W 79 #[.int .i64 0,.int .i64 0,.int .i64 0,.int .i64 0,.int .u64 0,.int .u64 0,.int .u64 0]).drew);have T0:=Hd (((RdTo.refl h).alloc (.cells #[.int .i64 0,.int .i64 0,.int .i64 0,.int .i64 0,.int .u64 0,.int .u64 0,.int .u64 0] 79)).drew);have B0:=Hd ((hc.alloc (.cells #[.int .i64 0,.int .i64 0,.int .i64 0,.int .i64 0,.int .u64 0,.int .u64 0,.int .u64 0] 79)).drew);have hr0:=Hd hl;clear h hl hc;go_enter func63,ntmps63;go_upto_region 1 with (fail)
 refine wp_region_noPanic ?_;refine zaw (λW'=>Blk W' c t #[.pointer (some ⟨p,0,none⟩)]) 5 (by kernel_rfl) ?_;have hHeld:(λW'=>Blk W' c t #[.pointer (some (p,0))]) _:=B0.o;refine tV 0 (.pointer (some ⟨p,0,none⟩)) rfl hHeld (Or.inl ⟨by rfl,by intro W hW;have hc:W.cell? ⟨c,0,none⟩=some (.pointer (some ⟨p,0,none⟩)):=hW.cell 0;go_simp⟩) ?_
 try go_frame
 refine tV 2 (.pointer (some ⟨p,0,none⟩)) rfl hHeld (Or.inl ⟨by rfl,by intro W hW;have hc:W.cell? ⟨c,0,none⟩=some (.pointer (some ⟨p,0,none⟩)):=hW.cell 0;go_simp⟩) ?_
 try go_frame
 refine tS 1 rfl λK hK=>?_;obtain ⟨q1,hq⟩:=jN (zbr r);have hC:=ze8 p r _ T0.o.blk hr0.o;have hL:=zcq r;rw[hq] at hC hL;have HQ1:=Hd hq;clear hq;go_simp;go_at_call 64;refine hC.mono ?_;rintro e W1 ⟨rfl,t1⟩;have K1:=Hd (t1.keep K0.o hne);have B1:=Hd (t1.keep B0.o hcp);have T1:=Hd (T0.o.trans t1);have hr1:=Hd (jx hL hr0.o);clear t1 hC hL;refine hK.out _ _ (λ_=>B1.o) ?_;have hHeld:(λW'=>Blk W' c t #[.pointer (some (p,0))]) _:=B1.o;clear hK K
 try go_frame
 refine tS 3 rfl λK hK=>?_;obtain ⟨q2,hq⟩:=jN (zd5 q1.2);have hC:=zvh p q1.2 _ T1.o.blk hr1.o;have hL:=zhf q1.2;rw[hq] at hC hL;have HQ2:=Hd hq;clear hq;go_simp;go_at_call 65;refine hC.mono ?_;rintro e W2 ⟨rfl,t2⟩;have K2:=Hd (t2.keep K1.o hne);have B2:=Hd (t2.keep B1.o hcp);have T2:=Hd (T1.o.trans t2);clear t2 hC hL;refine hK.out _ _ (λ_=>B2.o) ?_;have hHeld:(λW'=>Blk W' c t #[.pointer (some (p,0))]) _:=B2.o;clear hK K
 try go_frame
 refine tU 4 (.agg #[.int .i64 q1.1.c1,.int .i64 q1.1.r1,.int .i64 q1.1.c2,.int .i64 q1.1.r2,.int .u64 q2.1.rd,.int .u64 q2.1.wr,.int .u64 q2.1.ow]) (λ_=>hHeld) ?_
 try go_frame
 have c0:=K2.o.cell 0;have f0:W2.frozen? (W,0)=false:=K2.o.frozen 0;have c1:=K2.o.cell 1;have f1:W2.frozen? (W,1)=false:=K2.o.frozen 1;have c2:=K2.o.cell 2;have f2:W2.frozen? (W,2)=false:=K2.o.frozen 2;have c3:=K2.o.cell 3;have f3:W2.frozen? (W,3)=false:=K2.o.frozen 3;have c4:=K2.o.cell 4;have f4:W2.frozen? (W,4)=false:=K2.o.frozen 4;have c5:=K2.o.cell 5;have f5:W2.frozen? (W,5)=false:=K2.o.frozen 5;have c6:=K2.o.cell 6;have f6:W2.frozen? (W,6)=false:=K2.o.frozen 6;refine tS 5 rfl λK hK=>?_;go_simp;refine hK.out _ _ (λh=>absurd h (by decide)) ?_;clear hK K
 try go_frame
 refine zax (by kernel_rfl) ?_;refine NoPanic.normal ?_;go_wp2;have KF:=Hd (((((((K2.o.set_ 0 (.int .i64 q1.1.c1)).set_ 1 (.int .i64 q1.1.r1)).set_ 2 (.int .i64 q1.1.c2)).set_ 3 (.int .i64 q1.1.r2)).set_ 4 (.int .u64 q2.1.rd)).set_ 5 (.int .u64 q2.1.wr)).set_ 6 (.int .u64 q2.1.ow));have TF:=Hd (((((((T2.o.set jy hne.symm 0 (.int .i64 q1.1.c1)).set jy hne.symm 1 (.int .i64 q1.1.r1)).set jy hne.symm 2 (.int .i64 q1.1.c2)).set jy hne.symm 3 (.int .i64 q1.1.r2)).set jy hne.symm 4 (.int .u64 q2.1.rd)).set jy hne.symm 5 (.int .u64 q2.1.wr)).set jy hne.symm 6 (.int .u64 q2.1.ow));obtain ⟨d0,d1,d2,d3⟩:=KF.o.c4 0 1 2 3;obtain ⟨d4,d5,d6⟩:=KF.o.c3 4 5 6;refine jO results63 (v:=.agg #[.int .i64 q1.1.c1,.int .i64 q1.1.r1,.int .i64 q1.1.c2,.int .i64 q1.1.r2,.int .u64 q2.1.rd,.int .u64 q2.1.wr,.int .u64 q2.1.ow]) ?_ (by simp (maxDischargeDepth:=9) [jQ,go_sem,d0,d1,d2,d3,d4,d5,d6]);have TG:=TF.o;clear TF KF;have HE:=zuv r;rw[HQ1.o,HQ2.o] at HE;rw[HE];refine ⟨by simp only[cRul],?_⟩
 try simp only[str] at TG
 try simp only[]
 try dsimp only
 exact TG
theorem zwt (r:Rd):grtR r=(⟨(zbr r).1,((numR (zbr r).2).1 % 256:Nat),((numR (numR (zbr r).2).2).1:Nat),(zaj (numR (numR (numR (zbr r).2).2).2).1),decide ((zaj (numR (numR (numR (numR (zbr r).2).2).2).2).1)=1)⟩,(numR (numR (numR (numR (zbr r).2).2).2).2).2):=by simp only[grtR,zjn,u8R,u64R,intR]
theorem rc_grt (p c:Nat) (t:TypeId) (r:Rd) (W:World) (hc:Blk W c t #[.pointer (some (p,0))]) (hcp:c≠p) (h:RdAt W p r) (hl:r.1.length<=1000000):
 Calls prog 67 (aP c) W λu W'=>u=.returned (.agg (cGrt (grtR r).1).toArray)/\RdTo p W W' (grtR r).2:=by
 have hlt:=h.lt;have hlc:=hc.lt;have hne:W.heap.size≠p:=by omega
 have K0:=Hd ((je W 85 #[.int .i64 0,.int .i64 0,.int .i64 0,.int .i64 0,.int .u8 0,.int .u64 0,.int .i64 0,.bool false]).drew);have T0:=Hd (((RdTo.refl h).alloc (.cells #[.int .i64 0,.int .i64 0,.int .i64 0,.int .i64 0,.int .u8 0,.int .u64 0,.int .i64 0,.bool false] 85)).drew);have B0:=Hd ((hc.alloc (.cells #[.int .i64 0,.int .i64 0,.int .i64 0,.int .i64 0,.int .u8 0,.int .u64 0,.int .i64 0,.bool false] 85)).drew);have hr0:=Hd hl;clear h hl hc;go_enter func67,ntmps67;go_upto_region 1 with (fail)
 refine wp_region_noPanic ?_;refine zaw (λW'=>Blk W' c t #[.pointer (some ⟨p,0,none⟩)]) 12 (by kernel_rfl) ?_;have hHeld:(λW'=>Blk W' c t #[.pointer (some (p,0))]) _:=B0.o;refine tV 0 (.pointer (some ⟨p,0,none⟩)) rfl hHeld (Or.inl ⟨by rfl,by intro W hW;have hc:W.cell? ⟨c,0,none⟩=some (.pointer (some ⟨p,0,none⟩)):=hW.cell 0;go_simp⟩) ?_
 try go_frame
 refine tV 2 (.pointer (some ⟨p,0,none⟩)) rfl hHeld (Or.inl ⟨by rfl,by intro W hW;have hc:W.cell? ⟨c,0,none⟩=some (.pointer (some ⟨p,0,none⟩)):=hW.cell 0;go_simp⟩) ?_
 try go_frame
 refine tV 4 (.pointer (some ⟨p,0,none⟩)) rfl hHeld (Or.inl ⟨by rfl,by intro W hW;have hc:W.cell? ⟨c,0,none⟩=some (.pointer (some ⟨p,0,none⟩)):=hW.cell 0;go_simp⟩) ?_
 try go_frame
 refine tV 6 (.pointer (some ⟨p,0,none⟩)) rfl hHeld (Or.inl ⟨by rfl,by intro W hW;have hc:W.cell? ⟨c,0,none⟩=some (.pointer (some ⟨p,0,none⟩)):=hW.cell 0;go_simp⟩) ?_
 try go_frame
 refine tV 8 (.pointer (some ⟨p,0,none⟩)) rfl hHeld (Or.inl ⟨by rfl,by intro W hW;have hc:W.cell? ⟨c,0,none⟩=some (.pointer (some ⟨p,0,none⟩)):=hW.cell 0;go_simp⟩) ?_
 try go_frame
 refine tS 1 rfl λK hK=>?_;obtain ⟨q1,hq⟩:=jN (zbr r);have hC:=ze8 p r _ T0.o.blk hr0.o;have hL:=zcq r;rw[hq] at hC hL;have HQ1:=Hd hq;clear hq;go_simp;go_at_call 64;refine hC.mono ?_;rintro e W1 ⟨rfl,t1⟩;have K1:=Hd (t1.keep K0.o hne);have B1:=Hd (t1.keep B0.o hcp);have T1:=Hd (T0.o.trans t1);have hr1:=Hd (jx hL hr0.o);clear t1 hC hL;refine hK.out _ _ (λ_=>B1.o) ?_;have hHeld:(λW'=>Blk W' c t #[.pointer (some (p,0))]) _:=B1.o;clear hK K
 try go_frame
 refine tS 3 rfl λK hK=>?_;obtain ⟨q2,hq⟩:=jN (numR q1.2);have hC:=zvf p q1.2 _ T1.o.blk hr1.o;have hL:=zac q1.2;rw[hq] at hC hL;have HQ2:=Hd hq;clear hq;go_simp;go_at_call 68;refine hC.mono ?_;rintro e W2 ⟨rfl,t2⟩;have K2:=Hd (t2.keep K1.o hne);have B2:=Hd (t2.keep B1.o hcp);have T2:=Hd (T1.o.trans t2);have hr2:=Hd (jx hL hr1.o);clear t2 hC hL;generalize hx2:((q2.1 % 256:Nat):Int)=x2;have HX2:=Hd hx2;clear hx2;refine hK.out _ _ (λ_=>B2.o) ?_;have hHeld:(λW'=>Blk W' c t #[.pointer (some (p,0))]) _:=B2.o;clear hK K
 try go_frame
 refine tS 5 rfl λK hK=>?_;obtain ⟨q3,hq⟩:=jN (numR q2.2);have hC:=zjh p q2.2 _ T2.o.blk hr2.o;have hL:=zac q2.2;rw[hq] at hC hL;have HQ3:=Hd hq;clear hq;go_simp;go_at_call 69;refine hC.mono ?_;rintro e W3 ⟨rfl,t3⟩;have K3:=Hd (t3.keep K2.o hne);have B3:=Hd (t3.keep B2.o hcp);have T3:=Hd (T2.o.trans t3);have hr3:=Hd (jx hL hr2.o);clear t3 hC hL;generalize hx3:((q3.1:Nat):Int)=x3;have HX3:=Hd hx3;clear hx3;refine hK.out _ _ (λ_=>B3.o) ?_;have hHeld:(λW'=>Blk W' c t #[.pointer (some (p,0))]) _:=B3.o;clear hK K
 try go_frame
 refine tS 7 rfl λK hK=>?_;obtain ⟨q4,hq⟩:=jN (numR q3.2);have hC:=zb3 p q3.2 _ T3.o.blk hr3.o;have hL:=zac q3.2;rw[hq] at hC hL;have HQ4:=Hd hq;clear hq;go_simp;go_at_call 57;refine hC.mono ?_;rintro e W4 ⟨rfl,t4⟩;have K4:=Hd (t4.keep K3.o hne);have B4:=Hd (t4.keep B3.o hcp);have T4:=Hd (T3.o.trans t4);have hr4:=Hd (jx hL hr3.o);clear t4 hC hL;generalize hx4:((zaj q4.1):Int)=x4;have HX4:=Hd hx4;clear hx4;refine hK.out _ _ (λ_=>B4.o) ?_;have hHeld:(λW'=>Blk W' c t #[.pointer (some (p,0))]) _:=B4.o;clear hK K
 try go_frame
 refine tS 9 rfl λK hK=>?_;obtain ⟨q5,hq⟩:=jN (numR q4.2);have hC:=zb3 p q4.2 _ T4.o.blk hr4.o;have hL:=zac q4.2;rw[hq] at hC hL;have HQ5:=Hd hq;clear hq;go_simp;go_at_call 57;refine hC.mono ?_;rintro e W5 ⟨rfl,t5⟩;have K5:=Hd (t5.keep K4.o hne);have B5:=Hd (t5.keep B4.o hcp);have T5:=Hd (T4.o.trans t5);clear t5 hC hL;generalize hx5:((zaj q5.1):Int)=x5;have HX5:=Hd hx5;clear hx5;refine hK.out _ _ (λ_=>B5.o) ?_;have hHeld:(λW'=>Blk W' c t #[.pointer (some (p,0))]) _:=B5.o;clear hK K
 try go_frame
 obtain ⟨b5,hb5⟩:=jN (decide (x5=1));have hb5':(x5==1)=b5:=hb5;refine tU 10 (.bool b5) (λ_=>hHeld) ?_
 try go_frame
 refine tU 11 (.agg #[.int .i64 q1.1.c1,.int .i64 q1.1.r1,.int .i64 q1.1.c2,.int .i64 q1.1.r2,.int .u8 x2,.int .u64 x3,.int .i64 x4,.bool b5]) (λ_=>hHeld) ?_
 try go_frame
 have c0:=K5.o.cell 0;have f0:W5.frozen? (W,0)=false:=K5.o.frozen 0;have c1:=K5.o.cell 1;have f1:W5.frozen? (W,1)=false:=K5.o.frozen 1;have c2:=K5.o.cell 2;have f2:W5.frozen? (W,2)=false:=K5.o.frozen 2;have c3:=K5.o.cell 3;have f3:W5.frozen? (W,3)=false:=K5.o.frozen 3;have c4:=K5.o.cell 4;have f4:W5.frozen? (W,4)=false:=K5.o.frozen 4;have c5:=K5.o.cell 5;have f5:W5.frozen? (W,5)=false:=K5.o.frozen 5;have c6:=K5.o.cell 6;have f6:W5.frozen? (W,6)=false:=K5.o.frozen 6;have c7:=K5.o.cell 7;have f7:W5.frozen? (W,7)=false:=K5.o.frozen 7;refine tS 12 rfl λK hK=>?_;go_simp;refine hK.out _ _ (λh=>absurd h (by decide)) ?_;clear hK K
 try go_frame
 refine zax (by kernel_rfl) ?_;refine NoPanic.normal ?_;go_wp2;have KF:=Hd ((((((((K5.o.set_ 0 (.int .i64 q1.1.c1)).set_ 1 (.int .i64 q1.1.r1)).set_ 2 (.int .i64 q1.1.c2)).set_ 3 (.int .i64 q1.1.r2)).set_ 4 (.int .u8 x2)).set_ 5 (.int .u64 x3)).set_ 6 (.int .i64 x4)).set_ 7 (.bool b5));have TF:=Hd ((((((((T5.o.set jy hne.symm 0 (.int .i64 q1.1.c1)).set jy hne.symm 1 (.int .i64 q1.1.r1)).set jy hne.symm 2 (.int .i64 q1.1.c2)).set jy hne.symm 3 (.int .i64 q1.1.r2)).set jy hne.symm 4 (.int .u8 x2)).set jy hne.symm 5 (.int .u64 x3)).set jy hne.symm 6 (.int .i64 x4)).set jy hne.symm 7 (.bool b5));obtain ⟨d0,d1,d2,d3,d4,d5⟩:=KF.o.c6 0 1 2 3 4 5;obtain ⟨d6,d7⟩:=KF.o.c2 6 7;refine jO results67 (v:=.agg #[.int .i64 q1.1.c1,.int .i64 q1.1.r1,.int .i64 q1.1.c2,.int .i64 q1.1.r2,.int .u8 x2,.int .u64 x3,.int .i64 x4,.bool b5]) ?_ (by simp (maxDischargeDepth:=9) [jQ,go_sem,d0,d1,d2,d3,d4,d5,d6,d7]);have TG:=TF.o;clear TF KF;have HE:=zwt r;rw[HQ1.o,HQ2.o,HX2.o,HQ3.o,HX3.o,HQ4.o,HX4.o,HQ5.o,HX5.o,hb5] at HE;rw[HE];refine ⟨by simp only[cGrt],?_⟩
 try simp only[str] at TG
 try simp only[]
 try dsimp only
 exact TG
theorem zw3 (r:Rd):evtR r=(⟨(zaj (numR r).1),(zaj (numR (numR r).2).1),((numR (numR (numR r).2).2).1 % 256:Nat),(zbr (numR (numR (numR r).2).2).2).1,decide ((zaj (numR (zbr (numR (numR (numR r).2).2).2).2).1)=1),((numR (numR (zbr (numR (numR (numR r).2).2).2).2).2).1:Nat)⟩,(numR (numR (zbr (numR (numR (numR r).2).2).2).2).2).2):=by simp only[evtR,zjn,u8R,u64R,intR]
theorem rc_evt (p c:Nat) (t:TypeId) (r:Rd) (W:World) (hc:Blk W c t #[.pointer (some (p,0))]) (hcp:c≠p) (h:RdAt W p r) (hl:r.1.length<=1000000):
 Calls prog 71 (aP c) W λu W'=>u=.returned (.agg (cEvt (evtR r).1).toArray)/\RdTo p W W' (evtR r).2:=by
 have hlt:=h.lt;have hlc:=hc.lt;have hne:W.heap.size≠p:=by omega
 have K0:=Hd ((je W 110 #[.int .i64 0,.int .i64 0,.int .u8 0,.int .i64 0,.int .i64 0,.int .i64 0,.int .i64 0,.bool false,.int .u64 0]).drew);have T0:=Hd (((RdTo.refl h).alloc (.cells #[.int .i64 0,.int .i64 0,.int .u8 0,.int .i64 0,.int .i64 0,.int .i64 0,.int .i64 0,.bool false,.int .u64 0] 110)).drew);have B0:=Hd ((hc.alloc (.cells #[.int .i64 0,.int .i64 0,.int .u8 0,.int .i64 0,.int .i64 0,.int .i64 0,.int .i64 0,.bool false,.int .u64 0] 110)).drew);have hr0:=Hd hl;clear h hl hc;go_enter func71,ntmps71;go_upto_region 1 with (fail)
 refine wp_region_noPanic ?_;refine zaw (λW'=>Blk W' c t #[.pointer (some ⟨p,0,none⟩)]) 14 (by kernel_rfl) ?_;have hHeld:(λW'=>Blk W' c t #[.pointer (some (p,0))]) _:=B0.o;refine tV 0 (.pointer (some ⟨p,0,none⟩)) rfl hHeld (Or.inl ⟨by rfl,by intro W hW;have hc:W.cell? ⟨c,0,none⟩=some (.pointer (some ⟨p,0,none⟩)):=hW.cell 0;go_simp⟩) ?_
 try go_frame
 refine tV 2 (.pointer (some ⟨p,0,none⟩)) rfl hHeld (Or.inl ⟨by rfl,by intro W hW;have hc:W.cell? ⟨c,0,none⟩=some (.pointer (some ⟨p,0,none⟩)):=hW.cell 0;go_simp⟩) ?_
 try go_frame
 refine tV 4 (.pointer (some ⟨p,0,none⟩)) rfl hHeld (Or.inl ⟨by rfl,by intro W hW;have hc:W.cell? ⟨c,0,none⟩=some (.pointer (some ⟨p,0,none⟩)):=hW.cell 0;go_simp⟩) ?_
 try go_frame
 refine tV 6 (.pointer (some ⟨p,0,none⟩)) rfl hHeld (Or.inl ⟨by rfl,by intro W hW;have hc:W.cell? ⟨c,0,none⟩=some (.pointer (some ⟨p,0,none⟩)):=hW.cell 0;go_simp⟩) ?_
 try go_frame
 refine tV 8 (.pointer (some ⟨p,0,none⟩)) rfl hHeld (Or.inl ⟨by rfl,by intro W hW;have hc:W.cell? ⟨c,0,none⟩=some (.pointer (some ⟨p,0,none⟩)):=hW.cell 0;go_simp⟩) ?_
 try go_frame
 refine tV 11 (.pointer (some ⟨p,0,none⟩)) rfl hHeld (Or.inl ⟨by rfl,by intro W hW;have hc:W.cell? ⟨c,0,none⟩=some (.pointer (some ⟨p,0,none⟩)):=hW.cell 0;go_simp⟩) ?_
 try go_frame
 refine tS 1 rfl λK hK=>?_;obtain ⟨q1,hq⟩:=jN (numR r);have hC:=zb3 p r _ T0.o.blk hr0.o;have hL:=zac r;rw[hq] at hC hL;have HQ1:=Hd hq;clear hq;go_simp;go_at_call 57;refine hC.mono ?_;rintro e W1 ⟨rfl,t1⟩;have K1:=Hd (t1.keep K0.o hne);have B1:=Hd (t1.keep B0.o hcp);have T1:=Hd (T0.o.trans t1);have hr1:=Hd (jx hL hr0.o);clear t1 hC hL;generalize hx1:((zaj q1.1):Int)=x1;have HX1:=Hd hx1;clear hx1;refine hK.out _ _ (λ_=>B1.o) ?_;have hHeld:(λW'=>Blk W' c t #[.pointer (some (p,0))]) _:=B1.o;clear hK K
 try go_frame
 refine tS 3 rfl λK hK=>?_;obtain ⟨q2,hq⟩:=jN (numR q1.2);have hC:=zb3 p q1.2 _ T1.o.blk hr1.o;have hL:=zac q1.2;rw[hq] at hC hL;have HQ2:=Hd hq;clear hq;go_simp;go_at_call 57;refine hC.mono ?_;rintro e W2 ⟨rfl,t2⟩;have K2:=Hd (t2.keep K1.o hne);have B2:=Hd (t2.keep B1.o hcp);have T2:=Hd (T1.o.trans t2);have hr2:=Hd (jx hL hr1.o);clear t2 hC hL;generalize hx2:((zaj q2.1):Int)=x2;have HX2:=Hd hx2;clear hx2;refine hK.out _ _ (λ_=>B2.o) ?_;have hHeld:(λW'=>Blk W' c t #[.pointer (some (p,0))]) _:=B2.o;clear hK K
 try go_frame
 refine tS 5 rfl λK hK=>?_;obtain ⟨q3,hq⟩:=jN (numR q2.2);have hC:=zvf p q2.2 _ T2.o.blk hr2.o;have hL:=zac q2.2;rw[hq] at hC hL;have HQ3:=Hd hq;clear hq;go_simp;go_at_call 68;refine hC.mono ?_;rintro e W3 ⟨rfl,t3⟩;have K3:=Hd (t3.keep K2.o hne);have B3:=Hd (t3.keep B2.o hcp);have T3:=Hd (T2.o.trans t3);have hr3:=Hd (jx hL hr2.o);clear t3 hC hL;generalize hx3:((q3.1 % 256:Nat):Int)=x3;have HX3:=Hd hx3;clear hx3;refine hK.out _ _ (λ_=>B3.o) ?_;have hHeld:(λW'=>Blk W' c t #[.pointer (some (p,0))]) _:=B3.o;clear hK K
 try go_frame
 refine tS 7 rfl λK hK=>?_;obtain ⟨q4,hq⟩:=jN (zbr q3.2);have hC:=ze8 p q3.2 _ T3.o.blk hr3.o;have hL:=zcq q3.2;rw[hq] at hC hL;have HQ4:=Hd hq;clear hq;go_simp;go_at_call 64;refine hC.mono ?_;rintro e W4 ⟨rfl,t4⟩;have K4:=Hd (t4.keep K3.o hne);have B4:=Hd (t4.keep B3.o hcp);have T4:=Hd (T3.o.trans t4);have hr4:=Hd (jx hL hr3.o);clear t4 hC hL;refine hK.out _ _ (λ_=>B4.o) ?_;have hHeld:(λW'=>Blk W' c t #[.pointer (some (p,0))]) _:=B4.o;clear hK K
 try go_frame
 refine tS 9 rfl λK hK=>?_;obtain ⟨q5,hq⟩:=jN (numR q4.2);have hC:=zb3 p q4.2 _ T4.o.blk hr4.o;have hL:=zac q4.2;rw[hq] at hC hL;have HQ5:=Hd hq;clear hq;go_simp;go_at_call 57;refine hC.mono ?_;rintro e W5 ⟨rfl,t5⟩;have K5:=Hd (t5.keep K4.o hne);have B5:=Hd (t5.keep B4.o hcp);have T5:=Hd (T4.o.trans t5);have hr5:=Hd (jx hL hr4.o);clear t5 hC hL;generalize hx5:((zaj q5.1):Int)=x5;have HX5:=Hd hx5;clear hx5;refine hK.out _ _ (λ_=>B5.o) ?_;have hHeld:(λW'=>Blk W' c t #[.pointer (some (p,0))]) _:=B5.o;clear hK K
 try go_frame
 obtain ⟨b5,hb5⟩:=jN (decide (x5=1));have hb5':(x5==1)=b5:=hb5;refine tU 10 (.bool b5) (λ_=>hHeld) ?_
 try go_frame
 refine tS 12 rfl λK hK=>?_;obtain ⟨q6,hq⟩:=jN (numR q5.2);have hC:=zjh p q5.2 _ T5.o.blk hr5.o;have hL:=zac q5.2;rw[hq] at hC hL;have HQ6:=Hd hq;clear hq;go_simp;go_at_call 69;refine hC.mono ?_;rintro e W6 ⟨rfl,t6⟩;have K6:=Hd (t6.keep K5.o hne);have B6:=Hd (t6.keep B5.o hcp);have T6:=Hd (T5.o.trans t6);clear t6 hC hL;generalize hx6:((q6.1:Nat):Int)=x6;have HX6:=Hd hx6;clear hx6;refine hK.out _ _ (λ_=>B6.o) ?_;have hHeld:(λW'=>Blk W' c t #[.pointer (some (p,0))]) _:=B6.o;clear hK K
 try go_frame
 refine tU 13 (.agg #[.int .i64 x1,.int .i64 x2,.int .u8 x3,.int .i64 q4.1.c1,.int .i64 q4.1.r1,.int .i64 q4.1.c2,.int .i64 q4.1.r2,.bool b5,.int .u64 x6]) (λ_=>hHeld) ?_
 try go_frame
 have c0:=K6.o.cell 0;have f0:W6.frozen? (W,0)=false:=K6.o.frozen 0;have c1:=K6.o.cell 1;have f1:W6.frozen? (W,1)=false:=K6.o.frozen 1;have c2:=K6.o.cell 2;have f2:W6.frozen? (W,2)=false:=K6.o.frozen 2;have c3:=K6.o.cell 3;have f3:W6.frozen? (W,3)=false:=K6.o.frozen 3;have c4:=K6.o.cell 4;have f4:W6.frozen? (W,4)=false:=K6.o.frozen 4;have c5:=K6.o.cell 5;have f5:W6.frozen? (W,5)=false:=K6.o.frozen 5;have c6:=K6.o.cell 6;have f6:W6.frozen? (W,6)=false:=K6.o.frozen 6;have c7:=K6.o.cell 7;have f7:W6.frozen? (W,7)=false:=K6.o.frozen 7;have c8:=K6.o.cell 8;have f8:W6.frozen? (W,8)=false:=K6.o.frozen 8;refine tS 14 rfl λK hK=>?_;go_simp;refine hK.out _ _ (λh=>absurd h (by decide)) ?_;clear hK K
 try go_frame
 refine zax (by kernel_rfl) ?_;refine NoPanic.normal ?_;go_wp2;have KF:=Hd (((((((((K6.o.set_ 0 (.int .i64 x1)).set_ 1 (.int .i64 x2)).set_ 2 (.int .u8 x3)).set_ 3 (.int .i64 q4.1.c1)).set_ 4 (.int .i64 q4.1.r1)).set_ 5 (.int .i64 q4.1.c2)).set_ 6 (.int .i64 q4.1.r2)).set_ 7 (.bool b5)).set_ 8 (.int .u64 x6));have TF:=Hd (((((((((T6.o.set jy hne.symm 0 (.int .i64 x1)).set jy hne.symm 1 (.int .i64 x2)).set jy hne.symm 2 (.int .u8 x3)).set jy hne.symm 3 (.int .i64 q4.1.c1)).set jy hne.symm 4 (.int .i64 q4.1.r1)).set jy hne.symm 5 (.int .i64 q4.1.c2)).set jy hne.symm 6 (.int .i64 q4.1.r2)).set jy hne.symm 7 (.bool b5)).set jy hne.symm 8 (.int .u64 x6));obtain ⟨d0,d1,d2,d3,d4,d5⟩:=KF.o.c6 0 1 2 3 4 5;obtain ⟨d6,d7,d8⟩:=KF.o.c3 6 7 8;refine jO results71 (v:=.agg #[.int .i64 x1,.int .i64 x2,.int .u8 x3,.int .i64 q4.1.c1,.int .i64 q4.1.r1,.int .i64 q4.1.c2,.int .i64 q4.1.r2,.bool b5,.int .u64 x6]) ?_ (by simp (maxDischargeDepth:=9) [jQ,go_sem,d0,d1,d2,d3,d4,d5,d6,d7,d8]);have TG:=TF.o;clear TF KF;have HE:=zw3 r;rw[HQ1.o,HX1.o,HQ2.o,HX2.o,HQ3.o,HX3.o,HQ4.o,HQ5.o,HX5.o,hb5,HQ6.o,HX6.o] at HE;rw[HE];refine ⟨by simp only[cEvt],?_⟩
 try simp only[str] at TG
 try simp only[]
 try dsimp only
 exact TG
theorem zu3 (r:Rd):rlsR r=(⟨(zaj (numR r).1),(zbz (numR r).2).1,(zaj (numR (zbz (numR r).2).2).1),((numR (numR (zbz (numR r).2).2).2).1 % 256:Nat),(zbr (numR (numR (zbz (numR r).2).2).2).2).1,(zaj (numR (zbr (numR (numR (zbz (numR r).2).2).2).2).2).1),((numR (numR (zbr (numR (numR (zbz (numR r).2).2).2).2).2).2).1:Nat)⟩,(numR (numR (zbr (numR (numR (zbz (numR r).2).2).2).2).2).2).2):=by simp only[rlsR,u8R,u64R,intR]
theorem rc_rls (p c:Nat) (t:TypeId) (r:Rd) (W:World) (hc:Blk W c t #[.pointer (some (p,0))]) (hcp:c≠p) (h:RdAt W p r) (hl:r.1.length<=1000000):
 Calls prog 73 (aP c) W λu W'=>u=.returned (.agg (cRls (rlsR r).1).toArray)/\RdTo p W W' (rlsR r).2:=by
 have hlt:=h.lt;have hlc:=hc.lt;have hne:W.heap.size≠p:=by omega
 have K0:=Hd ((je W 116 #[.int .i64 0,.int .i64 0,.int .i64 0,.int .i64 0,.int .u8 0,.int .i64 0,.int .i64 0,.int .i64 0,.int .i64 0,.int .i64 0,.int .u64 0]).drew);have T0:=Hd (((RdTo.refl h).alloc (.cells #[.int .i64 0,.int .i64 0,.int .i64 0,.int .i64 0,.int .u8 0,.int .i64 0,.int .i64 0,.int .i64 0,.int .i64 0,.int .i64 0,.int .u64 0] 116)).drew);have B0:=Hd ((hc.alloc (.cells #[.int .i64 0,.int .i64 0,.int .i64 0,.int .i64 0,.int .u8 0,.int .i64 0,.int .i64 0,.int .i64 0,.int .i64 0,.int .i64 0,.int .u64 0] 116)).drew);have hr0:=Hd hl;clear h hl hc;go_enter func73,ntmps73;go_upto_region 1 with (fail)
 refine wp_region_noPanic ?_;refine zaw (λW'=>Blk W' c t #[.pointer (some ⟨p,0,none⟩)]) 16 (by kernel_rfl) ?_;have hHeld:(λW'=>Blk W' c t #[.pointer (some (p,0))]) _:=B0.o;refine tV 0 (.pointer (some ⟨p,0,none⟩)) rfl hHeld (Or.inl ⟨by rfl,by intro W hW;have hc:W.cell? ⟨c,0,none⟩=some (.pointer (some ⟨p,0,none⟩)):=hW.cell 0;go_simp⟩) ?_
 try go_frame
 refine tV 2 (.pointer (some ⟨p,0,none⟩)) rfl hHeld (Or.inl ⟨by rfl,by intro W hW;have hc:W.cell? ⟨c,0,none⟩=some (.pointer (some ⟨p,0,none⟩)):=hW.cell 0;go_simp⟩) ?_
 try go_frame
 refine tV 4 (.pointer (some ⟨p,0,none⟩)) rfl hHeld (Or.inl ⟨by rfl,by intro W hW;have hc:W.cell? ⟨c,0,none⟩=some (.pointer (some ⟨p,0,none⟩)):=hW.cell 0;go_simp⟩) ?_
 try go_frame
 refine tV 7 (.pointer (some ⟨p,0,none⟩)) rfl hHeld (Or.inl ⟨by rfl,by intro W hW;have hc:W.cell? ⟨c,0,none⟩=some (.pointer (some ⟨p,0,none⟩)):=hW.cell 0;go_simp⟩) ?_
 try go_frame
 refine tV 9 (.pointer (some ⟨p,0,none⟩)) rfl hHeld (Or.inl ⟨by rfl,by intro W hW;have hc:W.cell? ⟨c,0,none⟩=some (.pointer (some ⟨p,0,none⟩)):=hW.cell 0;go_simp⟩) ?_
 try go_frame
 refine tV 11 (.pointer (some ⟨p,0,none⟩)) rfl hHeld (Or.inl ⟨by rfl,by intro W hW;have hc:W.cell? ⟨c,0,none⟩=some (.pointer (some ⟨p,0,none⟩)):=hW.cell 0;go_simp⟩) ?_
 try go_frame
 refine tV 13 (.pointer (some ⟨p,0,none⟩)) rfl hHeld (Or.inl ⟨by rfl,by intro W hW;have hc:W.cell? ⟨c,0,none⟩=some (.pointer (some ⟨p,0,none⟩)):=hW.cell 0;go_simp⟩) ?_
 try go_frame
 refine tS 1 rfl λK hK=>?_;obtain ⟨q1,hq⟩:=jN (numR r);have hC:=zb3 p r _ T0.o.blk hr0.o;have hL:=zac r;rw[hq] at hC hL;have HQ1:=Hd hq;clear hq;go_simp;go_at_call 57;refine hC.mono ?_;rintro e W1 ⟨rfl,t1⟩;have K1:=Hd (t1.keep K0.o hne);have B1:=Hd (t1.keep B0.o hcp);have T1:=Hd (T0.o.trans t1);have hr1:=Hd (jx hL hr0.o);clear t1 hC hL;generalize hx1:((zaj q1.1):Int)=x1;have HX1:=Hd hx1;clear hx1;refine hK.out _ _ (λ_=>B1.o) ?_;have hHeld:(λW'=>Blk W' c t #[.pointer (some (p,0))]) _:=B1.o;clear hK K
 try go_frame
 refine tS 3 rfl λK hK=>?_;obtain ⟨q2,hq⟩:=jN (zbz q1.2);have hC:=zqo p q1.2 _ T1.o.blk hr1.o;have hL:=ze9 q1.2;rw[hq] at hC hL;have HQ2:=Hd hq;clear hq;go_simp;go_at_call 60;refine hC.mono ?_;rintro e W2 ⟨rfl,t2⟩;have K2:=Hd (t2.keep K1.o hne);have B2:=Hd (t2.keep B1.o hcp);have T2:=Hd (T1.o.trans t2);have hr2:=Hd (jx hL hr1.o);clear t2 hC hL;refine hK.out _ _ (λ_=>B2.o) ?_;have hHeld:(λW'=>Blk W' c t #[.pointer (some (p,0))]) _:=B2.o;clear hK K
 try go_frame
 refine tS 5 rfl λK hK=>?_;obtain ⟨q3,hq⟩:=jN (numR q2.2);have hC:=zb3 p q2.2 _ T2.o.blk hr2.o;have hL:=zac q2.2;rw[hq] at hC hL;have HQ3:=Hd hq;clear hq;go_simp;go_at_call 57;refine hC.mono ?_;rintro e W3 ⟨rfl,t3⟩;have K3:=Hd (t3.keep K2.o hne);have B3:=Hd (t3.keep B2.o hcp);have T3:=Hd (T2.o.trans t3);have hr3:=Hd (jx hL hr2.o);clear t3 hC hL;generalize hx3:((zaj q3.1):Int)=x3;have HX3:=Hd hx3;clear hx3;refine hK.out _ _ (λ_=>B3.o) ?_;have hHeld:(λW'=>Blk W' c t #[.pointer (some (p,0))]) _:=B3.o;clear hK K
 try go_frame
 refine tU 6 (.agg #[.int .i64 q2.1.col,.int .i64 q2.1.row,.int .i64 x3]) (λ_=>hHeld) ?_
 try go_frame
 refine tS 8 rfl λK hK=>?_;obtain ⟨q4,hq⟩:=jN (numR q3.2);have hC:=zvf p q3.2 _ T3.o.blk hr3.o;have hL:=zac q3.2;rw[hq] at hC hL;have HQ4:=Hd hq;clear hq;go_simp;go_at_call 68;refine hC.mono ?_;rintro e W4 ⟨rfl,t4⟩;have K4:=Hd (t4.keep K3.o hne);have B4:=Hd (t4.keep B3.o hcp);have T4:=Hd (T3.o.trans t4);have hr4:=Hd (jx hL hr3.o);clear t4 hC hL;generalize hx4:((q4.1 % 256:Nat):Int)=x4;have HX4:=Hd hx4;clear hx4;refine hK.out _ _ (λ_=>B4.o) ?_;have hHeld:(λW'=>Blk W' c t #[.pointer (some (p,0))]) _:=B4.o;clear hK K
 try go_frame
 refine tS 10 rfl λK hK=>?_;obtain ⟨q5,hq⟩:=jN (zbr q4.2);have hC:=ze8 p q4.2 _ T4.o.blk hr4.o;have hL:=zcq q4.2;rw[hq] at hC hL;have HQ5:=Hd hq;clear hq;go_simp;go_at_call 64;refine hC.mono ?_;rintro e W5 ⟨rfl,t5⟩;have K5:=Hd (t5.keep K4.o hne);have B5:=Hd (t5.keep B4.o hcp);have T5:=Hd (T4.o.trans t5);have hr5:=Hd (jx hL hr4.o);clear t5 hC hL;refine hK.out _ _ (λ_=>B5.o) ?_;have hHeld:(λW'=>Blk W' c t #[.pointer (some (p,0))]) _:=B5.o;clear hK K
 try go_frame
 refine tS 12 rfl λK hK=>?_;obtain ⟨q6,hq⟩:=jN (numR q5.2);have hC:=zb3 p q5.2 _ T5.o.blk hr5.o;have hL:=zac q5.2;rw[hq] at hC hL;have HQ6:=Hd hq;clear hq;go_simp;go_at_call 57;refine hC.mono ?_;rintro e W6 ⟨rfl,t6⟩;have K6:=Hd (t6.keep K5.o hne);have B6:=Hd (t6.keep B5.o hcp);have T6:=Hd (T5.o.trans t6);have hr6:=Hd (jx hL hr5.o);clear t6 hC hL;generalize hx6:((zaj q6.1):Int)=x6;have HX6:=Hd hx6;clear hx6;refine hK.out _ _ (λ_=>B6.o) ?_;have hHeld:(λW'=>Blk W' c t #[.pointer (some (p,0))]) _:=B6.o;clear hK K
 try go_frame
 refine tS 14 rfl λK hK=>?_;obtain ⟨q7,hq⟩:=jN (numR q6.2);have hC:=zjh p q6.2 _ T6.o.blk hr6.o;have hL:=zac q6.2;rw[hq] at hC hL;have HQ7:=Hd hq;clear hq;go_simp;go_at_call 69;refine hC.mono ?_;rintro e W7 ⟨rfl,t7⟩;have K7:=Hd (t7.keep K6.o hne);have B7:=Hd (t7.keep B6.o hcp);have T7:=Hd (T6.o.trans t7);clear t7 hC hL;generalize hx7:((q7.1:Nat):Int)=x7;have HX7:=Hd hx7;clear hx7;refine hK.out _ _ (λ_=>B7.o) ?_;have hHeld:(λW'=>Blk W' c t #[.pointer (some (p,0))]) _:=B7.o;clear hK K
 try go_frame
 refine tU 15 (.agg #[.int .i64 x1,.int .i64 q2.1.col,.int .i64 q2.1.row,.int .i64 x3,.int .u8 x4,.int .i64 q5.1.c1,.int .i64 q5.1.r1,.int .i64 q5.1.c2,.int .i64 q5.1.r2,.int .i64 x6,.int .u64 x7]) (λ_=>hHeld) ?_
 try go_frame
 have c0:=K7.o.cell 0;have f0:W7.frozen? (W,0)=false:=K7.o.frozen 0;have c1:=K7.o.cell 1;have f1:W7.frozen? (W,1)=false:=K7.o.frozen 1;have c2:=K7.o.cell 2;have f2:W7.frozen? (W,2)=false:=K7.o.frozen 2;have c3:=K7.o.cell 3;have f3:W7.frozen? (W,3)=false:=K7.o.frozen 3;have c4:=K7.o.cell 4;have f4:W7.frozen? (W,4)=false:=K7.o.frozen 4;have c5:=K7.o.cell 5;have f5:W7.frozen? (W,5)=false:=K7.o.frozen 5;have c6:=K7.o.cell 6;have f6:W7.frozen? (W,6)=false:=K7.o.frozen 6;have c7:=K7.o.cell 7;have f7:W7.frozen? (W,7)=false:=K7.o.frozen 7;have c8:=K7.o.cell 8;have f8:W7.frozen? (W,8)=false:=K7.o.frozen 8;have c9:=K7.o.cell 9;have f9:W7.frozen? (W,9)=false:=K7.o.frozen 9;have c10:=K7.o.cell 10;have f10:W7.frozen? (W,10)=false:=K7.o.frozen 10;refine tS 16 rfl λK hK=>?_;go_simp;refine hK.out _ _ (λh=>absurd h (by decide)) ?_;clear hK K
 try go_frame
 refine zax (by kernel_rfl) ?_;refine NoPanic.normal ?_;go_wp2;have KF:=Hd (((((((((((K7.o.set_ 0 (.int .i64 x1)).set_ 1 (.int .i64 q2.1.col)).set_ 2 (.int .i64 q2.1.row)).set_ 3 (.int .i64 x3)).set_ 4 (.int .u8 x4)).set_ 5 (.int .i64 q5.1.c1)).set_ 6 (.int .i64 q5.1.r1)).set_ 7 (.int .i64 q5.1.c2)).set_ 8 (.int .i64 q5.1.r2)).set_ 9 (.int .i64 x6)).set_ 10 (.int .u64 x7));have TF:=Hd (((((((((((T7.o.set jy hne.symm 0 (.int .i64 x1)).set jy hne.symm 1 (.int .i64 q2.1.col)).set jy hne.symm 2 (.int .i64 q2.1.row)).set jy hne.symm 3 (.int .i64 x3)).set jy hne.symm 4 (.int .u8 x4)).set jy hne.symm 5 (.int .i64 q5.1.c1)).set jy hne.symm 6 (.int .i64 q5.1.r1)).set jy hne.symm 7 (.int .i64 q5.1.c2)).set jy hne.symm 8 (.int .i64 q5.1.r2)).set jy hne.symm 9 (.int .i64 x6)).set jy hne.symm 10 (.int .u64 x7));obtain ⟨d0,d1,d2,d3,d4,d5⟩:=KF.o.c6 0 1 2 3 4 5;obtain ⟨d6,d7,d8,d9,d10⟩:=KF.o.c5 6 7 8 9 10;refine jO results73 (v:=.agg #[.int .i64 x1,.int .i64 q2.1.col,.int .i64 q2.1.row,.int .i64 x3,.int .u8 x4,.int .i64 q5.1.c1,.int .i64 q5.1.r1,.int .i64 q5.1.c2,.int .i64 q5.1.r2,.int .i64 x6,.int .u64 x7]) ?_ (by simp (maxDischargeDepth:=9) [jQ,go_sem,d0,d1,d2,d3,d4,d5,d6,d7,d8,d9,d10]);have TG:=TF.o;clear TF KF;have HE:=zu3 r;rw[HQ1.o,HX1.o,HQ2.o,HQ3.o,HX3.o,HQ4.o,HX4.o,HQ5.o,HQ6.o,HX6.o,HQ7.o,HX7.o] at HE;rw[HE];refine ⟨by simp only[cRls],?_⟩
 try simp only[str] at TG
 try simp only[]
 try dsimp only
 exact TG
theorem znt (v:Value) (l:zaa) (c r:Int) (w:World) (h:Out w v l) (hl:l.length<=1000000000):
 Calls prog 88 #[v,.agg #[.int .i64 c,.int .i64 r]] w λe w'=>∃v',e=.returned v'/\Out w' v' (l++zb0 ⟨c,r⟩)/\OutTo w v w' v':=by
 have hv:v.ownBlock≠some w.heap.size:=λe=>by have:=h.lt _ e;omega
 have kk:Blk (w.alloc (.cells #[.int .i64 c,.int .i64 r] 56)).drew w.heap.size 56 #[.int .i64 c,.int .i64 r]:=(je _ _ _).drew;have TT:=((OutTo.refl w v).alloc (.cells #[.int .i64 c,.int .i64 r] 56)).drew;have oo:=(h.alloc (.cells #[.int .i64 c,.int .i64 r] 56)).drew;clear h;have n1:=zab c;have n2:=zab r;go_enter func88,ntmps88;go_wp2_with fail
 go_region_held3 (λW:World=>W.cell? ⟨w.heap.size,0,none⟩=some (.int .i64 c)/\W.cell? ⟨w.heap.size,1,none⟩=some (.int .i64 r))
  (first
   | exact ⟨kk.cell 0,kk.cell 1⟩)
  (first
   | (go_at_call 84;refine (zb6 _ _ _ _ oo (by first | omega | (simp;done) | (simp;omega))).mono ?_;rintro e w1 ⟨v1,rfl,oo,tt⟩;have hv':=tt.ne kk.lt hv;have kk:=kk.outTo tt hv;have hv:=hv';have TT:=TT.trans tt;clear tt hv'))
 have OO:=Hd oo;have TT:=Hd TT;go_wp2;go_ret;exact ⟨_,rfl,by simpa [zb0] using OO.o,TT.o⟩
theorem zqg (v:Value) (l:zaa) (a b c:Int) (w:World) (a0:0<=a) (a1:a<18446744073709551616) (b0:0<=b) (b1:b<18446744073709551616) (c0:0<=c) (c1:c<18446744073709551616) (h:Out w v l) (hl:l.length<=1000000000):
 Calls prog 91 #[v,.agg #[.int .u64 a,.int .u64 b,.int .u64 c]] w λe w'=>∃v',e=.returned v'/\Out w' v' (l++zce ⟨a,b,c⟩)/\OutTo w v w' v':=by
 have hv:v.ownBlock≠some w.heap.size:=λe=>by have:=h.lt _ e;omega
 have kk:Blk (w.alloc (.cells #[.int .u64 a,.int .u64 b,.int .u64 c] 46)).drew w.heap.size 46 #[.int .u64 a,.int .u64 b,.int .u64 c]:=(je _ _ _).drew;have TT:=((OutTo.refl w v).alloc (.cells #[.int .u64 a,.int .u64 b,.int .u64 c] 46)).drew;have oo:=(h.alloc (.cells #[.int .u64 a,.int .u64 b,.int .u64 c] 46)).drew;clear h;have n1:=zab a;have n2:=zab b;have n3:=zab c;go_enter func91,ntmps91;go_wp2_with fail
 go_region_held3 (λW:World=>W.cell? ⟨w.heap.size,0,none⟩=some (.int .u64 a)/\W.cell? ⟨w.heap.size,1,none⟩=some (.int .u64 b)/\W.cell? ⟨w.heap.size,2,none⟩=some (.int .u64 c))
  (first
   | exact ⟨kk.cell 0,kk.cell 1,kk.cell 2⟩)
  (first
   | (go_at_call 96;refine (zjo _ _ _ _ (by assumption) (by assumption) oo (by first | omega | (simp;done) | (simp;omega))).mono ?_;rintro e w1 ⟨v1,rfl,oo,tt⟩;have hv':=tt.ne kk.lt hv;have kk:=kk.outTo tt hv;have hv:=hv';have TT:=TT.trans tt;clear tt hv'))
 have OO:=Hd oo;have TT:=Hd TT;go_wp2;go_ret;exact ⟨_,rfl,by simpa [zce] using OO.o,TT.o⟩
theorem zeh (x:Nod) (w:World):(binOp .neq 297 (.agg (cNod x).toArray) (.agg (cNod x).toArray)).run prog w=.ok (.bool false) w:=by
 simp[go_sem,cNod]
def zcu (n:Nod):Prop:=∀w:World,Calls prog 308 #[.agg (cNod n).toArray] w λu w'=>u=.returned (.int .i64 0)/\Below w w w'
theorem ztv (v:Int) (h:0<=v):zcu { nod0 1 with vk:=1,vn:=v }:=by
 intro w;have hne:∀W:World,(binOp .neq 297 (.agg (aV 1 v)) (.agg (aV 1 v))).run prog W=.ok (.bool false) W:=λW=>zeh { nod0 1 with vk:=1,vn:=v } W;rw[show (cNod { nod0 1 with vk:=1,vn:=v }).toArray=#[.int .u8 1,.int .u8 1,.int .i64 v,str [],.int .i64 0,.int .i64 0,.int .i64 0,.int .i64 0,.int .i64 0,.int .u8 0,.int .i64 0] from rfl];go_enter func308,ntmps308;go_wp2_with fail;refine (z1j v _ h).mono ?_;rintro e w1 ⟨rfl,hb1⟩;have hz1:=hb1.size
 try simp at hz1
 have hB1:Below w w w1:=nxt hb1;obtain ⟨hc1_0,hl1_0,hm1_0,hn1_0,ho1_0,hf1_0⟩:=oldB (g:=w) hb1;obtain ⟨hc1_1,hl1_1,hm1_1,hn1_1,ho1_1,hf1_1⟩:=oldB (g:=w.heap.size+1) hb1;go_wp2;go_ret;exact ⟨rfl,by go_grown⟩
theorem zpt (x:zaa) (h:txtE x=0) (hl:x.length<=1000000):zcu { nod0 1 with vk:=3,vt:=x }:=by
 intro w;have hne:∀W:World,(binOp .neq 297 (.agg (aX x)) (.agg (aX x))).run prog W=.ok (.bool false) W:=λW=>zeh { nod0 1 with vk:=3,vt:=x } W;rw[show (cNod { nod0 1 with vk:=3,vt:=x }).toArray=#[.int .u8 1,.int .u8 3,.int .i64 0,str x,.int .i64 0,.int .i64 0,.int .i64 0,.int .i64 0,.int .i64 0,.int .u8 0,.int .i64 0] from rfl];go_enter func308,ntmps308;go_wp2_with fail;refine (zm1 x _ h hl).mono ?_;rintro e w1 ⟨rfl,hb1⟩;have hz1:=hb1.size
 try simp at hz1
 have hB1:Below w w w1:=nxt hb1;obtain ⟨hc1_0,hl1_0,hm1_0,hn1_0,ho1_0,hf1_0⟩:=oldB (g:=w) hb1;obtain ⟨hc1_1,hl1_1,hm1_1,hn1_1,ho1_1,hf1_1⟩:=oldB (g:=w.heap.size+1) hb1;go_wp2;go_ret;exact ⟨rfl,by go_grown⟩
theorem zpv (v:Int) (h:v=0\/v=1):zcu { nod0 1 with vk:=2,vn:=v }:=by
 intro w;have hne:∀W:World,(binOp .neq 297 (.agg (aV 2 v)) (.agg (aV 2 v))).run prog W=.ok (.bool false) W:=λW=>zeh { nod0 1 with vk:=2,vn:=v } W;rw[show (cNod { nod0 1 with vk:=2,vn:=v }).toArray=#[.int .u8 1,.int .u8 2,.int .i64 v,str [],.int .i64 0,.int .i64 0,.int .i64 0,.int .i64 0,.int .i64 0,.int .u8 0,.int .i64 0] from rfl];have H:=Hd h;clear h;go_enter func308,ntmps308;go_wp2_with fail;refine (zx4 v _ H.o).mono ?_;rintro e w1 ⟨rfl,hb1⟩;have hz1:=hb1.size
 try simp at hz1
 have hB1:Below w w w1:=nxt hb1;obtain ⟨hc1_0,hl1_0,hm1_0,hn1_0,ho1_0,hf1_0⟩:=oldB (g:=w) hb1;obtain ⟨hc1_1,hl1_1,hm1_1,hn1_1,ho1_1,hf1_1⟩:=oldB (g:=w.heap.size+1) hb1;go_wp2;go_ret;exact ⟨rfl,by go_grown⟩
theorem ztx (v:Int) (h1:1<=v) (h2:v<=5):zcu { nod0 1 with vk:=4,vn:=v }:=by
 intro w;have hne:∀W:World,(binOp .neq 297 (.agg (aV 4 v)) (.agg (aV 4 v))).run prog W=.ok (.bool false) W:=λW=>zeh { nod0 1 with vk:=4,vn:=v } W;rw[show (cNod { nod0 1 with vk:=4,vn:=v }).toArray=#[.int .u8 1,.int .u8 4,.int .i64 v,str [],.int .i64 0,.int .i64 0,.int .i64 0,.int .i64 0,.int .i64 0,.int .u8 0,.int .i64 0] from rfl];go_enter func308,ntmps308;go_wp2_with fail;refine (zt8 v _ h1 (by omega)).mono ?_;rintro e w1 ⟨rfl,hb1⟩;have hz1:=hb1.size
 try simp at hz1
 have hB1:Below w w w1:=nxt hb1;obtain ⟨hc1_0,hl1_0,hm1_0,hn1_0,ho1_0,hf1_0⟩:=oldB (g:=w) hb1;obtain ⟨hc1_1,hl1_1,hm1_1,hn1_1,ho1_1,hf1_1⟩:=oldB (g:=w.heap.size+1) hb1;go_wp2;go_ret;exact ⟨rfl,by go_grown⟩
theorem ztw:zcu (nod0 4):=by
 intro w;have hne:∀W:World,(binOp .neq 297 (.agg (aO 4 0)) (.agg (aO 4 0))).run prog W=.ok (.bool false) W:=λW=>zeh (nod0 4) W;rw[show (cNod (nod0 4)).toArray=#[.int .u8 4,.int .u8 0,.int .i64 0,str [],.int .i64 0,.int .i64 0,.int .i64 0,.int .i64 0,.int .i64 0,.int .u8 0,.int .i64 0] from rfl];go_enter func308,ntmps308;go_wp2;go_ret;exact ⟨rfl,by go_grown⟩
theorem ztu:zcu (nod0 5):=by
 intro w;have hne:∀W:World,(binOp .neq 297 (.agg (aO 5 0)) (.agg (aO 5 0))).run prog W=.ok (.bool false) W:=λW=>zeh (nod0 5) W;rw[show (cNod (nod0 5)).toArray=#[.int .u8 5,.int .u8 0,.int .i64 0,str [],.int .i64 0,.int .i64 0,.int .i64 0,.int .i64 0,.int .i64 0,.int .u8 0,.int .i64 0] from rfl];go_enter func308,ntmps308;go_wp2;go_ret;exact ⟨rfl,by go_grown⟩
theorem zmm (v:Int) (h1:1<=v) (h2:v<=12):zcu { nod0 6 with op:=v }:=by
 intro w;have hne:∀W:World,(binOp .neq 297 (.agg (aO 6 v)) (.agg (aO 6 v))).run prog W=.ok (.bool false) W:=λW=>zeh { nod0 6 with op:=v } W;rw[show (cNod { nod0 6 with op:=v }).toArray=#[.int .u8 6,.int .u8 0,.int .i64 0,str [],.int .i64 0,.int .i64 0,.int .i64 0,.int .i64 0,.int .i64 v,.int .u8 0,.int .i64 0] from rfl];go_enter func308,ntmps308;go_wp2;go_ret;exact ⟨rfl,by go_grown⟩
theorem ztt (r:Rct) (h1:rctB r=true) (e1:(r.c1==r.c2)=true) (e2:(r.r1==r.r2)=true):zcu { nod0 2 with rect:=r }:=by
 intro w;have hne:∀W:World,(binOp .neq 297 (.agg (aR 2 r)) (.agg (aR 2 r))).run prog W=.ok (.bool false) W:=λW=>zeh { nod0 2 with rect:=r } W;rw[show (cNod { nod0 2 with rect:=r }).toArray=#[.int .u8 2,.int .u8 0,.int .i64 0,str [],.int .i64 r.c1,.int .i64 r.r1,.int .i64 r.c2,.int .i64 r.r2,.int .i64 0,.int .u8 0,.int .i64 0] from rfl];have HE:=jM (rctE ⟨r.c1,r.r1,r.c2,r.r2⟩=0) (by unfold rctE;rw[jb h1]);clear h1;go_enter func308,ntmps308;go_wp2_with fail;refine (zdm _ _ _ _ _).mono ?_;rintro e w1 ⟨rfl,hb1⟩;have hz1:=hb1.size
 try simp at hz1
 have hB1:Below w w w1:=nxt hb1;obtain ⟨hc1_0,hl1_0,hm1_0,hn1_0,ho1_0,hf1_0⟩:=oldB (g:=w) hb1;obtain ⟨hc1_1,hl1_1,hm1_1,hn1_1,ho1_1,hf1_1⟩:=oldB (g:=w.heap.size+1) hb1;rw[HE.o];go_wp2;go_ret;exact ⟨rfl,by go_grown⟩
theorem zml (r:Rct) (h1:rctB r=true) (e1:(r.c1==r.c2)=false):zcu { nod0 3 with rect:=r }:=by
 intro w;have hne:∀W:World,(binOp .neq 297 (.agg (aR 3 r)) (.agg (aR 3 r))).run prog W=.ok (.bool false) W:=λW=>zeh { nod0 3 with rect:=r } W;rw[show (cNod { nod0 3 with rect:=r }).toArray=#[.int .u8 3,.int .u8 0,.int .i64 0,str [],.int .i64 r.c1,.int .i64 r.r1,.int .i64 r.c2,.int .i64 r.r2,.int .i64 0,.int .u8 0,.int .i64 0] from rfl];have HE:=jM (rctE ⟨r.c1,r.r1,r.c2,r.r2⟩=0) (by unfold rctE;rw[jb h1]);clear h1;go_enter func308,ntmps308;go_wp2_with fail;refine (zdm _ _ _ _ _).mono ?_;rintro e w1 ⟨rfl,hb1⟩;have hz1:=hb1.size
 try simp at hz1
 have hB1:Below w w w1:=nxt hb1;obtain ⟨hc1_0,hl1_0,hm1_0,hn1_0,ho1_0,hf1_0⟩:=oldB (g:=w) hb1;obtain ⟨hc1_1,hl1_1,hm1_1,hn1_1,ho1_1,hf1_1⟩:=oldB (g:=w.heap.size+1) hb1;rw[HE.o];go_wp2;go_ret;exact ⟨rfl,by go_grown⟩
theorem zmk (r:Rct) (h1:rctB r=true) (e1:(r.c1==r.c2)=true) (e2:(r.r1==r.r2)=false):zcu { nod0 3 with rect:=r }:=by
 intro w;have hne:∀W:World,(binOp .neq 297 (.agg (aR 3 r)) (.agg (aR 3 r))).run prog W=.ok (.bool false) W:=λW=>zeh { nod0 3 with rect:=r } W;rw[show (cNod { nod0 3 with rect:=r }).toArray=#[.int .u8 3,.int .u8 0,.int .i64 0,str [],.int .i64 r.c1,.int .i64 r.r1,.int .i64 r.c2,.int .i64 r.r2,.int .i64 0,.int .u8 0,.int .i64 0] from rfl];have HE:=jM (rctE ⟨r.c1,r.r1,r.c2,r.r2⟩=0) (by unfold rctE;rw[jb h1]);clear h1;go_enter func308,ntmps308;go_wp2_with fail;refine (zdm _ _ _ _ _).mono ?_;rintro e w1 ⟨rfl,hb1⟩;have hz1:=hb1.size
 try simp at hz1
 have hB1:Below w w w1:=nxt hb1;obtain ⟨hc1_0,hl1_0,hm1_0,hn1_0,ho1_0,hf1_0⟩:=oldB (g:=w) hb1;obtain ⟨hc1_1,hl1_1,hm1_1,hn1_1,ho1_1,hf1_1⟩:=oldB (g:=w.heap.size+1) hb1;rw[HE.o];go_wp2;go_ret;exact ⟨rfl,by go_grown⟩
theorem zpu (fn n:Nat) (h1:1<=fn) (h2:fn<=50) (h3:(zao fn).1<=n) (h4:(n:Int)<=(zao fn).2.1):zcu { nod0 7 with fn:=fn,n:=n }:=by
 intro w;have hne:∀W:World,(binOp .neq 297 (.agg (aF fn n)) (.agg (aF fn n))).run prog W=.ok (.bool false) W:=λW=>zeh { nod0 7 with fn:=fn,n:=n } W;rw[show (cNod { nod0 7 with fn:=fn,n:=n }).toArray=#[.int .u8 7,.int .u8 0,.int .i64 0,str [],.int .i64 0,.int .i64 0,.int .i64 0,.int .i64 0,.int .i64 0,.int .u8 fn,.int .i64 n] from rfl];have HA:=Hd (λW=>zf9 fn h1 h2 W);have HZ:=zi1 fn h1 h2;rw[HZ] at HA;clear HZ;generalize (zao fn).1=m0 at *;generalize (zao fn).2.1=m1 at *;have n0:(0:Int)<=(n:Int):=by omega
 have g3:¬(n:Int)<m0:=by omega
 have g4:¬m1<(n:Int):=by omega
 go_enter func308,ntmps308;go_wp2
 go_region
 all_goals
  go_wp2_with fail;refine (HA.o _).mono ?_;rintro u w2 ⟨rfl,rfl⟩;go_wp2;go_ret;exact ⟨rfl,by go_grown⟩
theorem zw0 (n:Nod) (h:NodOk n):zcu n:=by
 cases h with
 | num v h=>exact ztv v h
 | text x h=>exact zpt x h (by
  unfold txtE at h;split at h
  ·simp at h
  omega)
 | bool v h=>exact zpv v h
 | err v h1 h2=>exact ztx v h1 h2
 | ref r h1 h2=>unfold zgs at h2;rw[ji,decide_eq_true_eq,decide_eq_true_eq] at h2;exact ztt r h1 (by simpa using h2.1) (by simpa using h2.2)
 | range r h1 h2=>
  unfold zgs at h2;by_cases e1:r.c1=r.c2
  ·rw[jB e1,Bool.true_and,decide_eq_false_iff_not] at h2;exact zmk r h1 (by simpa using e1) (by simpa using h2)
  exact zml r h1 (by simpa using e1)
 | neg=>exact ztw
 | pct=>exact ztu
 | binary v h1 h2=>exact zmm v h1 h2
 | call fn n h1 h2 h3 h4=>exact zpu fn n h1 h2 h3 h4
def zcl (n:Nod):Nat:=if n.kind=4\/n.kind=5 then 1 else if n.kind=6 then 2 else if n.kind=7 then n.n.toNat else 0
theorem z0u (n:Nod) (h:NodOk n):zj9 n=(zcl n:Int):=by
 cases h <;> simp[zj9,zcl,nod0]
theorem zxj (n:Nod) (h:NodOk n) (w:World):Calls prog 309 #[.agg (cNod n).toArray] w λu w'=>u=.returned (.int .i64 (zcl n))/\Below w w w':=by
 cases h with
 | num v h=>rw[show (cNod _).toArray=#[.int .u8 1,.int .u8 1,.int .i64 v,str [],.int .i64 0,.int .i64 0,.int .i64 0,.int .i64 0,.int .i64 0,.int .u8 0,.int .i64 0] from rfl];go_enter func309,ntmps309;go_wp2;go_ret;exact ⟨rfl,by go_grown⟩
 | text x h=>rw[show (cNod _).toArray=#[.int .u8 1,.int .u8 3,.int .i64 0,str x,.int .i64 0,.int .i64 0,.int .i64 0,.int .i64 0,.int .i64 0,.int .u8 0,.int .i64 0] from rfl];go_enter func309,ntmps309;go_wp2;go_ret;exact ⟨rfl,by go_grown⟩
 | bool v h=>rw[show (cNod _).toArray=#[.int .u8 1,.int .u8 2,.int .i64 v,str [],.int .i64 0,.int .i64 0,.int .i64 0,.int .i64 0,.int .i64 0,.int .u8 0,.int .i64 0] from rfl];go_enter func309,ntmps309;go_wp2;go_ret;exact ⟨rfl,by go_grown⟩
 | err v h1 h2=>rw[show (cNod _).toArray=#[.int .u8 1,.int .u8 4,.int .i64 v,str [],.int .i64 0,.int .i64 0,.int .i64 0,.int .i64 0,.int .i64 0,.int .u8 0,.int .i64 0] from rfl];go_enter func309,ntmps309;go_wp2;go_ret;exact ⟨rfl,by go_grown⟩
 | ref r h1 h2=>rw[show (cNod _).toArray=#[.int .u8 2,.int .u8 0,.int .i64 0,str [],.int .i64 r.c1,.int .i64 r.r1,.int .i64 r.c2,.int .i64 r.r2,.int .i64 0,.int .u8 0,.int .i64 0] from rfl];go_enter func309,ntmps309;go_wp2;go_ret;exact ⟨rfl,by go_grown⟩
 | range r h1 h2=>rw[show (cNod _).toArray=#[.int .u8 3,.int .u8 0,.int .i64 0,str [],.int .i64 r.c1,.int .i64 r.r1,.int .i64 r.c2,.int .i64 r.r2,.int .i64 0,.int .u8 0,.int .i64 0] from rfl];go_enter func309,ntmps309;go_wp2;go_ret;exact ⟨rfl,by go_grown⟩
 | neg=>rw[show (cNod _).toArray=#[.int .u8 4,.int .u8 0,.int .i64 0,str [],.int .i64 0,.int .i64 0,.int .i64 0,.int .i64 0,.int .i64 0,.int .u8 0,.int .i64 0] from rfl];go_enter func309,ntmps309;go_wp2;go_ret;exact ⟨rfl,by go_grown⟩
 | pct=>rw[show (cNod _).toArray=#[.int .u8 5,.int .u8 0,.int .i64 0,str [],.int .i64 0,.int .i64 0,.int .i64 0,.int .i64 0,.int .i64 0,.int .u8 0,.int .i64 0] from rfl];go_enter func309,ntmps309;go_wp2;go_ret;exact ⟨rfl,by go_grown⟩
 | binary v h1 h2=>rw[show (cNod _).toArray=#[.int .u8 6,.int .u8 0,.int .i64 0,str [],.int .i64 0,.int .i64 0,.int .i64 0,.int .i64 0,.int .i64 v,.int .u8 0,.int .i64 0] from rfl];go_enter func309,ntmps309;go_wp2;go_ret;exact ⟨rfl,by go_grown⟩
 | call fn n h1 h2 h3 h4=>rw[show (cNod _).toArray=#[.int .u8 7,.int .u8 0,.int .i64 0,str [],.int .i64 0,.int .i64 0,.int .i64 0,.int .i64 0,.int .i64 0,.int .u8 fn,.int .i64 n] from rfl];go_enter func309,ntmps309;go_wp2;go_ret;exact ⟨rfl,by go_grown⟩
def ztl (p:Nat) (W:World):Nat:=match W.cell? (p,0) with
 | some (.slice _ n _)=>n
 | _=>0
theorem zet (h:PA W p e ov st):ztl p W=st.1.length:=by
 obtain ⟨lv,h1,h2⟩:=h.bx;obtain ⟨A,cap,rfl, -⟩:=h2;have hc:=h1.cell 0;unfold ztl;rw[hc];rfl
theorem pct_ok (e:Int) (f:Nat) (hp:RunS 325 one1 e f .prim):RunS 307 one1 e (f+1) .pct:=by
 intro p ov st W h hn hf;have HPC:=Hd hp;have HH:=Hd h;simp only[zbg] at hf;have HR:Hid (parS e (f+1) .pct st=thenS (parS e f .prim st) (parS e f .pctl)):=Hd rfl;generalize parS e (f+1) .pct st=R at HR ⊢;clear hp h;unfold one1;go_enter func307,ntmps307;go_wp2_with fail;refine (HPC.o p ov st _ HH.o hn (by simp only[zbg];omega)).mono ?_;intro u w1 hw;rcases zaz hw with ⟨s1,ov1,hr,rfl,ha,ht⟩ | ⟨a,er,hr,rfl,hb⟩
 ·have HL:=Hd (za4 e f .prim _ _ hr);have HR1:=jM (R=parS e f .pctl s1) (by rw[HR.o,hr];rfl);have H1:=Hd ha;have T1:=Hd ht;clear ha ht hr hw HR;go_wp2_with fail;go_loopw [5] (λ_ wr=>∃f' s' ov',R=parS e f' .pctl s'/\10*s'.1.length+2<=f'/\s'.1.length+s'.2.length<=2000/\PA wr p e ov' s'/\PTo p W ov wr ov') (λ_ wr=>ztl p wr)
  case atStart=>exact ⟨f,s1,ov1,HR1.o,by have:=HL.o;simp only[za0] at this;omega,by have:=HL.o;omega,H1.o,T1.o⟩
  obtain ⟨f',s',ov',hr,hf',hn',ha,ht⟩:=hrel;obtain ⟨f2,rfl⟩:∃f2,f'=f2+1:=⟨f'-1,by omega⟩;have HR2:Hid (R=if zc3 e s' 13 then parS e f2 .pctl (putS (nod0 5) (zap s')) else .ok s'):=Hd hr;have H2:=Hd ha;have T2:=Hd ht;have hla:=zet ha;clear hr ha ht;go_wp2_with fail;refine (zvq p e ov' s' 13 _ H2.o (by omega)).mono ?_;rintro u w3 ⟨rfl,hb3⟩;have H3:=Hd (H2.o.below hb3);have T3:=Hd (PTo.below T2.o hb3);clear hb3;by_cases hi:zc3 e s' 13=true;rotate_left
  ·have hi':zc3 e s' 13=false:=eq_false_of_ne_true hi;have HR4:=Hd (HR2.o.trans (ja hi));rw[hi'];clear hi hi' HR2;go_wp2;refine bE ?_;exact zbn HR4.o H3.o T3.o
  have hpos:=zdb hi;have hne:s'.1≠ []:=List.length_pos_iff.1 hpos;have HR4:=Hd (HR2.o.trans (jb hi));rw[hi];clear hi HR2;go_wp2_with fail;refine (zb5 p e ov' s' _ H3.o (by omega) hne).mono ?_;rintro u w4 ⟨rfl,ha,ht⟩;have H4:=Hd ha;have T4:=Hd (T3.o.trans ht);clear ha ht;go_wp2_with fail;refine (zeg p e ov' (zap s') (nod0 5) _ H4.o (by rw[zah];omega)).mono ?_;rintro u w5 ⟨rfl,ov5,ha,ht⟩;have H5:=Hd ha;have T5:=Hd (T4.o.trans ht);have hl5:=zet ha;clear ha ht;rw[zcn,zai] at hl5;have HL5:=Hd hl5;have HLA:=Hd hla;clear hl5 hla;go_wp2;exact ⟨⟨f2,_,ov5,HR4.o,by rw[zcn,zai];omega,by rw[zcn,zcf,zai,zah];omega,H5.o,T5.o⟩,by rw[HL5.o,HLA.o];omega⟩
 have HR3:=jM (R=.error (a,er)) (by rw[HR.o,hr];rfl);have HB3:=Hd hb;clear hr hw hb;unfold flt;go_wp2;exact ⟨rfl,zay HR3.o HB3.o⟩
def lev1 (k:Nat) (p:Nat):Array Value:=#[.pointer (some (p,0)),.int .i64 k]
theorem zk8 (e:Int) (f:Nat) (hl:RunS 251 (lev1 1) e f (.level 1)):RunS 224 one1 e f (.level 1):=by
 intro p ov st W h hn hf;have HH:=Hd h;have HL:=Hd hl;clear h hl;generalize hR:parS e f (.level 1) st=R;have HR:=Hd hR;clear hR;unfold one1;go_enter func224,ntmps224;go_wp2_with fail;refine (HL.o p ov st _ HH.o hn hf).mono ?_;intro u w1 hw;rcases zaz hw with ⟨s1,ov1,hr,rfl,ha,ht⟩ | ⟨a,er,hr,rfl,hb⟩
 ·have HR2:=Hd (HR.o.symm.trans hr);have H1:=Hd ha;have T1:=Hd ht;clear hr ha ht hw;go_wp2;refine bE ?_;exact zbn HR2.o H1.o T1.o
 have HR2:=Hd (HR.o.symm.trans hr);have HB:=Hd hb;clear hr hw hb;unfold flt;go_wp2;exact ⟨rfl,zay HR2.o HB.o⟩
def zx0 (e:Int) (f:Nat):Prop:=∀(name:Tok) (p:Nat) (ov:Value) (st:PSt) (W:World),PA W p e ov st->st.1.length+st.2.length<=2000->10*st.1.length+1<=f->zak e st=name->name.kind=7->
 Calls prog 343 #[(aA p),.agg (cTok name).toArray] W (Went p e W ov (parS e f (.call name) st))
theorem z2q (e:Int) (f:Nat) (hl:RunS 224 one1 e f (.level 1)) (hc:zx0 e f):RunS 325 one1 e (f+1) .prim:=by
 intro p ov st W h hn hf;have HFO:=Hd hl;have HCA:=Hd hc;have HH:=Hd h;simp only[zbg] at hf;generalize ht:zak e st=t;have HR:Hid (parS e (f+1) .prim st=if t.kind=1 then .ok (putS { nod0 1 with vk:=1,vn:=t.num } (zap st))
  else if t.kind=2 then .ok (putS { nod0 1 with vk:=3,vt:=t.text } (zap st))
  else if t.kind=3 then .ok (putS { nod0 1 with vk:=2,vn:=t.num } (zap st))
  else if t.kind=4 then .ok (putS { nod0 1 with vk:=4,vn:=t.num } (zap st))
  else if t.kind=5 then .ok (putS { nod0 2 with rect:=t.rect } (zap st))
  else if t.kind=9 then thenS (parS e f (.level 1) (zap st)) (ze4 e 10)
  else if t.kind=7 then parS e f (.call t) st
  else .error (t.at_,4)):=Hd (by subst ht;rfl)
 generalize parS e (f+1) .prim st=R at HR ⊢;have HN:Hid (t.kind≠0->st.1≠ []):=Hd (by rw[<- ht];exact ze2);have HT0:=Hd ht;have HLT:=Hd h.lt;have HOV:=jM (∀k,W.heap.size<=k->ov.ownBlock≠some k) (λk hk e=>by have:=h.ow.lt _ e;omega);clear hl hc h;unfold one1;go_enter func325,ntmps325;go_wp2_with fail;refine (zc8 p e ov st _ HH.o (by omega)).mono ?_;rintro u w1 ⟨rfl,hb1⟩;rw[ht];clear ht;have K1:=Hd (je w1 239 (cTok t).toArray);have HB2:=jM (Below W W (w1.alloc (.cells (cTok t).toArray 239))) (hb1.alloc hb1.size _);have HS1:=Hd hb1.size;clear hb1;have H1:=Hd (HH.o.below HB2.o);have T1:=Hd (PTo.below (PTo.refl p W ov) HB2.o);obtain ⟨W1,hW1⟩:=jN (w1.alloc (.cells (cTok t).toArray 239));rw[hW1] at K1 HB2 H1 T1;rw[show (cTok t).toArray=#[.int .u8 t.kind,.int .i64 t.num,str t.text,.int .i64 t.rect.c1,.int .i64 t.rect.r1,.int .i64 t.rect.c2,.int .i64 t.rect.r2,.int .i64 t.at_] from rfl] at hW1 ⊢;obtain ⟨g,hg⟩:∃g,g=w1.heap.size:=⟨_,rfl⟩;rw[<- hg] at K1 HS1;have HGN:=jM (g≠p) (by have:=HLT.o;have:=HS1.o;omega);have HGO:=Hd (HOV.o g HS1.o);go_upto_region 1 with (fail)
 rw[<- hg];clear hW1 hg;obtain ⟨x0,x1,x2,x3,x4,x5⟩:W1.cell? (g,0)=some (.int .u8 t.kind)/\W1.cell? (g,1)=some (.int .i64 t.num)/\W1.cell? (g,2)=some (str t.text)/\W1.cell? (g,3)=some (.int .i64 t.rect.c1)/\W1.cell? (g,4)=some (.int .i64 t.rect.r1)/\W1.cell? (g,5)=some (.int .i64 t.rect.c2):=K1.o.c6 0 1 2 3 4 5;obtain ⟨x6,x7⟩:W1.cell? (g,6)=some (.int .i64 t.rect.r2)/\W1.cell? (g,7)=some (.int .i64 t.at_):=K1.o.c2 6 7;by_cases h1:t.kind=1
 ·have HR2:=Hd (HR.o.trans (jb h1));have hne:=HN.o (by omega);have b1:(t.kind==1)=true:=by simpa using h1
  clear HR h1;go_wp2_with fail;refine (zhj p e ov st 1 t.num [] _ H1.o (by omega) (by omega) hne).mono ?_;rintro u w2 ⟨rfl,ov2,ha,ht⟩;have H2:=Hd ha;have T2:=Hd (T1.o.trans ht);clear ha ht;go_wp2;refine bE ?_;exact zbn HR2.o H2.o T2.o
 have b1:(t.kind==1)=false:=by simpa using h1
 by_cases h2:t.kind=2
 ·have HR2:=Hd (HR.o.trans ((ja h1).trans (jb h2)));have hne:=HN.o (by omega);have b2:(t.kind==2)=true:=by simpa using h2
  clear HR h1 h2;go_wp2_with fail;refine (zhj p e ov st 3 0 t.text _ H1.o (by omega) (by omega) hne).mono ?_;rintro u w2 ⟨rfl,ov2,ha,ht⟩;have H2:=Hd ha;have T2:=Hd (T1.o.trans ht);clear ha ht;go_wp2;refine bE ?_;exact zbn HR2.o H2.o T2.o
 have b2:(t.kind==2)=false:=by simpa using h2
 by_cases h3:t.kind=3
 ·have HR2:=Hd (HR.o.trans ((ja h1).trans ((ja h2).trans (jb h3))));have hne:=HN.o (by omega);have b3:(t.kind==3)=true:=by simpa using h3
  clear HR h1 h2 h3;go_wp2_with fail;refine (zhj p e ov st 2 t.num [] _ H1.o (by omega) (by omega) hne).mono ?_;rintro u w2 ⟨rfl,ov2,ha,ht⟩;have H2:=Hd ha;have T2:=Hd (T1.o.trans ht);clear ha ht;go_wp2;refine bE ?_;exact zbn HR2.o H2.o T2.o
 have b3:(t.kind==3)=false:=by simpa using h3
 by_cases h4:t.kind=4
 ·have HR2:=Hd (HR.o.trans ((ja h1).trans ((ja h2).trans ((ja h3).trans (jb h4)))));have hne:=HN.o (by omega);have b4:(t.kind==4)=true:=by simpa using h4
  clear HR h1 h2 h3 h4;go_wp2_with fail;refine (zhj p e ov st 4 t.num [] _ H1.o (by omega) (by omega) hne).mono ?_;rintro u w2 ⟨rfl,ov2,ha,ht⟩;have H2:=Hd ha;have T2:=Hd (T1.o.trans ht);clear ha ht;go_wp2;refine bE ?_;exact zbn HR2.o H2.o T2.o
 have b4:(t.kind==4)=false:=by simpa using h4
 by_cases h5:t.kind=5
 ·have HR2:=Hd (HR.o.trans ((ja h1).trans ((ja h2).trans ((ja h3).trans ((ja h4).trans (jb h5))))));have hne:=HN.o (by omega);have b5:(t.kind==5)=true:=by simpa using h5
  clear HR h1 h2 h3 h4 h5;go_wp2_with fail;refine (zb5 p e ov st _ H1.o (by omega) hne).mono ?_;rintro u w2 ⟨rfl,ha,ht⟩;have H2:=Hd ha;have T2:=Hd (T1.o.trans ht);have K2:=Hd (ht.blk K1.o HGN.o HGO.o);clear ha ht;obtain ⟨y3,y4,y5,y6⟩:w2.cell? (g,3)=some (.int .i64 t.rect.c1)/\w2.cell? (g,4)=some (.int .i64 t.rect.r1)/\w2.cell? (g,5)=some (.int .i64 t.rect.c2)/\w2.cell? (g,6)=some (.int .i64 t.rect.r2):=K2.o.c4 3 4 5 6;go_wp2_with fail;refine (zeg p e ov (zap st) { nod0 2 with rect:=t.rect } _ H2.o (by rw[zah];omega)).mono ?_;rintro u w3 ⟨rfl,ov3,ha,ht⟩;have H3:=Hd ha;have T3:=Hd (T2.o.trans ht);clear ha ht;go_wp2;refine bE ?_;exact zbn HR2.o H3.o T3.o
 have b5:(t.kind==5)=false:=by simpa using h5
 by_cases h9:t.kind=9
 ·have HR2:=Hd (HR.o.trans ((ja h1).trans ((ja h2).trans ((ja h3).trans ((ja h4).trans ((ja h5).trans (jb h9)))))));have hne:=HN.o (by omega);have b9:(t.kind==9)=true:=by simpa using h9
  clear HR h1 h2 h3 h4 h5 h9;have hpos:1<=st.1.length:=List.length_pos_iff.2 hne;go_wp2_with fail;refine (zb5 p e ov st _ H1.o (by omega) hne).mono ?_;rintro u w2 ⟨rfl,ha,ht⟩;have H2:=Hd ha;have T2:=Hd (T1.o.trans ht);clear ha ht;go_wp2_with fail;refine (HFO.o p ov (zap st) _ H2.o (by rw[zai,zah];omega) (by simp only[zbg,zai];omega)).mono ?_;intro u w3 hw;rcases zaz hw with ⟨s3,ov3,hr,rfl,ha,ht⟩ | ⟨a,er,hr,rfl,hb⟩
  ·have HL:=Hd (za4 e f _ _ _ hr);have HR3:=jM (R=ze4 e 10 s3) (by rw[HR2.o,hr];rfl);have H3:=Hd ha;have T3:=Hd (T2.o.trans ht);clear ha ht hr hw;go_wp2_with fail;refine (zqx p e ov3 s3 10 _ H3.o (by have:=HL.o;rw[zai] at this;omega) (by decide)).mono ?_;intro u w4 hw;rcases zaz hw with ⟨s4,ov4,hr,rfl,ha,ht⟩ | ⟨a,er,hr,rfl,hb⟩
   ·have HR4:=Hd (HR3.o.trans hr);have H4:=Hd ha;have T4:=Hd (T3.o.trans ht);clear ha ht hr hw;go_wp2;refine bE ?_;exact zbn HR4.o H4.o T4.o
   have HR4:=Hd (HR3.o.trans hr);have HB4:=Hd ((T3.o.old' HH.o).trans hb);clear hr hw hb;unfold flt;go_wp2;exact ⟨rfl,zay HR4.o HB4.o⟩
  have HR3:=jM (R=.error (a,er)) (by rw[HR2.o,hr];rfl);have HB3:=Hd ((T2.o.old' HH.o).trans hb);clear hr hw hb;unfold flt;go_wp2;exact ⟨rfl,zay HR3.o HB3.o⟩
 have b9:(t.kind==9)=false:=by simpa using h9
 by_cases h7:t.kind=7
 ·have HR2:=Hd (HR.o.trans ((ja h1).trans ((ja h2).trans ((ja h3).trans ((ja h4).trans ((ja h5).trans ((ja h9).trans (jb h7))))))));have hne:=HN.o (by omega);have b7:(t.kind==7)=true:=by simpa using h7
  have HK:=Hd h7;clear HR h1 h2 h3 h4 h5 h9 h7;go_wp2_with fail;refine (HCA.o t p ov st _ H1.o hn (by omega) HT0.o HK.o).mono ?_;intro u w2 hw;rcases zaz hw with ⟨s2,ov2,hr,rfl,ha,ht⟩ | ⟨a,er,hr,rfl,hb⟩
  ·have HR3:=Hd (HR2.o.trans hr);have H2:=Hd ha;have T2:=Hd (T1.o.trans ht);clear ha ht hr hw;go_wp2;refine bE ?_;exact zbn HR3.o H2.o T2.o
  have HR3:=Hd (HR2.o.trans hr);have HB3:=Hd ((T1.o.old' HH.o).trans hb);clear hr hw hb;unfold flt;go_wp2;exact ⟨rfl,zay HR3.o HB3.o⟩
 have b7:(t.kind==7)=false:=by simpa using h7
 have HR2:=Hd (HR.o.trans ((ja h1).trans ((ja h2).trans ((ja h3).trans ((ja h4).trans ((ja h5).trans ((ja h9).trans (ja h7))))))));clear HR h1 h2 h3 h4 h5 h9 h7;go_wp2_with fail;refine (zc9 _ t.at_ 4 _).mono ?_;rintro u w3 ⟨rfl,rfl⟩;unfold flt;go_wp2;exact ⟨rfl,zay HR2.o (T1.o.old' HH.o)⟩
end Go.Proofs.YtamcgggmfghljaaGreatDoor
