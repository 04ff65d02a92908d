/- walk -/
import Derived.Test.YtamcgggmfghljaaGreatDoorE13
import Derived.Test.YtamcgggmfghljaaGreatDoorE15
set_option maxRecDepth 100000
set_option maxHeartbeats 8000000
open Go.Proofs.Tryz
namespace Go.Proofs.YtamcgggmfghljaaGreatDoor
open Go.RowKit
variable {u:Ending} {a b c c1 c2 d e op r1 r2:Int} {fn g k n p:Nat} {st st':PSt} {r:Rd} {name t:Tok} {ov:Value} {W W':World}
theorem zld (n:Int) (r:Rd):(za2 n r).2.1.length<=r.1.length:=by
 unfold za2;split
 ·simp
 simp only[jp];omega
theorem zac (r:Rd):(numR r).2.1.length<=r.1.length:=by
 obtain ⟨l,b⟩:=r
 cases l with
 | nil=>simp[numR]
 | cons c t=>rw[zf3];have:=zld c.toNat (t,b||decide (8<c.toNat));simp only[jk] at this ⊢;omega
theorem RdTo.drew (h:RdTo p W W' r):RdTo p W W'.drew r:=⟨h.blk,h.chg.drew⟩
theorem RdTo.set (h:RdTo p W W' r) (hg:W.heap.size<=g) (hp:p≠g) (i:Nat) (u:Value):RdTo p W (W'.setCell (g,i) u) r:=
 ⟨Blk.far h.blk (by exact hp) u,h.chg.setCell (p:=⟨g,i,none⟩) (.inr hg) u⟩
theorem RdTo.alloc (h:RdTo p W W' r) (o:Obj):RdTo p W (W'.alloc o) r:=⟨Blk.alloc h.blk o,h.chg.alloc o⟩
theorem RdTo.refl (h:RdAt W p r):RdTo p W W r:=⟨h,Chg.refl _ _⟩
theorem RdTo.keep {t:TypeId} {cs:Array Value} (h:RdTo p W W' r) (hb:Blk W g t cs) (hg:g≠p):Blk W' g t cs:=hb.chg h.chg hg
theorem zqo (p:Nat) (r:Rd) (W:World) (h:RdAt W p r) (hl:r.1.length<=1000000):
 Calls prog 60 (aP p) W λu W'=>u=.returned (.agg #[.int .i64 (zbz r).1.col,.int .i64 (zbz r).1.row])/\RdTo p W W' (zbz r).2:=by
 have hlt:=h.lt;have hne:W.heap.size≠p:=by omega
 have K0:=Hd (je W 56 #[.int .i64 0,.int .i64 0]);have T0:=Hd ((RdTo.refl h).alloc (.cells #[.int .i64 0,.int .i64 0] 56));have hr0:r.1.length<=1000000:=hl;obtain ⟨W0,hW0⟩:=jN (W.alloc (.cells #[.int .i64 0,.int .i64 0] 56));rw[hW0] at K0 T0;clear h hl;go_enter func60,ntmps60;go_wp2_with fail;refine (zb3 p r W0 T0.o.blk (by first | exact hr0 | exact hr0.o)).mono ?_;rintro e W1 ⟨rfl,t1⟩;have K1:=Hd (t1.keep K0.o hne);have T1:=Hd (T0.o.trans t1);have hr1:=Hd (jx (zac r) (by first | exact hr0 | exact hr0.o));clear t1;go_wp2_with fail;refine (zb3 p (numR r).2 W1 T1.o.blk (by first | exact hr0 | exact hr1.o)).mono ?_;rintro e W2 ⟨rfl,t2⟩;have K2:=Hd (t2.keep K1.o hne);have T2:=Hd (T1.o.trans t2);clear t2;have hlt2:W.heap.size<W2.heap.size:=K2.o.lt;have c0:=K2.o.cell 0;have f0:W2.frozen? (W,0)=false:=K2.o.frozen 0;have c1:=K2.o.cell 1;have f1:W2.frozen? (W,1)=false:=K2.o.frozen 1;go_wp2;have KF:=Hd ((K2.o.set_ 0 (.int .i64 (zaj (numR r).1))).set_ 1 (.int .i64 (zaj (numR (numR r).2).1)));have TF:=Hd ((T2.o.set jy hne.symm 0 (.int .i64 (zaj (numR r).1))).set jy hne.symm 1 (.int .i64 (zaj (numR (numR r).2).1)));obtain ⟨d0,d1⟩:=KF.o.c2 0 1;refine jO results60 (v:=.agg #[.int .i64 (zaj (numR r).1),.int .i64 (zaj (numR (numR r).2).1)]) ?_ (by simp (maxDischargeDepth:=9) [jQ,go_sem,d0,d1]);exact ⟨rfl,TF.o⟩
theorem ze8 (p:Nat) (r:Rd) (W:World) (h:RdAt W p r) (hl:r.1.length<=1000000):
 Calls prog 64 (aP p) W λu W'=>u=.returned (.agg #[.int .i64 (zbr r).1.c1,.int .i64 (zbr r).1.r1,.int .i64 (zbr r).1.c2,.int .i64 (zbr r).1.r2])/\RdTo p W W' (zbr r).2:=by
 have hlt:=h.lt;have hne:W.heap.size≠p:=by omega
 have K0:=Hd (je W 43 #[.int .i64 0,.int .i64 0,.int .i64 0,.int .i64 0]);have T0:=Hd ((RdTo.refl h).alloc (.cells #[.int .i64 0,.int .i64 0,.int .i64 0,.int .i64 0] 43));have hr0:r.1.length<=1000000:=hl;obtain ⟨W0,hW0⟩:=jN (W.alloc (.cells #[.int .i64 0,.int .i64 0,.int .i64 0,.int .i64 0] 43));rw[hW0] at K0 T0;clear h hl;go_enter func64,ntmps64;go_wp2_with fail;refine (zb3 p r W0 T0.o.blk (by first | exact hr0 | exact hr0.o)).mono ?_;rintro e W1 ⟨rfl,t1⟩;have K1:=Hd (t1.keep K0.o hne);have T1:=Hd (T0.o.trans t1);have hr1:=Hd (jx (zac r) (by first | exact hr0 | exact hr0.o));clear t1;go_wp2_with fail;refine (zb3 p (numR r).2 W1 T1.o.blk (by first | exact hr0 | exact hr1.o)).mono ?_;rintro e W2 ⟨rfl,t2⟩;have K2:=Hd (t2.keep K1.o hne);have T2:=Hd (T1.o.trans t2);have hr2:=Hd (jx (zac (numR r).2) (by first | exact hr0 | exact hr1.o));clear t2;go_wp2_with fail;refine (zb3 p (numR (numR r).2).2 W2 T2.o.blk (by first | exact hr0 | exact hr2.o)).mono ?_;rintro e W3 ⟨rfl,t3⟩;have K3:=Hd (t3.keep K2.o hne);have T3:=Hd (T2.o.trans t3);have hr3:=Hd (jx (zac (numR (numR r).2).2) (by first | exact hr0 | exact hr2.o));clear t3;go_wp2_with fail;refine (zb3 p (numR (numR (numR r).2).2).2 W3 T3.o.blk (by first | exact hr0 | exact hr3.o)).mono ?_;rintro e W4 ⟨rfl,t4⟩;have K4:=Hd (t4.keep K3.o hne);have T4:=Hd (T3.o.trans t4);clear t4;have hlt2:W.heap.size<W4.heap.size:=K4.o.lt;have c0:=K4.o.cell 0;have f0:W4.frozen? (W,0)=false:=K4.o.frozen 0;have c1:=K4.o.cell 1;have f1:W4.frozen? (W,1)=false:=K4.o.frozen 1;have c2:=K4.o.cell 2;have f2:W4.frozen? (W,2)=false:=K4.o.frozen 2;have c3:=K4.o.cell 3;have f3:W4.frozen? (W,3)=false:=K4.o.frozen 3;go_wp2;have KF:=Hd ((((K4.o.set_ 0 (.int .i64 (zaj (numR r).1))).set_ 1 (.int .i64 (zaj (numR (numR r).2).1))).set_ 2 (.int .i64 (zaj (numR (numR (numR r).2).2).1))).set_ 3 (.int .i64 (zaj (numR (numR (numR (numR r).2).2).2).1)));have TF:=Hd ((((T4.o.set jy hne.symm 0 (.int .i64 (zaj (numR r).1))).set jy hne.symm 1 (.int .i64 (zaj (numR (numR r).2).1))).set jy hne.symm 2 (.int .i64 (zaj (numR (numR (numR r).2).2).1))).set jy hne.symm 3 (.int .i64 (zaj (numR (numR (numR (numR r).2).2).2).1)));obtain ⟨d0,d1,d2,d3⟩:=KF.o.c4 0 1 2 3;refine jO results64 (v:=.agg #[.int .i64 (zaj (numR r).1),.int .i64 (zaj (numR (numR r).2).1),.int .i64 (zaj (numR (numR (numR r).2).2).1),.int .i64 (zaj (numR (numR (numR (numR r).2).2).2).1)]) ?_ (by simp (maxDischargeDepth:=9) [jQ,go_sem,d0,d1,d2,d3]);exact ⟨rfl,TF.o⟩
theorem zvh (p:Nat) (r:Rd) (W:World) (h:RdAt W p r) (hl:r.1.length<=1000000):
 Calls prog 65 (aP p) W λu W'=>u=.returned (.agg #[.int .u64 (zd5 r).1.rd,.int .u64 (zd5 r).1.wr,.int .u64 (zd5 r).1.ow])/\RdTo p W W' (zd5 r).2:=by
 have hlt:=h.lt;have hne:W.heap.size≠p:=by omega
 have K0:=Hd (je W 46 #[.int .u64 0,.int .u64 0,.int .u64 0]);have T0:=Hd ((RdTo.refl h).alloc (.cells #[.int .u64 0,.int .u64 0,.int .u64 0] 46));have hr0:r.1.length<=1000000:=hl;obtain ⟨W0,hW0⟩:=jN (W.alloc (.cells #[.int .u64 0,.int .u64 0,.int .u64 0] 46));rw[hW0] at K0 T0;clear h hl;go_enter func65,ntmps65;go_wp2_with fail;refine (zjh p r W0 T0.o.blk (by first | exact hr0 | exact hr0.o)).mono ?_;rintro e W1 ⟨rfl,t1⟩;have K1:=Hd (t1.keep K0.o hne);have T1:=Hd (T0.o.trans t1);have hr1:=Hd (jx (zac r) (by first | exact hr0 | exact hr0.o));clear t1;go_wp2_with fail;refine (zjh p (numR r).2 W1 T1.o.blk (by first | exact hr0 | exact hr1.o)).mono ?_;rintro e W2 ⟨rfl,t2⟩;have K2:=Hd (t2.keep K1.o hne);have T2:=Hd (T1.o.trans t2);have hr2:=Hd (jx (zac (numR r).2) (by first | exact hr0 | exact hr1.o));clear t2;go_wp2_with fail;refine (zjh p (numR (numR r).2).2 W2 T2.o.blk (by first | exact hr0 | exact hr2.o)).mono ?_;rintro e W3 ⟨rfl,t3⟩;have K3:=Hd (t3.keep K2.o hne);have T3:=Hd (T2.o.trans t3);clear t3;have hlt2:W.heap.size<W3.heap.size:=K3.o.lt;have c0:=K3.o.cell 0;have f0:W3.frozen? (W,0)=false:=K3.o.frozen 0;have c1:=K3.o.cell 1;have f1:W3.frozen? (W,1)=false:=K3.o.frozen 1;have c2:=K3.o.cell 2;have f2:W3.frozen? (W,2)=false:=K3.o.frozen 2;go_wp2;have KF:=Hd (((K3.o.set_ 0 (.int .u64 ((numR r).1:Nat))).set_ 1 (.int .u64 ((numR (numR r).2).1:Nat))).set_ 2 (.int .u64 ((numR (numR (numR r).2).2).1:Nat)));have TF:=Hd (((T3.o.set jy hne.symm 0 (.int .u64 ((numR r).1:Nat))).set jy hne.symm 1 (.int .u64 ((numR (numR r).2).1:Nat))).set jy hne.symm 2 (.int .u64 ((numR (numR (numR r).2).2).1:Nat)));obtain ⟨d0,d1,d2⟩:=KF.o.c3 0 1 2;refine jO results65 (v:=.agg #[.int .u64 ((numR r).1:Nat),.int .u64 ((numR (numR r).2).1:Nat),.int .u64 ((numR (numR (numR r).2).2).1:Nat)]) ?_ (by simp (maxDischargeDepth:=9) [jQ,go_sem,d0,d1,d2]);exact ⟨rfl,TF.o⟩
theorem zvg (p:Nat) (r:Rd) (W:World) (h:RdAt W p r) (hl:r.1.length<=1000000):
 Calls prog 61 (aP p) W λu W'=>u=.returned (str (zdu r).1)/\RdTo p W W' (zdu r).2:=by
 have HH:=Hd h;clear h;go_enter func61,ntmps61;go_wp2_with fail;refine (zb3 p r W HH.o hl).mono ?_;rintro e W1 ⟨rfl,t1⟩;have T1:=Hd t1;clear t1;go_wp2_with fail;refine (zch p _ _ W1 T1.o.blk).mono ?_;rintro e W2 ⟨rfl,t2⟩;have T2:=Hd (T1.o.trans t2);clear t2;go_wp2;go_ret;exact ⟨rfl,T2.o⟩
theorem zoo (h:ze3 e name fn n st=.ok st'):st.2.length+1<=st'.2.length:=by
 unfold ze3 at h;split at h
 ·cases h
 split at h
 ·cases h
 split at h
 ·cases h
 cases h;rw[zcf,zah];omega
theorem zbp (e:Int):∀(f:Nat) (g:Stg) (st st':PSt),parS e f g st=.ok st'->st.2.length+za0 g<=st'.2.length
 | 0,g,st,st',h=>by cases g <;> simp[parS] at h
 | f+1,.level k,st,st',h=>by
  unfold parS at h;obtain ⟨s1,h1,h2⟩:=zav h;have a:=zbp e f _ _ _ h1;have b:=zbp e f _ _ _ h2;have c:za0 (if k<4 then .level (k+1) else .sign)=1:=by split <;> rfl
  rw[c] at a;simp only[za0] at b ⊢;omega
 | f+1,.loop k,st,st',h=>by
  unfold parS at h;split at h
  ·cases h;simp[za0]
  rename_i hk;have hp:=zcj (e:=e) (st:=st) (by omega);obtain ⟨s1,h1,h2⟩:=zav h;have a:=zbp e f _ _ _ h1;have b:=zbp e f _ _ _ h2;rw[zcf] at b;rw[zah] at a;simp only[za0] at b ⊢;omega
 | f+1,.sign,st,st',h=>by
  unfold parS at h;split at h
  ·rename_i hk;have hp:=zdb hk;obtain ⟨s1,h1,h2⟩:=zav h;have a:=zbp e f _ _ _ h1;rw[zah] at a;cases h2;rw[zcf];simp only[za0] at a ⊢;omega
  obtain ⟨s1,h1,h2⟩:=zav h;have a:=zbp e f _ _ _ h1;split at h2
  ·rename_i hk;have hp:=zdb hk;obtain ⟨s2,h3,h4⟩:=zav h2;have b:=zbp e f _ _ _ h3;rw[zah] at b;cases h4;rw[zcf];simp only[za0] at a b ⊢;omega
  cases h2;exact a
 | f+1,.pct,st,st',h=>by
  unfold parS at h;obtain ⟨s1,h1,h2⟩:=zav h;have a:=zbp e f _ _ _ h1;have b:=zbp e f _ _ _ h2;simp only[za0] at a b ⊢;omega
 | f+1,.pctl,st,st',h=>by
  unfold parS at h;split at h
  ·rename_i hk;have hp:=zdb hk;have a:=zbp e f _ _ _ h;rw[zcf,zah] at a;simp only[za0] at a ⊢;omega
  cases h;simp[za0]
 | f+1,.prim,st,st',h=>by
  unfold parS at h;simp only[za0];have leaf:∀n:Nod,(zak e st).kind≠0->st.2.length+1<=(putS n (zap st)).2.length:=λn hk=>by
   have hp:=zcj hk;rw[zcf,zah];omega
  simp only at h;split at h
  ·cases h;exact leaf _ (by omega)
  split at h
  ·cases h;exact leaf _ (by omega)
  split at h
  ·cases h;exact leaf _ (by omega)
  split at h
  ·cases h;exact leaf _ (by omega)
  split at h
  ·cases h;exact leaf _ (by omega)
  split at h
  ·rename_i hk;have hp:=zcj (e:=e) (st:=st) (by omega);obtain ⟨s1,h1,h2⟩:=zav h;have a:=zbp e f _ _ _ h1;obtain ⟨rfl,hq⟩:=zi3 (by omega) h2;rw[zah] at a ⊢;simp only[za0] at a;omega
  split at h
  ·have a:=zbp e f _ _ _ h;simp only[za0] at a;exact a
  cases h
 | f+1,.call name,st,st',h=>by
  unfold parS at h;split at h
  ·cases h
  obtain ⟨s1,h1,h2⟩:=zav h;obtain ⟨rfl,hq⟩:=zi3 (by omega) h1;split at h2
  ·have a:=zoo h2;rw[zah,zah] at a;simp only[za0];omega
  have a:=zbp e f _ _ _ h2;rw[zah,zah] at a;simp only[za0] at a ⊢;omega
 | f+1,.args name fn n,st,st',h=>by
  unfold parS at h;obtain ⟨s1,h1,h2⟩:=zav h;have a:=zbp e f _ _ _ h1;split at h2
  ·rename_i hk;have hp:=zcj (e:=e) (st:=s1) (by omega);have b:=zbp e f _ _ _ h2;rw[zah] at b;simp only[za0] at a b ⊢;omega
  have b:=zoo h2;simp only[za0] at a b ⊢;omega
 | f+1,.arg fn n,st,st',h=>by
  unfold parS at h;split at h
  ·have a:=zbp e f _ _ _ h;simp only[za0] at a ⊢;exact a
  rename_i hk;have hp:=zcj (e:=e) (st:=st) (by omega);split at h
  ·cases h
  cases h;rw[zcf,zah];simp only[za0];omega
inductive TokOk:Tok->Prop where
 | num (v:Int) (i:Int) (h:0<=v):TokOk ⟨1,v,[],z4,i⟩
 | text (x:zaa) (i:Int) (h:txtE x=0):TokOk ⟨2,0,x,z4,i⟩
 | bool (v:Int) (i:Int) (h:v=0\/v=1):TokOk ⟨3,v,[],z4,i⟩
 | err (v:Int) (i:Int) (h1:1<=v) (h2:v<=5):TokOk ⟨4,v,[],z4,i⟩
 | ref (r:Rct) (i:Int) (h1:rctB r=true) (h2:zgs r=true):TokOk ⟨5,0,[],r,i⟩
 | range (r:Rct) (i:Int) (h1:rctB r=true) (h2:zgs r=false):TokOk ⟨6,0,[],r,i⟩
 | name (x:zaa) (i:Int):TokOk ⟨7,0,x,z4,i⟩
 | op (v:Int) (i:Int) (h1:1<=v) (h2:v<=13):TokOk ⟨8,v,[],z4,i⟩
 | sign (k:Int) (i:Int) (h:9<=k):TokOk ⟨k,0,[],z4,i⟩
inductive NodOk:Nod->Prop where
 | num (v:Int) (h:0<=v):NodOk { nod0 1 with vk:=1,vn:=v }
 | text (x:zaa) (h:txtE x=0):NodOk { nod0 1 with vk:=3,vt:=x }
 | bool (v:Int) (h:v=0\/v=1):NodOk { nod0 1 with vk:=2,vn:=v }
 | err (v:Int) (h1:1<=v) (h2:v<=5):NodOk { nod0 1 with vk:=4,vn:=v }
 | ref (r:Rct) (h1:rctB r=true) (h2:zgs r=true):NodOk { nod0 2 with rect:=r }
 | range (r:Rct) (h1:rctB r=true) (h2:zgs r=false):NodOk { nod0 3 with rect:=r }
 | neg:NodOk (nod0 4)
 | pct:NodOk (nod0 5)
 | binary (v:Int) (h1:1<=v) (h2:v<=12):NodOk { nod0 6 with op:=v }
 | call (fn n:Nat) (h1:1<=fn) (h2:fn<=50) (h3:(zao fn).1<=n) (h4:(n:Int)<=(zao fn).2.1):NodOk { nod0 7 with fn:=fn,n:=n }
theorem zs4 {s:zaa} (h:negB s=false):0<=(zbf s).1:=by
 unfold zbf;split
 ·simp
 split
 ·simp
 split
 ·simp
 rw[ja (by rw[h];simp)];simp
theorem zqv (x:zaa) (h:pltB x=true):prB x=true:=by
 unfold pltB at h;unfold prB;simpa using h
theorem zll (p:UInt8->Bool):∀(n:Nat) (s o:zaa),s.length<=n->s.all p=true->unqL s=some o->o.all p=true
 | _,[],o,_,_,h=>by simp[unqL] at h;subst h;rfl
 | n+1,[c],o,hn,hs,h=>by
  unfold unqL at h;split at h
  ·cases h
  cases h;exact hs
 | n+1,c::d::t,o,hn,hs,h=>by
  unfold unqL at h;rw[List.all_cons,List.all_cons,ji,ji] at hs;split at h
  ·split at h
   ·obtain ⟨o2,h2,rfl⟩:=Option.map_eq_some_iff.1 h;have:=zll p n t o2 (by simp at hn;omega) hs.2.2 h2;rw[List.all_cons,ji];rename_i hc _;subst hc;exact ⟨hs.1,this⟩
   cases h
  obtain ⟨o2,h2,rfl⟩:=Option.map_eq_some_iff.1 h;have:=zll p n (d::t) o2 (by simp at hn ⊢;omega) (by rw[List.all_cons,ji];exact hs.2) h2;rw[List.all_cons,ji];exact ⟨hs.1,this⟩
theorem z1p {s:zaa} (h:(unqB s).2=0):txtE (unqB s).1=0:=by
 unfold unqB at h ⊢;split
 ·rename_i hc;rw[jb hc] at h;simp at h
 rename_i hc;rw[ja hc] at h;split
 ·rename_i hx;rw[hx] at h;simp at h
 rename_i o hx;rw[hx] at h;simp only at h ⊢;split
 ·rename_i hl;rw[jb hl] at h;simp at h
 rename_i hl;unfold txtE;rw[ja hl,jb];refine zqv _ (zll _ _ _ _ jy ?_ hx);have hp:pltB s=true:=by rw[not_or,not_or,not_or] at hc;simpa using hc.2.2.2
 unfold pltB at hp;rw[List.all_eq_true] at hp ⊢;intro c hcm;exact hp c (List.mem_of_mem_drop (List.mem_of_mem_take hcm))
theorem zp8 {s:zaa} (h:(parA s).2=0):za6 (parA s).1.col (parA s).1.row=true:=by
 unfold parA at h ⊢;split
 ·rename_i hc;rw[jb hc] at h;simp at h
 rename_i hc;rw[ja hc] at h;split
 ·assumption
 rename_i hv;rw[ja hv] at h;simp at h
theorem rct_of (h:1<=c1/\c1<=c2/\c2<=1024/\1<=r1/\r1<=r2/\r2<=1024):rctB ⟨c1,r1,c2,r2⟩=true:=by
 simp only[rctB,za6,ji,decide_eq_true_eq];omega
theorem zwr {a b:Ref} (ha:za6 a.col a.row=true) (hb:za6 b.col b.row=true):rctB (zoe a b)=true:=by
 simp only[za6,ji,decide_eq_true_eq] at ha hb;exact rct_of (by omega)
theorem zre (a b:Ref):zgs (zoe a b)=decide (a=b):=by
 obtain ⟨a1,a2⟩:=a;obtain ⟨b1,b2⟩:=b;have e1:min a1 b1=max a1 b1↔a1=b1:=by omega
 have e2:min a2 b2=max a2 b2↔a2=b2:=by omega
 show (decide (min a1 b1=max a1 b1)&&decide (min a2 b2=max a2 b2))=_;rw[show decide (min a1 b1=max a1 b1)=decide (a1=b1) from decide_eq_decide.2 e1,show decide (min a2 b2=max a2 b2)=decide (a2=b2) from decide_eq_decide.2 e2,Bool.eq_iff_iff];simp only[ji,decide_eq_true_eq,Ref.mk.injEq]
theorem z3b (s:zaa) (i n:Nat) (h:lenB digB s i≠0) (hn:0<n):negB ((s.drop i).take n)=false:=by
 unfold lenB at h;unfold negB
 cases hd:s.drop i with
 | nil=>rw[hd] at h;simp at h
 | cons c t=>
  rw[hd] at h;obtain ⟨n,rfl⟩:∃m,n=m+1:=⟨n-1,by omega⟩;rw[jr,List.head?_cons];have hc:digB c=true:=by
   cases hq:digB c;rotate_left
   ·rfl
   rw[List.takeWhile_cons,hq] at h;simp at h
  have:c≠45:=by rintro rfl;simp[digB] at hc
  simpa using this
theorem z14 (s:zaa) (i:Nat) (h:(zc4 s i).2≠0):TokOk (zc4 s i).1:=by
 unfold zc4 at h ⊢;split
 ·rename_i hp;clear h;unfold zaq at hp ⊢;split
  ·rename_i hc;rw[jb hc] at hp;simp at hp
  rename_i hc;rw[ja hc] at hp;split
  ·rename_i hc2;rw[jb hc2] at hp;simp at hp
  rename_i hc2;rw[ja hc2] at hp;split
  ·rename_i hc3;rw[jb hc3] at hp;simp at hp
  rename_i hc3;rw[ja hc3] at hp;exact TokOk.num _ _ (zs4 (z3b s i _ hc hp))
 rename_i hn;rw[ja hn] at h;split
 ·rename_i hp;clear h;unfold zdk at hp ⊢;split
  ·rename_i hc;rw[jb hc] at hp;simp at hp
  rename_i hc;rw[ja hc] at hp;split
  ·rename_i hx;rw[hx] at hp;simp at hp
  rename_i k hx;rw[hx] at hp;simp only at hp ⊢;split
  ·rename_i hc2;rw[jb hc2] at hp;simp at hp
  rename_i hc2;exact TokOk.text _ _ (z1p (by simpa using hc2))
 rename_i hn2;rw[ja hn2] at h;split
 ·rename_i hp;clear h;unfold zbq at hp ⊢;split
  ·rename_i hc;rw[jb hc] at hp;simp at hp
  rename_i hc;rw[ja hc] at hp;split
  ·exact TokOk.name _ _
  split
  ·exact TokOk.bool _ _ (.inr rfl)
  split
  ·exact TokOk.bool _ _ (.inl rfl)
  split
  ·rename_i h1 h2 h3 h4;rw[ja h1,ja h2,ja h3,jb h4] at hp;simp at hp
  rename_i h4;have hv:=zp8 (by simpa using h4);split
  ·rename_i h5;unfold twoB at h5;simp only[ji,decide_eq_true_eq] at h5;have hv2:=zp8 h5.1.2;split
   ·rename_i he;exact TokOk.ref _ _ (zwr hv hv2) (by rw[zre];simpa using he)
   rename_i he;exact TokOk.range _ _ (zwr hv hv2) (by rw[zre];simpa using he)
  refine TokOk.ref _ _ ?_ (by simp[zgs]);simp[rctB,hv]
 rename_i hn3;rw[ja hn3] at h;split
 ·rename_i hp;clear h;unfold zdo at hp ⊢;have:∀(l:List zaa) (c:Int),1<=c->c+l.length<=6->0<(zd0 s i c l).2->TokOk (zd0 s i c l).1:=by
   intro l
   induction l with
   | nil=>intro c _ _ h;simp[zd0] at h
   | cons x l ih=>
    intro c hc hl h;unfold zd0 at h ⊢;split
    ·exact TokOk.err _ _ hc (by simp at hl;omega)
    rename_i hx;rw[ja hx] at h;exact ih (c+1) (by omega) (by simp at hl;omega) h
  exact this _ 1 (by omega) (by decide) hp
 rename_i hn4;rw[ja hn4] at h;unfold zdl at h ⊢;split
 ·rename_i r hr;have:∀(l:List (zaa × Int)),(∀q∈l,1<=q.2/\q.2<=13)->opsL s i l=some r->TokOk r.1:=by
   intro l
   induction l with
   | nil=>intro _ h;simp[opsL] at h
   | cons x l ih=>
    intro hb h;obtain ⟨x,n⟩:=x;unfold opsL at h;split at h
    ·cases h;have:=hb (x,n) (by simp);exact TokOk.op _ _ this.1 this.2
    exact ih (λq hq=>hb q (by simp[hq])) h
  exact this opsW (by decide) hr
 rename_i hr;rw[hr] at h;simp only at h;split
 ·exact TokOk.sign 9 _ (by omega)
 split
 ·exact TokOk.sign 10 _ (by omega)
 split
 ·exact TokOk.sign 11 _ (by omega)
 rename_i h1 h2 h3;rw[ja h1,ja h2,ja h3] at h;simp at h
theorem zlo (s:zaa):∀(f i:Nat) (l:List Tok),ze0 s f i=some l->∀t∈l,TokOk t
 | 0,i,l,h=>by simp[ze0] at h
 | f+1,i,l,h=>by
  unfold ze0 at h;split at h
  ·cases h;intro t ht;simp at ht
  split at h
  ·exact zlo s f _ l h
  split at h
  ·cases h
  rename_i hr;obtain ⟨l2,h2,rfl⟩:=Option.map_eq_some_iff.1 h;intro t ht;rcases List.mem_cons.1 ht with rfl | ht
  ·exact z14 s i hr
  exact zlo s f _ l2 h2 t ht
theorem zud (s:zaa):∀t∈(zaf s).1,TokOk t:=by
 unfold zaf;split
 ·intro t h;simp at h
 split
 ·intro t h;simp at h
 split
 ·intro t h;simp at h
 rename_i l hl;exact zlo s _ _ l hl
structure POk (st:PSt):Prop where
 toks:∀t∈st.1,TokOk t
 nods:∀n∈st.2,NodOk n
theorem POk.skip (h:POk st):POk (zap st):=⟨λt ht=>h.toks t (List.mem_of_mem_tail ht),h.nods⟩
theorem POk.put {n:Nod} (h:POk st) (hn:NodOk n):POk (putS n st):=⟨h.toks,λm hm=>by
 unfold putS at hm;rcases List.mem_append.1 hm with hm | hm
 ·exact h.nods m hm
 simp at hm;subst hm;exact hn⟩
theorem POk.head (h:POk st) (hk:(zak e st).kind≠0):TokOk (zak e st):=by
 have hne:=ze2 hk;unfold zak at hk ⊢
 cases hl:st.1 with
 | nil=>exact absurd hl hne
 | cons t l=>rw[List.head?_cons,Option.getD_some];exact h.toks t (by rw[hl];simp)
theorem z1u (h:TokOk t) (hk:t.kind=1):0<=t.num:=by cases h <;> simp_all <;> omega
theorem zx9 (h:TokOk t) (hk:t.kind=2):txtE t.text=0:=by cases h <;> simp_all <;> omega
theorem zya (h:TokOk t) (hk:t.kind=3):t.num=0\/t.num=1:=by cases h <;> simp_all <;> omega
theorem zug (h:TokOk t) (hk:t.kind=4):1<=t.num/\t.num<=5:=by cases h <;> simp_all <;> omega
theorem zuf (h:TokOk t) (hk:t.kind=5):rctB t.rect=true/\zgs t.rect=true:=by cases h <;> simp_all <;> omega
theorem zm7 (h:TokOk t) (hk:t.kind=6):rctB t.rect=true/\zgs t.rect=false:=by cases h <;> simp_all <;> omega
def stgOk:Stg->Prop
 | .level k=>k<=4
 | .loop k=>1<=k/\k<=4
 | .args _ fn _=>1<=fn/\fn<=50
 | _=>True
theorem z0t (h:zb4 op=k) (h1:1<=k) (h4:k<=4):1<=op/\op<=12:=by
 unfold zb4 at h
 repeat' split at h
 all_goals omega
theorem z1a (s:zaa) (h:fnOf s≠0):1<=fnOf s/\fnOf s<=50:=by
 unfold fnOf at h ⊢;split
 ·rename_i hc;have:=List.idxOf_lt_length_of_mem (l:=zbo) (a:=s) (by simpa using hc);have e:zbo.length=50:=rfl;omega
 rename_i hc;rw[ja hc] at h;simp at h
theorem zrs (h1:1<=fn) (h2:fn<=50) (hp:POk st) (h:ze3 e name fn n st=.ok st'):POk st':=by
 unfold ze3 at h;split at h
 ·cases h
 split at h
 ·cases h
 rename_i ha;split at h
 ·cases h
 cases h;exact hp.skip.put (NodOk.call fn n h1 h2 (by omega) (by omega))
theorem zp7 {k:Int} (hp:POk st) (h:ze4 e k st=.ok st'):POk st':=by
 unfold ze4 at h;split at h
 ·cases h
 cases h;exact hp.skip
theorem zdi (e:Int):∀(f:Nat) (g:Stg) (st st':PSt),stgOk g->(∀k,g=.level k->1<=k)->POk st->parS e f g st=.ok st'->POk st'
 | 0,g,st,st',_,_,_,h=>by cases g <;> simp[parS] at h
 | f+1,.level k,st,st',hg,hk1,hp,h=>by
  unfold parS at h;obtain ⟨s1,h1,h2⟩:=zav h;have k1:=hk1 k rfl;have hk4:k<=4:=hg;refine zdi e f (.loop k) s1 st' ⟨k1,hk4⟩ (λ_ e=>by cases e) (zdi e f _ st s1 ?_ ?_ hp h1) h2
  ·split
   ·show k+1<=4;omega
   trivial
  intro k' e;split at e
  ·cases e;omega
  cases e
 | f+1,.loop k,st,st',hg,_,hp,h=>by
  unfold parS at h;split at h
  ·cases h;exact hp
  rename_i hc;rw[not_or,Classical.not_not,Classical.not_not] at hc;obtain ⟨s1,h1,h2⟩:=zav h;have hb:=z0t hc.2 hg.1 hg.2;refine zdi e f (.loop k) _ st' hg (λ_ e=>by cases e) ((zdi e f _ _ s1 ?_ ?_ hp.skip h1).put (NodOk.binary _ hb.1 hb.2)) h2
  ·split
   ·show k+1<=4;omega
   trivial
  intro k' e;split at e
  ·cases e;omega
  cases e
 | f+1,.sign,st,st',_,_,hp,h=>by
  unfold parS at h;split at h
  ·obtain ⟨s1,h1,h2⟩:=zav h;cases h2;exact (zdi e f .sign _ _ trivial (λ_ e=>by cases e) hp.skip h1).put NodOk.neg
  obtain ⟨s1,h1,h2⟩:=zav h;have a:=zdi e f .pct _ _ trivial (λ_ e=>by cases e) hp h1;split at h2
  ·obtain ⟨s2,h3,h4⟩:=zav h2;cases h4;exact (zdi e f .sign _ _ trivial (λ_ e=>by cases e) a.skip h3).put (NodOk.binary 5 (by omega) (by omega))
  cases h2;exact a
 | f+1,.pct,st,st',_,_,hp,h=>by
  unfold parS at h;obtain ⟨s1,h1,h2⟩:=zav h;exact zdi e f .pctl _ _ trivial (λ_ e=>by cases e) (zdi e f .prim _ _ trivial (λ_ e=>by cases e) hp h1) h2
 | f+1,.pctl,st,st',_,_,hp,h=>by
  unfold parS at h;split at h
  ·exact zdi e f .pctl _ _ trivial (λ_ e=>by cases e) (hp.skip.put NodOk.pct) h
  cases h;exact hp
 | f+1,.prim,st,st',_,_,hp,h=>by
  unfold parS at h;simp only at h;split at h
  ·rename_i hk;cases h;exact hp.skip.put (NodOk.num _ (z1u (hp.head (by omega)) hk))
  split at h
  ·rename_i hk;cases h;exact hp.skip.put (NodOk.text _ (zx9 (hp.head (by omega)) hk))
  split at h
  ·rename_i hk;cases h;exact hp.skip.put (NodOk.bool _ (zya (hp.head (by omega)) hk))
  split at h
  ·rename_i hk;cases h;exact hp.skip.put (NodOk.err _ (zug (hp.head (by omega)) hk).1 (zug (hp.head (by omega)) hk).2)
  split at h
  ·rename_i hk;cases h;exact hp.skip.put (NodOk.ref _ (zuf (hp.head (by omega)) hk).1 (zuf (hp.head (by omega)) hk).2)
  split at h
  ·obtain ⟨s1,h1,h2⟩:=zav h;exact zp7 (zdi e f (.level 1) _ _ (show 1<=4 by omega) (λk e=>by cases e;omega) hp.skip h1) h2
  split at h
  ·exact zdi e f (.call _) _ _ trivial (λ_ e=>by cases e) hp h
  cases h
 | f+1,.call name,st,st',_,_,hp,h=>by
  unfold parS at h;split at h
  ·cases h
  rename_i hf;have hr:=z1a _ hf;obtain ⟨s1,h1,h2⟩:=zav h;have a:=zp7 hp.skip h1;split at h2
  ·exact zrs hr.1 hr.2 a h2
  exact zdi e f (.args _ _ _) _ _ hr (λ_ e=>by cases e) a h2
 | f+1,.args name fn n,st,st',hg,_,hp,h=>by
  unfold parS at h;obtain ⟨s1,h1,h2⟩:=zav h;have a:=zdi e f (.arg fn n) _ _ trivial (λ_ e=>by cases e) hp h1;split at h2
  ·exact zdi e f (.args _ _ _) _ _ (show 1<=fn/\fn<=50 from hg) (λ_ e=>by cases e) a.skip h2
  exact zrs hg.1 hg.2 a h2
 | f+1,.arg fn n,st,st',_,_,hp,h=>by
  unfold parS at h;split at h
  ·exact zdi e f (.level 1) _ _ (show 1<=4 by omega) (λk e=>by cases e;omega) hp h
  rename_i hk;split at h
  ·cases h
  cases h;have hk6:(zak e st).kind=6:=by omega
  exact hp.skip.put (NodOk.range _ (zm7 (hp.head (by omega)) hk6).1 (zm7 (hp.head (by omega)) hk6).2)
theorem zhb (fn:Nat) (W:World):Calls prog 328 #[.int .u8 fn] W λu W'=>u=.returned (.bool (relB fn))/\W=W':=by
 by_cases h1:46<=fn
 ·have a1:(46:Int)<=(fn:Int):=by omega
  by_cases h2:fn<=50
  ·have a2:(fn:Int)<=50:=by omega
   have HE:=jM (relB fn=true) (by unfold relB;simp;omega);go_enter func328,ntmps328;go_wp2;go_ret;exact ⟨by rw[HE.o];rfl,rfl⟩
  have a2:¬(fn:Int)<=50:=by omega
  have HE:=jM (relB fn=false) (by unfold relB;simp;omega);go_enter func328,ntmps328;go_wp2;go_ret;exact ⟨by rw[HE.o];rfl,rfl⟩
 have a1:¬(46:Int)<=(fn:Int):=by omega
 have HE:=jM (relB fn=false) (by unfold relB;simp;omega);go_enter func328,ntmps328;go_wp2;go_ret;exact ⟨by rw[HE.o];rfl,rfl⟩
theorem zi1 (fn:Nat) (h1:1<=fn) (h2:fn<=50):(zao fn).2.2=0:=by
 unfold zao
 repeat' split
 all_goals first | rfl | omega
theorem zt6 (fn i:Int) (ha:(zao fn).2.2=0) (h0:0<=i) (h:i<(zao fn).2.1):
 zcm fn i=if fn=9\/fn=10\/fn=11\/fn=12\/fn=14\/fn=15\/fn=16\/fn=17 then (true,0)
 else if fn=44 then (decide (i=1),0)
 else if fn=18\/fn=19\/fn=45\/fn=43\/fn=13 then (decide (i=0),0)
 else (relB fn,0):=by
 unfold zcm;rw[ja (by simpa using ha),jS]
theorem zt7 (fn i:Int) (ha:(zao fn).2.2=0) (h:(zao fn).2.1<=i):zcm fn i=(false,3):=by
 unfold zcm;rw[ja (by simpa using ha),jb (.inr h)]
theorem zm4 (fn i:Nat) (h1:1<=fn) (h2:fn<=50) (hi:i<=2000) (W:World):
 Calls prog 327 #[.int .u8 fn,.int .i64 i] W λu W'=>u=.returned (.tuple #[.bool (zcm fn i).1,.int .i64 (zcm fn i).2])/\W=W':=by
 have ha:=zi1 fn h1 h2;have HA:=Hd (zf9 fn h1 h2 W);have i0:(0:Int)<=(i:Int):=by omega
 have HL:=Hd (zt6 fn i ha i0);have HG:=Hd (zt7 fn i ha);rw[ha] at HA;clear ha;generalize zcm fn i=w at HL HG ⊢;generalize (zao fn).1=m0 at *;generalize (zao fn).2.1=m1 at *;by_cases hm:(i:Int)<m1;rotate_left
 ·have HE:=Hd (HG.o (by omega));clear HL HG;have hm':m1<=(i:Int):=by omega
  go_enter func327,ntmps327;go_wp2_with fail;refine HA.o.mono ?_;rintro u w1 ⟨rfl,rfl⟩;go_wp2;go_ret2;exact ⟨by rw[HE.o];rfl,rfl⟩
 have HE:=Hd (HL.o hm);clear HL HG;have hm':¬m1<=(i:Int):=by omega
 by_cases c9:fn=9
 ·subst c9;have HE2:=Hd (HE.o.trans (by simp;rfl));clear HE;go_enter func327,ntmps327;go_wp2_with fail;refine HA.o.mono ?_;rintro u w1 ⟨rfl,rfl⟩;go_wp2;go_ret2;exact ⟨by rw[HE2.o];rfl,rfl⟩
 by_cases c10:fn=10
 ·subst c10;have HE2:=Hd (HE.o.trans (by simp;rfl));clear HE;go_enter func327,ntmps327;go_wp2_with fail;refine HA.o.mono ?_;rintro u w1 ⟨rfl,rfl⟩;go_wp2;go_ret2;exact ⟨by rw[HE2.o];rfl,rfl⟩
 by_cases c11:fn=11
 ·subst c11;have HE2:=Hd (HE.o.trans (by simp;rfl));clear HE;go_enter func327,ntmps327;go_wp2_with fail;refine HA.o.mono ?_;rintro u w1 ⟨rfl,rfl⟩;go_wp2;go_ret2;exact ⟨by rw[HE2.o];rfl,rfl⟩
 by_cases c12:fn=12
 ·subst c12;have HE2:=Hd (HE.o.trans (by simp;rfl));clear HE;go_enter func327,ntmps327;go_wp2_with fail;refine HA.o.mono ?_;rintro u w1 ⟨rfl,rfl⟩;go_wp2;go_ret2;exact ⟨by rw[HE2.o];rfl,rfl⟩
 by_cases c14:fn=14
 ·subst c14;have HE2:=Hd (HE.o.trans (by simp;rfl));clear HE;go_enter func327,ntmps327;go_wp2_with fail;refine HA.o.mono ?_;rintro u w1 ⟨rfl,rfl⟩;go_wp2;go_ret2;exact ⟨by rw[HE2.o];rfl,rfl⟩
 by_cases c15:fn=15
 ·subst c15;have HE2:=Hd (HE.o.trans (by simp;rfl));clear HE;go_enter func327,ntmps327;go_wp2_with fail;refine HA.o.mono ?_;rintro u w1 ⟨rfl,rfl⟩;go_wp2;go_ret2;exact ⟨by rw[HE2.o];rfl,rfl⟩
 by_cases c16:fn=16
 ·subst c16;have HE2:=Hd (HE.o.trans (by simp;rfl));clear HE;go_enter func327,ntmps327;go_wp2_with fail;refine HA.o.mono ?_;rintro u w1 ⟨rfl,rfl⟩;go_wp2;go_ret2;exact ⟨by rw[HE2.o];rfl,rfl⟩
 by_cases c17:fn=17
 ·subst c17;have HE2:=Hd (HE.o.trans (by simp;rfl));clear HE;go_enter func327,ntmps327;go_wp2_with fail;refine HA.o.mono ?_;rintro u w1 ⟨rfl,rfl⟩;go_wp2;go_ret2;exact ⟨by rw[HE2.o];rfl,rfl⟩
 by_cases c44:fn=44
 ·subst c44;have HE2:=Hd (HE.o.trans (by simp;rfl));clear HE;go_enter func327,ntmps327;go_wp2_with fail;refine HA.o.mono ?_;rintro u w1 ⟨rfl,rfl⟩;go_wp2;go_ret2;exact ⟨by rw[HE2.o];rfl,rfl⟩
 by_cases c18:fn=18
 ·subst c18;have HE2:=Hd (HE.o.trans (show _=(decide ((i:Int)=0),(0:Int)) by simp));clear HE;go_enter func327,ntmps327;go_wp2_with fail;refine HA.o.mono ?_;rintro u w1 ⟨rfl,rfl⟩;go_wp2;go_ret2;exact ⟨by rw[HE2.o];rfl,rfl⟩
 by_cases c19:fn=19
 ·subst c19;have HE2:=Hd (HE.o.trans (show _=(decide ((i:Int)=0),(0:Int)) by simp));clear HE;go_enter func327,ntmps327;go_wp2_with fail;refine HA.o.mono ?_;rintro u w1 ⟨rfl,rfl⟩;go_wp2;go_ret2;exact ⟨by rw[HE2.o];rfl,rfl⟩
 by_cases c45:fn=45
 ·subst c45;have HE2:=Hd (HE.o.trans (show _=(decide ((i:Int)=0),(0:Int)) by simp));clear HE;go_enter func327,ntmps327;go_wp2_with fail;refine HA.o.mono ?_;rintro u w1 ⟨rfl,rfl⟩;go_wp2;go_ret2;exact ⟨by rw[HE2.o];rfl,rfl⟩
 by_cases c43:fn=43
 ·subst c43;have HE2:=Hd (HE.o.trans (show _=(decide ((i:Int)=0),(0:Int)) by simp));clear HE;go_enter func327,ntmps327;go_wp2_with fail;refine HA.o.mono ?_;rintro u w1 ⟨rfl,rfl⟩;go_wp2;go_ret2;exact ⟨by rw[HE2.o];rfl,rfl⟩
 by_cases c13:fn=13
 ·subst c13;have HE2:=Hd (HE.o.trans (show _=(decide ((i:Int)=0),(0:Int)) by simp));clear HE;go_enter func327,ntmps327;go_wp2_with fail;refine HA.o.mono ?_;rintro u w1 ⟨rfl,rfl⟩;go_wp2;go_ret2;exact ⟨by rw[HE2.o];rfl,rfl⟩
 have HE2:=Hd (HE.o.trans (show _=(relB fn,(0:Int)) by rw[jS,jS,jS]));clear HE;have b9:((fn:Int)==9)=false:=by simp;omega
 have b10:((fn:Int)==10)=false:=by simp;omega
 have b11:((fn:Int)==11)=false:=by simp;omega
 have b12:((fn:Int)==12)=false:=by simp;omega
 have b14:((fn:Int)==14)=false:=by simp;omega
 have b15:((fn:Int)==15)=false:=by simp;omega
 have b16:((fn:Int)==16)=false:=by simp;omega
 have b17:((fn:Int)==17)=false:=by simp;omega
 have b44:((fn:Int)==44)=false:=by simp;omega
 have b18:((fn:Int)==18)=false:=by simp;omega
 have b19:((fn:Int)==19)=false:=by simp;omega
 have b45:((fn:Int)==45)=false:=by simp;omega
 have b43:((fn:Int)==43)=false:=by simp;omega
 have b13:((fn:Int)==13)=false:=by simp;omega
 clear c9 c10 c11 c12 c14 c15 c16 c17 c44 c18 c19 c45 c43 c13;go_enter func327,ntmps327;go_wp2_with fail;refine HA.o.mono ?_;rintro u w1 ⟨rfl,rfl⟩;go_wp2_with fail;refine (zhb fn _).mono ?_;rintro u w2 ⟨rfl,rfl⟩;go_wp2;go_ret2;exact ⟨by rw[HE2.o];rfl,rfl⟩
theorem zno (a b c d:Int) (w:World):
 Calls prog 198 #[.agg #[.int .i64 a,.int .i64 b,.int .i64 c,.int .i64 d]] w λe w'=>e=.returned (.tuple #[.agg #[.int .i64 a,.int .i64 b],.agg #[.int .i64 c,.int .i64 d]])/\Below w w w':=by
 go_enter func198,ntmps198;go_wp2
 go_region
 go_wp2;go_returns;exact ⟨rfl,by go_grown⟩
def rctE (x:Rct):Int:=if rctB x then 0 else 3
theorem zqt (h:za6 a b=false):rctE ⟨a,b,c,d⟩=3:=by simp[rctE,rctB,h]
theorem zqs (h:za6 c d=false):rctE ⟨a,b,c,d⟩=3:=by simp[rctE,rctB,h]
theorem zqr (h:c<a):rctE ⟨a,b,c,d⟩=3:=by simp[rctE,rctB];omega
theorem zqq (h:d<b):rctE ⟨a,b,c,d⟩=3:=by simp[rctE,rctB];omega
theorem zqp (h1:za6 a b=true) (h2:za6 c d=true) (h3:¬c<a) (h4:¬d<b):rctE ⟨a,b,c,d⟩=0:=by simp[rctE,rctB,h1,h2];omega
theorem zdm (a b c d:Int) (w:World):
 Calls prog 172 #[.agg #[.int .i64 a,.int .i64 b,.int .i64 c,.int .i64 d]] w λe w'=>e=.returned (.int .i64 (rctE ⟨a,b,c,d⟩))/\Below w w w':=by
 go_enter func172,ntmps172;go_wp2_with fail;refine (zno a b c d _).mono ?_;rintro e w1 ⟨rfl,hb1⟩;have hz1:=hb1.size
 try simp at hz1
 have hB1:Below w w w1:=nxt hb1;obtain ⟨hc1_0,hl1_0,hm1_0,hn1_0,ho1_0,hf1_0⟩:=oldB (g:=w) hb1;go_wp2_with fail;refine (zfi a b _).mono ?_;rintro e w2 ⟨rfl,hb2⟩;have hz2:=hb2.size
 try simp at hz2
 have hB2:Below w w w2:=nxt hb2;obtain ⟨hc2_0,hl2_0,hm2_0,hn2_0,ho2_0,hf2_0⟩:=oldB (g:=w) hb2;obtain ⟨hc2_1,hl2_1,hm2_1,hn2_1,ho2_1,hf2_1⟩:=oldB (g:=w1) hb2;obtain ⟨hc2_2,hl2_2,hm2_2,hn2_2,ho2_2,hf2_2⟩:=oldB (g:=w1.heap.size+1) hb2;cases h1:za6 a b
 ·have H:=Hd (zqt (c:=c) (d:=d) h1);go_wp2;go_ret;exact ⟨by rw[H.o];rfl,by go_grown⟩
 skip
 go_wp2_with fail;refine (zfi c d _).mono ?_;rintro e w3 ⟨rfl,hb3⟩;have hz3:=hb3.size
 try simp at hz3
 have hB3:Below w w w3:=nxt hb3;obtain ⟨hc3_0,hl3_0,hm3_0,hn3_0,ho3_0,hf3_0⟩:=oldB (g:=w) hb3;cases h2:za6 c d
 ·have H:=Hd (zqs (a:=a) (b:=b) h2);go_wp2;go_ret;exact ⟨by rw[H.o];rfl,by go_grown⟩
 by_cases h3:c<a
 ·have H:=Hd (zqr (b:=b) (d:=d) h3);go_wp2;go_ret;exact ⟨by rw[H.o];rfl,by go_grown⟩
 by_cases h4:d<b
 ·have H:=Hd (zqq (a:=a) (c:=c) h4);go_wp2;go_ret;exact ⟨by rw[H.o];rfl,by go_grown⟩
 have H:=Hd (zqp h1 h2 h3 h4);go_wp2;go_ret;exact ⟨by rw[H.o];rfl,by go_grown⟩
theorem znr (a b c d:Int) (w:World):
 Calls prog 188 #[.agg #[.int .i64 a,.int .i64 b,.int .i64 c,.int .i64 d]] w λe w'=>e=.returned (.int .i64 (rctE ⟨a,b,c,d⟩))/\Below w w w':=by
 go_enter func188,ntmps188;go_wp2_with fail;refine (zzc a b c d _).mono ?_;rintro e w1 ⟨rfl,hb1⟩;have hz1:=hb1.size
 try simp at hz1
 have hB1:Below w w w1:=nxt hb1;obtain ⟨hc1_0,hl1_0,hm1_0,hn1_0,ho1_0,hf1_0⟩:=oldB (g:=w) hb1;go_wp2_with fail;refine (zjj a b _).mono ?_;rintro e w2 ⟨rfl,hb2⟩;have hz2:=hb2.size
 try simp at hz2
 have hB2:Below w w w2:=nxt hb2;obtain ⟨hc2_0,hl2_0,hm2_0,hn2_0,ho2_0,hf2_0⟩:=oldB (g:=w) hb2;cases h1:za6 a b
 ·have H:=Hd (zqt (c:=c) (d:=d) h1);go_wp2;go_ret;exact ⟨by rw[H.o];rfl,by go_grown⟩
 skip
 go_wp2_with fail;refine (r03_to a b c d _).mono ?_;rintro e w3 ⟨rfl,hb3⟩;have hz3:=hb3.size
 try simp at hz3
 have hB3:Below w w w3:=nxt hb3;obtain ⟨hc3_0,hl3_0,hm3_0,hn3_0,ho3_0,hf3_0⟩:=oldB (g:=w) hb3;go_wp2_with fail;refine (zjj c d _).mono ?_;rintro e w4 ⟨rfl,hb4⟩;have hz4:=hb4.size
 try simp at hz4
 have hB4:Below w w w4:=nxt hb4;obtain ⟨hc4_0,hl4_0,hm4_0,hn4_0,ho4_0,hf4_0⟩:=oldB (g:=w) hb4;cases h2:za6 c d
 ·have H:=Hd (zqs (a:=a) (b:=b) h2);go_wp2;go_ret;exact ⟨by rw[H.o];rfl,by go_grown⟩
 by_cases h3:c<a
 ·have H:=Hd (zqr (b:=b) (d:=d) h3);go_wp2;go_ret;exact ⟨by rw[H.o];rfl,by go_grown⟩
 by_cases h4:d<b
 ·have H:=Hd (zqq (a:=a) (c:=c) h4);go_wp2;go_ret;exact ⟨by rw[H.o];rfl,by go_grown⟩
 have H:=Hd (zqp h1 h2 h3 h4);go_wp2;go_ret;exact ⟨by rw[H.o];rfl,by go_grown⟩
def zbg:Stg->Nat->Nat
 | .level k,m=>10*m+2*(5-k)+3
 | .loop k,m=>10*m+2*(5-k)+2
 | .sign,m=>10*m+4
 | .pct,m=>10*m+3
 | .pctl,m=>10*m+2
 | .prim,m=>10*m+2
 | .call _,m=>10*m+1
 | .args _ _ _,m=>10*m+13
 | .arg _ _,m=>10*m+12
def RunS (fn:Nat) (args:Nat->Array Value) (e:Int) (f:Nat) (g:Stg):Prop:=
 ∀(p:Nat) (ov:Value) (st:PSt) (W:World),PA W p e ov st->st.1.length+st.2.length<=2000->zbg g st.1.length<=f->Calls prog fn (args p) W (Went p e W ov (parS e f g st))
def one1 (p:Nat):Array Value:=#[.pointer (some (p,0))]
theorem zaz {r:PRes} (h:Went p e W ov r u W'):
 (∃st' ov',r=.ok st'/\u=.returned (.tuple #[])/\PA W' p e ov' st'/\PTo p W ov W' ov')\/(∃a er,r=.error (a,er)/\u=flt a er/\Below p W W'):=by
 unfold Went at h
 cases r with
 | error x=>exact .inr ⟨x.1,x.2,rfl,h⟩
 | ok st'=>obtain ⟨h1,ov',h2,h3⟩:=h;exact .inl ⟨st',ov',rfl,h1,h2,h3⟩
theorem z1x (e:Int) (f:Nat) (hs:RunS 284 one1 e f .sign) (hp:RunS 307 one1 e f .pct):
 RunS 284 one1 e (f+1) .sign:=by
 intro p ov st W h hn hf;have HS:=Hd hs;have HPC:=Hd hp;have HH:=Hd h;have hlt:=h.lt;simp only[zbg] at hf;have HR:Hid (parS e (f+1) .sign st=if zc3 e st 2 then thenS (parS e f .sign (zap st)) λst=>.ok (putS (nod0 4) st) else thenS (parS e f .pct st) λst=>if zc3 e st 5 then thenS (parS e f .sign (zap st)) λst=>.ok (putS { nod0 6 with op:=5 } st) else .ok st):=Hd rfl;generalize parS e (f+1) .sign st=R at HR ⊢;clear hs hp h;unfold one1;go_enter func284,ntmps284;go_wp2_with fail;refine (zvq p e ov st 2 _ HH.o (by omega)).mono ?_;rintro u w1 ⟨rfl,hb1⟩;have H1:=Hd (HH.o.below hb1);have T1:=Hd (PTo.below (PTo.refl p W ov) hb1);clear hb1;by_cases hi:zc3 e st 2=true
 ·have hpos:=zdb hi;have hne:st.1≠ []:=List.length_pos_iff.1 hpos;have HR2:=Hd (HR.o.trans (jb hi));rw[hi];clear hi HR;go_wp2_with fail;refine (zb5 p e ov st _ H1.o (by omega) hne).mono ?_;rintro u w2 ⟨rfl,ha,ht⟩;have H2:=Hd ha;have T2:=Hd (T1.o.trans ht);clear ha ht;go_wp2_with fail;refine (HS.o p ov (zap st) _ H2.o (by rw[zai,zah];omega) (by simp only[zbg,zai];omega)).mono ?_;intro u w3 hw;rcases zaz hw with ⟨s3,ov3,hr,rfl,ha,ht⟩ | ⟨a,er,hr,rfl,hb⟩
  ·have HL:=Hd (za4 e f .sign _ _ hr);have HR3:=jM (R=.ok (putS (nod0 4) s3)) (by rw[HR2.o,hr];rfl);have H3:=Hd ha;have T3:=Hd (T2.o.trans ht);clear ha ht hr hw;go_wp2_with fail;refine (zeg p e ov3 s3 (nod0 4) _ H3.o (by have:=HL.o;simp only[zai,zah,za0] at this;omega)).mono ?_;rintro u w4 ⟨rfl,ov4,ha,ht⟩;have H4:=Hd ha;have T4:=Hd (T3.o.trans ht);clear ha ht;go_wp2;refine bR ?_;exact zbn HR3.o H4.o T4.o
  have HR3:=jM (R=.error (a,er)) (by rw[HR2.o,hr];rfl);have HB3:=Hd ((T2.o.old' HH.o).trans hb);clear hr hw hb;unfold flt;go_wp2;exact ⟨rfl,zay HR3.o HB3.o⟩
 have hi':zc3 e st 2=false:=eq_false_of_ne_true hi;have HR2:=Hd (HR.o.trans (ja hi));rw[hi'];clear hi hi' HR;go_wp2_with fail;refine (HPC.o p ov st _ H1.o hn (by simp only[zbg];omega)).mono ?_;intro u w2 hw;rcases zaz hw with ⟨s2,ov2,hr,rfl,ha,ht⟩ | ⟨a,er,hr,rfl,hb⟩
 ·have HL2:=Hd (za4 e f .pct _ _ hr);have HR3:=jM (R=if zc3 e s2 5 then thenS (parS e f .sign (zap s2)) λst=>.ok (putS { nod0 6 with op:=5 } st) else .ok s2) (by rw[HR2.o,hr];rfl);have H2:=Hd ha;have T2:=Hd (T1.o.trans ht);clear ha ht hr hw HR2;go_wp2_with fail;refine (zvq p e ov2 s2 5 _ H2.o (by have:=HL2.o;omega)).mono ?_;rintro u w3 ⟨rfl,hb3⟩;have H3:=Hd (H2.o.below hb3);have T3:=Hd (PTo.below T2.o hb3);clear hb3;by_cases hi:zc3 e s2 5=true;rotate_left
  ·have hi':zc3 e s2 5=false:=eq_false_of_ne_true hi;have HR4:=Hd (HR3.o.trans (ja hi));rw[hi'];clear hi hi' HR3;go_wp2;refine bE ?_;exact zbn HR4.o H3.o T3.o
  have hpos:=zdb hi;have hne:s2.1≠ []:=List.length_pos_iff.1 hpos;have HR4:=Hd (HR3.o.trans (jb hi));rw[hi];clear hi HR3;go_wp2_with fail;refine (zb5 p e ov2 s2 _ H3.o (by have:=HL2.o;omega) hne).mono ?_;rintro u w4 ⟨rfl,ha,ht⟩;have H4:=Hd ha;have T4:=Hd (T3.o.trans ht);clear ha ht;go_wp2_with fail;refine (HS.o p ov2 (zap s2) _ H4.o (by have:=HL2.o;rw[zai,zah];omega) (by have:=HL2.o;simp only[zbg,zai,za0] at this ⊢;omega)).mono ?_;intro u w5 hw;rcases zaz hw with ⟨s5,ov5,hr,rfl,ha,ht⟩ | ⟨a,er,hr,rfl,hb⟩
  ·have HL:=Hd (za4 e f .sign _ _ hr);have HR5:=jM (R=.ok (putS { nod0 6 with op:=5 } s5)) (by rw[HR4.o,hr];rfl);have H5:=Hd ha;have T5:=Hd (T4.o.trans ht);clear ha ht hr hw;go_wp2_with fail;refine (zeg p e ov5 s5 { nod0 6 with op:=5 } _ H5.o (by have:=HL.o;have:=HL2.o;simp only[zai,zah,za0] at *;omega)).mono ?_;rintro u w6 ⟨rfl,ov6,ha,ht⟩;have H6:=Hd ha;have T6:=Hd (T5.o.trans ht);clear ha ht;go_wp2;refine bE ?_;exact zbn HR5.o H6.o T6.o
  have HR5:=jM (R=.error (a,er)) (by rw[HR4.o,hr];rfl);have HB5:=Hd ((T4.o.old' HH.o).trans hb);clear hr hw hb;unfold flt;go_wp2;exact ⟨rfl,zay HR5.o HB5.o⟩
 have HR3:=jM (R=.error (a,er)) (by rw[HR2.o,hr];rfl);have HB3:=Hd ((T1.o.old' HH.o).trans hb);clear hr hw hb;unfold flt;go_wp2;exact ⟨rfl,zay HR3.o HB3.o⟩
def zoz (inp:zaa) (K:Nat):Prop:=txtE inp=0->inp.length<=1000000->∀(W:World) (g:Nat),W.cell? (g,0)=some (str inp)->g<W.heap.size->Words W->
 Calls prog K #[.pointer (some (g,0))] W λu w'=>∃(k n:Int) (s:zaa) (b:Bool),u=.returned (.tuple #[.agg #[.int .u8 k,.int .i64 n,str s],.bool b])/\Below W W w'
theorem tryg_1 (inp:zaa):zoz inp 212:=by
 intro hp hl w g hc hg hw;clear hw hp;cases h0:(inp==([]:List UInt8));rotate_left
 ·go_enter func212,ntmps212;go_wp2
  go_region
  all_goals
   go_wp2;refine jO results212 (v:=.tuple #[.agg #[.int .u8 0,.int .i64 0,str []],.bool true]) ?_;exact ⟨_,_,_,_,rfl,by go_grown⟩
 go_enter func212,ntmps212;go_wp2
 go_region
 all_goals
  go_wp2;refine jO results212 (v:=.tuple #[.agg #[.int .u8 0,.int .i64 0,str []],.bool false]) ?_;exact ⟨_,_,_,_,rfl,by go_grown⟩
theorem tryg_2 (inp:zaa):zoz inp 213:=by
 intro hp hl w g hc hg hw;clear hw hp;go_enter func213,ntmps213;go_wp2_with fail;refine (zlc inp [39] _ hl (by decide)).mono ?_;rintro e w1 ⟨rfl,rfl⟩;generalize cutB inp [39]=x;generalize ([39]:zaa).isPrefixOf inp=y;go_wp2;refine jO results213 (v:=.tuple #[.agg #[.int .u8 3,.int .i64 0,str x],.bool y]) ?_;exact ⟨_,_,_,_,rfl,by go_grown⟩
theorem tryg_3 (inp:zaa):zoz inp 214:=by
 intro hp hl w g hc hg hw;clear hw;obtain ⟨k,m,hk⟩:=zia inp;have HK:=Hd hk;clear hk;go_enter func214,ntmps214;go_wp2_with fail;refine (zsd _ _ hp hl).mono ?_;rintro e w1 ⟨rfl,hb1⟩;have hz1:=hb1.size
 try simp at hz1
 have hB1:Below w w w1:=nxt hb1;obtain ⟨hc1_0,hl1_0,hm1_0,hn1_0,ho1_0,hf1_0⟩:=oldB (g:=w) hb1;rw[HK.o];go_wp2
 go_region
 all_goals
  go_wp2;refine jO results214 (v:=.tuple #[.agg #[.int .u8 k,.int .i64 m,str []],.bool (k==2)]) ?_ (by simp (maxDischargeDepth:=9) [jQ,go_sem,hc1_0,hl1_0]);exact ⟨_,_,_,_,rfl,by go_grown⟩
theorem tryg_4 (inp:zaa):zoz inp 216:=by
 intro hp hl w g hc hg hw;have HW:=Hd hw;clear hw hp;go_enter func216,ntmps216;go_wp2_with fail;refine (z0o inp _ hl (HW.o.below (by go_grown))).mono ?_;rintro e w1 ⟨c,m,rfl,hb1⟩;have hz1:=hb1.size;simp at hz1;have hc1:∀o,w1.cell? ⟨w.heap.size,o,none⟩=_:=λo=>hb1.cell (p:=⟨w.heap.size,o,none⟩) (by simp);have hf1:∀o,w1.frozen? ⟨w.heap.size,o,none⟩=_:=λo=>hb1.frozen (p:=⟨w.heap.size,o,none⟩) (by simp);have HB1:=jM (Below w w w1) (nxt hb1);clear hb1;go_wp2_with fail;refine (zro c _).mono ?_;rintro e w2 ⟨q,rfl,hb2⟩;have hz2:=hb2.size;have hc2:∀o,w2.cell? ⟨w.heap.size,o,none⟩=_:=λo=>(hb2.cell (p:=⟨w.heap.size,o,none⟩) (by simp;omega)).trans (hc1 o);have hf2:∀o,w2.frozen? ⟨w.heap.size,o,none⟩=_:=λo=>(hb2.frozen (p:=⟨w.heap.size,o,none⟩) (by simp;omega)).trans (hf1 o);have HB2:=jM (Below w w w2) (jd HB1.o hb2 HB1.o.size);have hl2:w.heap.size<w2.heap.size:=by omega
 clear hb2 hc1 hf1;go_wp2
 ·skip
  refine jO results216 (v:=.tuple #[.agg #[.int .u8 4,.int .i64 q,str []],.bool (decide (c<=5))]) ?_ (by simp (maxDischargeDepth:=9) [jQ,go_sem,hc2]);exact ⟨_,_,_,_,rfl,jc (jc (jc HB2.o jy _) jy _) jy _⟩
 skip
 refine jO results216 (v:=.tuple #[.agg #[.int .u8 4,.int .i64 q,str []],.bool false]) ?_ (by simp (maxDischargeDepth:=9) [jQ,go_sem,hc2]);exact ⟨_,_,_,_,rfl,jc (jc (jc HB2.o jy _) jy _) jy _⟩
theorem zvo (s:zaa):(zbf s).1≠ -9223372036854775808:=by
 unfold zbf;split
 ·simp
 split
 ·simp
 split
 ·simp
 rename_i h;unfold zc2 at h;split <;> simp only <;> omega
theorem tryg_5 (inp:zaa):zoz inp 219:=by
 intro hp hl w g hc hg hw;clear hw hp;have hne:=zvo inp;by_cases h3:(zbf inp).2=3
 ·skip
  go_enter func219,ntmps219;go_wp2_with fail;refine (zgm inp _ hl).mono ?_;rintro e w1 ⟨rfl,hb1⟩;have hz1:=hb1.size
  try simp at hz1
  have hB1:Below w w w1:=nxt hb1;obtain ⟨hc1_0,hl1_0,hm1_0,hn1_0,ho1_0,hf1_0⟩:=oldB (g:=w) hb1;have t3:((zbf inp).2==3)=true:=by simpa using h3
  go_wp2_with fail;refine (zro 3 _).mono ?_;rintro e w2 ⟨q,rfl,hb2⟩;have hz2:=hb2.size;have HB2:=jM (Below w w w2) (jd hB1 hb2 hB1.size);have hc2:∀o,w2.cell? ⟨w.heap.size,o,none⟩=_:=λo=>(hb2.cell (p:=⟨w.heap.size,o,none⟩) (by omega)).trans (hc1_0 o);have hf2:∀o,w2.frozen? ⟨w.heap.size,o,none⟩=_:=λo=>(hb2.frozen (p:=⟨w.heap.size,o,none⟩) (by omega)).trans (hf1_0 o);have hl2:w.heap.size<w2.heap.size:=by omega
  clear hb2;go_wp2;refine jO results219 (v:=.tuple #[.agg #[.int .u8 4,.int .i64 q,str []],.bool true]) ?_ (by simp (maxDischargeDepth:=9) [jQ,go_sem,hc2]);exact ⟨_,_,_,_,rfl,jc (jc (jc HB2.o jy _) jy _) jy _⟩
 skip
 go_enter func219,ntmps219;go_wp2_with fail;refine (zgm inp _ hl).mono ?_;rintro e w1 ⟨rfl,hb1⟩;have hz1:=hb1.size
 try simp at hz1
 have hB1:Below w w w1:=nxt hb1;obtain ⟨hc1_0,hl1_0,hm1_0,hn1_0,ho1_0,hf1_0⟩:=oldB (g:=w) hb1;have t3:((zbf inp).2==3)=false:=by simpa using h3
 generalize (zbf inp).1=pn at *;generalize (zbf inp).2=pe at *;go_wp2_with fail;refine (zzs pn _ hne).mono ?_;rintro e w2 ⟨rfl,hb2⟩;have hz2:=hb2.size
 try simp at hz2
 have hB2:Below w w w2:=nxt hb2;obtain ⟨hc2_0,hl2_0,hm2_0,hn2_0,ho2_0,hf2_0⟩:=oldB (g:=w) hb2;cases t0:(pe==0)
 ·go_wp2;refine jO results219 (v:=.tuple #[.agg #[.int .u8 1,.int .i64 pn,str []],.bool false]) ?_ (by simp (maxDischargeDepth:=9) [jQ,go_sem,hc1_0,hc2_0]);exact ⟨_,_,_,_,rfl,by go_grown⟩
 go_wp2;refine jO results219 (v:=.tuple #[.agg #[.int .u8 1,.int .i64 pn,str []],.bool true]) ?_ (by simp (maxDischargeDepth:=9) [jQ,go_sem,hc1_0,hc2_0]);exact ⟨_,_,_,_,rfl,by go_grown⟩
end Go.Proofs.YtamcgggmfghljaaGreatDoor
