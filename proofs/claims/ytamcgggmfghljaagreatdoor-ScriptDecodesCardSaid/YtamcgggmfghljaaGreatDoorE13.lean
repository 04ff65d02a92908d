/- walk -/
import Derived.Laws.BitsLemmas
import Derived.Test.YtamcgggmfghljaaGreatDoorE12
set_option maxRecDepth 100000
set_option maxHeartbeats 8000000
open Go.Proofs.Tryz
namespace Go.Proofs.YtamcgggmfghljaaGreatDoor
open Go.RowKit
variable {a e er n op:Int} {fn g i k p:Nat} {o1 o2:Obj} {st st':PSt} {r r1 r2:Rd} {name:Tok} {t:TypeId} {lv ov ov' ov1 ov9:Value} {W W' W1 W2 W9:World}
def RdAt (W:World) (p:Nat) (r:Rd):Prop:=Blk W p 97 #[str r.1,.bool r.2]
structure RdTo (p:Nat) (W W':World) (r':Rd):Prop where
 blk:RdAt W' p r'
 chg:Chg (λk=>k=p) W W'
theorem RdTo.trans (h:RdTo p W W1 r1) (k:RdTo p W1 W2 r2):RdTo p W W2 r2:=⟨k.blk,h.chg.trans k.chg⟩
theorem RdAt.lt (h:RdAt W p r):p<W.heap.size:=Blk.lt h
theorem zhr (h:n<0\/(r.1.length:Int)<n):za2 n r=([],([],true)):=jb h
theorem zgq (h:k<=r.1.length):za2 k r=(r.1.take k,(r.1.drop k,r.2)):=by
 unfold za2;rw[jS];rfl
theorem zch (p:Nat) (n:Int) (r:Rd) (W:World) (h:RdAt W p r):
 Calls prog 145 #[(aA p),.int .i64 n] W λu W'=>u=.returned (str (za2 n r).1)/\RdTo p W W' (za2 n r).2:=by
 have HH:=Hd h;have c0:W.cell? (p,0)=some (str r.1):=Blk.cell h 0;have c1:W.cell? (p,1)=some (.bool r.2):=Blk.cell h 1;have f0:W.frozen? (p,0)=false:=Blk.frozen h 0;have f1:W.frozen? (p,1)=false:=Blk.frozen h 1;clear h;by_cases hb:n<0\/(r.1.length:Int)<n
 ·have HR:=Hd (zhr hb);by_cases hn:n<0
  ·clear hb;go_enter func145,ntmps145;go_wp2;go_ret;exact ⟨by rw[HR.o];rfl,by rw[HR.o];exact (Blk.set_ HH.o 1 _).set_ 0 _,((Chg.refl (λk=>k=p) _).setCell (p:=⟨p,1,none⟩) (.inl rfl) _).setCell (p:=⟨p,0,none⟩) (.inl rfl) _⟩
  have hl:(r.1.length:Int)<n:=hb.resolve_left hn;clear hb;go_enter func145,ntmps145;go_wp2;go_ret;exact ⟨by rw[HR.o];rfl,by rw[HR.o];exact (Blk.set_ HH.o 1 _).set_ 0 _,((Chg.refl (λk=>k=p) _).setCell (p:=⟨p,1,none⟩) (.inl rfl) _).setCell (p:=⟨p,0,none⟩) (.inl rfl) _⟩
 rw[not_or] at hb;obtain ⟨hn,hl⟩:=hb;obtain ⟨k,rfl⟩:∃k:Nat,n=k:=⟨n.toNat,by omega⟩;have HR:=Hd (zgq (k:=k) (r:=r) (by omega));have hl2:(k:Int)<=(r.1.length:Int):=by omega
 have hk0:(0:Int)<=(k:Int):=by omega
 go_enter func145,ntmps145;go_wp2;go_ret;rw[zj3,zev _ _ _ rfl];exact ⟨by rw[HR.o];rfl,by rw[HR.o];exact Blk.set_ HH.o 0 _,(Chg.refl (λk=>k=p) _).setCell (p:=⟨p,0,none⟩) (.inl rfl) _⟩
theorem zkz (x c:Nat) (hc:c<256):bits .or .u64 (((x*256 % 18446744073709551616:Nat)):Int) (c:Int)=((x*256+c) % 18446744073709551616:Nat):=by
 have ha:x*256 % 18446744073709551616 % 256=0:=by omega
 have hb:x*256 % 18446744073709551616<18446744073709551616:=Nat.mod_lt _ (by decide);have he:(x*256+c) % 18446744073709551616=x*256 % 18446744073709551616+c:=by omega
 rw[he];generalize x*256 % 18446744073709551616=A at ha hb;rw[bits_join .u64 64 (by decide) (λn h0 h1=>by rw[IntKind.wrap_u64];omega) 8 (A:Int) (c:Int) (by omega) (show (A:Int) % 256=0 by omega) (show (A:Int)<18446744073709551616 by omega) (by omega) (show (c:Int)<256 by omega) (show (c:Int)<18446744073709551616 by omega)];rfl
theorem zfr {l:zaa} (h:k<l.length):beN 0 (l.take (k+1))=(beN 0 (l.take k)*256+l[k].toNat) % 18446744073709551616:=by
 rw[jC h,zp4]
theorem zl7 (b:Bool):numR ([],b)=(0,([],true)):=rfl
theorem zr4:zaj 0=0:=by unfold zaj;omega
theorem zhw (x:Nat):wrap64 (x:Int)=zaj x:=by unfold wrap64 zaj;omega
theorem zif (l:zaa):∀(v:Nat),v<18446744073709551616->beN v l<18446744073709551616:=by
 induction l with
 | nil=>intro v h;exact h
 | cons c l ih=>intro v h;exact ih _ (Nat.mod_lt _ (by decide))
theorem zf3 (c:UInt8) (t:zaa) (b:Bool):numR (c::t,b)=(beN 0 (za2 c.toNat (t,b||decide (8<c.toNat))).1,(za2 c.toNat (t,b||decide (8<c.toNat))).2):=rfl
theorem zff (n:Int) (r:Rd):(za2 n r).1.length<=r.1.length:=by
 unfold za2;split
 ·simp
 simp only[List.length_take];omega
theorem zb3 (p:Nat) (r:Rd) (W:World) (h:RdAt W p r) (hl:r.1.length<=1000000):
 Calls prog 57 (aP p) W λu W'=>u=.returned (.int .i64 (zaj (numR r).1))/\RdTo p W W' (numR r).2:=by
 have HH:=Hd h;have hlt:=h.lt;clear h;obtain ⟨l,b⟩:=r
 cases l with
 | nil=>go_enter func57,ntmps57;go_wp2_with fail;refine (zch p 1 _ _ HH.o).mono ?_;rintro u w1 ⟨rfl,hr1⟩;rw[zhr (n:=1) (r:=(([]:zaa),b)) (.inr (by simp))] at hr1 ⊢;have H1:=Hd hr1;clear hr1;go_wp2;go_ret;rw[zl7,zr4];exact ⟨rfl,H1.o⟩
 | cons c t=>
  have hb1:za2 1 (c::t,b)=([c],(t,b)):=by have:=zgq (k:=1) (r:=(c::t,b)) (by simp);simpa using this
  have HN:=Hd (zf3 c t b);generalize numR (c::t,b)=N at HN ⊢;have hc0:((⟨[c].toArray⟩:ByteArray)[0]'(by show 0<([c].toArray).size;simp))=c:=rfl;have hcs:([c]==([]:List UInt8))=false:=rfl;have hcb:=c.toNat_lt;have htl:t.length<=1000000:=by simp at hl;omega
  go_enter func57,ntmps57;go_wp2_with fail;refine (zch p 1 _ _ HH.o).mono ?_;rintro u w1 ⟨rfl,hr1⟩;rw[hb1] at hr1 ⊢;have H1:=Hd hr1;have g1:w1.cell? (p,1)=some (.bool b):=Blk.cell hr1.blk 1;have e1:w1.frozen? (p,1)=false:=Blk.frozen hr1.blk 1;clear hr1 hb1;have hdc:decide (8<(c.toNat:Int))=decide (8<c.toNat):=by rw[Bool.eq_iff_iff];simp only[decide_eq_true_eq];omega
  have HDC:=Hd hdc;have H2:Hid (∀q,RdTo p W (w1.setCell (p,1) (.bool q)) (t,q)):=Hd (λq=>⟨Blk.set_ H1.o.blk 1 _,H1.o.chg.setCell (p:=(p,1)) (.inl rfl) _⟩);clear hdc;have hi:∀W:World,(Instr.index 9 (.string ⟨[c].toArray⟩) (.int .i64 0)).run prog W=.ok (.int .u8 c.toNat) W:=λW=>by rfl
  cases b;rotate_left
  ·have HN2:=jM (N=(beN 0 (za2 c.toNat (t,true)).1,(za2 c.toNat (t,true)).2)) (by rw[HN.o,Bool.true_or]);clear HN;go_wp2_with fail;refine (zch p c.toNat (t,true) _ (H2.o _).blk).mono ?_;rintro u w3 ⟨rfl,hr3⟩;have hll:=zff c.toNat (t,true);have H3:=Hd ((H2.o _).trans hr3);clear hr3 g1 e1;generalize za2 c.toNat (t,true)=BR at HN2 H3 hll ⊢;obtain ⟨L,R⟩:=BR;have hLl:L.length<=1000000:=by simp only at hll;omega
   simp only at HN2 H3 ⊢;clear hll;obtain ⟨cap,hcap⟩:∃cap,cap=grownCap w3 L.length 0 5:=⟨_,rfl⟩;have hcv:(convert 9 59 (.string ⟨L.toArray⟩)).run prog w3=.ok (.slice (some (w3,0)) L.length cap) ((w3.drewN 1).alloc (.cells (bytesRow ⟨L.toArray⟩ cap) 5 ((bytesRow ⟨L.toArray⟩ cap).size,(bytesRow ⟨L.toArray⟩ cap).size+1))):=by rw[hcap];have h:=run_bytes_of_string (P:=prog) w3 9 59 5 ⟨L.toArray⟩ rfl rfl rfl;rw[zae] at h;exact h
   have hrow:∀(j:Nat) (c:UInt8),L[j]?=some c->(bytesRow ⟨L.toArray⟩ cap)[j]?=some (.int .u8 c.toNat):=by intro j c hj;obtain ⟨h1,h2⟩:=jE.1 hj;have:=bytesRow_at ⟨L.toArray⟩ cap j (by simpa using h1);rw[this];simp[h2]
   have HROW:=Hd hrow;generalize bytesRow ⟨L.toArray⟩ cap=row at *;clear hcap hrow;have HBW:=jM (Below w3 w3 ((w3.drewN 1).alloc (.cells row 5 (row.size,row.size+1)))) ((jf (jg _ _) _).alloc jy _);have HC:=jM (∀(j:Nat) (c:UInt8),L[j]?=some c->((w3.drewN 1).alloc (.cells row 5 (row.size,row.size+1))).cell? (w3,j)=some (.int .u8 c.toNat)) (λj c hj=>(World.cell?_alloc_mark (w3.drewN 1) row 5 (row.size,row.size+1) j).trans (HROW.o j c hj));have H4:=jM (RdTo p W ((w3.drewN 1).alloc (.cells row 5 (row.size,row.size+1))) R) ⟨Blk.below_ H3.o.blk HBW.o,H3.o.chg.below HBW.o⟩;go_wp2_with fail;clear hcv;obtain ⟨W1,hW1⟩:=jN ((w3.drewN 1).alloc (.cells row 5 (row.size,row.size+1)));rw[hW1] at HBW HC H4 ⊢;clear hW1;go_loopw [4,30] (λv i wr=>∃(k x:Nat),k<=L.length/\v=.int .u64 x/\i=.int .i64 k/\x=beN 0 (L.take k)/\W1=wr) (λ_ i _=>L.length-(intOf i).toNat)
   case atStart=>exact ⟨0,0,by omega,rfl,rfl,by simp[beN],rfl⟩
   obtain ⟨k,x,hk,rfl,rfl,hx,rfl⟩:=hrel;have HX:=Hd hx;have hxl:x<18446744073709551616:=by rw[hx];exact zif _ _ (by decide)
   clear hx;by_cases hlt:k<L.length
   ·have hi0:(0:Int)<=(k:Int):=jw _;have hi1:(k:Int)<(L.length:Int):=by omega
    have hlk:L[k]?=some L[k]:=jz hlt;have hcl:W1.cell? (w3,k)=some (.int .u8 (L[k].toNat:Int)):=HC.o k _ hlk;have HB:=Hd (zfr hlt);have hd:=L[k].toNat_lt;generalize L[k]=d at *;have HO:=Hd (zkz x d.toNat (by omega));clear hlk;go_wp2;exact ⟨⟨k+1,_,by omega,by rw[show IntKind.u64.wrap ((x:Int)*256)=((x*256 % 18446744073709551616:Nat):Int) by rw[IntKind.wrap_u64];omega,HO.o],by go_num,by rw[HB.o,<- HX.o],trivial⟩,by simp[intOf];omega⟩
   have HV:=jM (L.take k=L) (by rw[jK (by omega)]);go_wp2;go_ret;rw[HV.o] at HX;refine ⟨?_,by rw[HN2.o];exact H4.o⟩;rw[HN2.o];simp only;rw[<- HX.o];exact congrArg (λz=>Ending.returned (.int .i64 z)) (zhw x)
  have HN2:=jM (N=(beN 0 (za2 c.toNat (t,decide (8<(c.toNat:Int)))).1,(za2 c.toNat (t,decide (8<(c.toNat:Int)))).2)) (by rw[HN.o,HDC.o,Bool.false_or]);clear HN;go_wp2_with fail;refine (zch p c.toNat (t,decide (8<(c.toNat:Int))) _ (H2.o _).blk).mono ?_;rintro u w3 ⟨rfl,hr3⟩;have hll:=zff c.toNat (t,decide (8<(c.toNat:Int)));have H3:=Hd ((H2.o _).trans hr3);clear hr3 g1 e1;generalize za2 c.toNat (t,decide (8<(c.toNat:Int)))=BR at HN2 H3 hll ⊢;obtain ⟨L,R⟩:=BR;have hLl:L.length<=1000000:=by simp only at hll;omega
  simp only at HN2 H3 ⊢;clear hll;obtain ⟨cap,hcap⟩:∃cap,cap=grownCap w3 L.length 0 5:=⟨_,rfl⟩;have hcv:(convert 9 59 (.string ⟨L.toArray⟩)).run prog w3=.ok (.slice (some (w3,0)) L.length cap) ((w3.drewN 1).alloc (.cells (bytesRow ⟨L.toArray⟩ cap) 5 ((bytesRow ⟨L.toArray⟩ cap).size,(bytesRow ⟨L.toArray⟩ cap).size+1))):=by rw[hcap];have h:=run_bytes_of_string (P:=prog) w3 9 59 5 ⟨L.toArray⟩ rfl rfl rfl;rw[zae] at h;exact h
  have hrow:∀(j:Nat) (c:UInt8),L[j]?=some c->(bytesRow ⟨L.toArray⟩ cap)[j]?=some (.int .u8 c.toNat):=by intro j c hj;obtain ⟨h1,h2⟩:=jE.1 hj;have:=bytesRow_at ⟨L.toArray⟩ cap j (by simpa using h1);rw[this];simp[h2]
  have HROW:=Hd hrow;generalize bytesRow ⟨L.toArray⟩ cap=row at *;clear hcap hrow;have HBW:=jM (Below w3 w3 ((w3.drewN 1).alloc (.cells row 5 (row.size,row.size+1)))) ((jf (jg _ _) _).alloc jy _);have HC:=jM (∀(j:Nat) (c:UInt8),L[j]?=some c->((w3.drewN 1).alloc (.cells row 5 (row.size,row.size+1))).cell? (w3,j)=some (.int .u8 c.toNat)) (λj c hj=>(World.cell?_alloc_mark (w3.drewN 1) row 5 (row.size,row.size+1) j).trans (HROW.o j c hj));have H4:=jM (RdTo p W ((w3.drewN 1).alloc (.cells row 5 (row.size,row.size+1))) R) ⟨Blk.below_ H3.o.blk HBW.o,H3.o.chg.below HBW.o⟩;go_wp2_with fail;clear hcv;obtain ⟨W1,hW1⟩:=jN ((w3.drewN 1).alloc (.cells row 5 (row.size,row.size+1)));rw[hW1] at HBW HC H4 ⊢;clear hW1;go_loopw [4,30] (λv i wr=>∃(k x:Nat),k<=L.length/\v=.int .u64 x/\i=.int .i64 k/\x=beN 0 (L.take k)/\W1=wr) (λ_ i _=>L.length-(intOf i).toNat)
  case atStart=>exact ⟨0,0,by omega,rfl,rfl,by simp[beN],rfl⟩
  obtain ⟨k,x,hk,rfl,rfl,hx,rfl⟩:=hrel;have HX:=Hd hx;have hxl:x<18446744073709551616:=by rw[hx];exact zif _ _ (by decide)
  clear hx;by_cases hlt:k<L.length
  ·have hi0:(0:Int)<=(k:Int):=jw _;have hi1:(k:Int)<(L.length:Int):=by omega
   have hlk:L[k]?=some L[k]:=jz hlt;have hcl:W1.cell? (w3,k)=some (.int .u8 (L[k].toNat:Int)):=HC.o k _ hlk;have HB:=Hd (zfr hlt);have hd:=L[k].toNat_lt;generalize L[k]=d at *;have HO:=Hd (zkz x d.toNat (by omega));clear hlk;go_wp2;exact ⟨⟨k+1,_,by omega,by rw[show IntKind.u64.wrap ((x:Int)*256)=((x*256 % 18446744073709551616:Nat):Int) by rw[IntKind.wrap_u64];omega,HO.o],by go_num,by rw[HB.o,<- HX.o],trivial⟩,by simp[intOf];omega⟩
  have HV:=jM (L.take k=L) (by rw[jK (by omega)]);go_wp2;go_ret;rw[HV.o] at HX;refine ⟨?_,by rw[HN2.o];exact H4.o⟩;rw[HN2.o];simp only;rw[<- HX.o];exact congrArg (λz=>Ending.returned (.int .i64 z)) (zhw x)
theorem zvf (p:Nat) (r:Rd) (W:World) (h:RdAt W p r) (hl:r.1.length<=1000000):
 Calls prog 68 (aP p) W λu W'=>u=.returned (.int .u8 ((numR r).1 % 256:Nat))/\RdTo p W W' (numR r).2:=by
 have HH:=Hd h;have hlt:=h.lt;clear h;obtain ⟨l,b⟩:=r
 cases l with
 | nil=>go_enter func68,ntmps68;go_wp2_with fail;refine (zch p 1 _ _ HH.o).mono ?_;rintro u w1 ⟨rfl,hr1⟩;rw[zhr (n:=1) (r:=(([]:zaa),b)) (.inr (by simp))] at hr1 ⊢;have H1:=Hd hr1;clear hr1;go_wp2;go_ret;rw[zl7];exact ⟨rfl,H1.o⟩
 | cons c t=>
  have hb1:za2 1 (c::t,b)=([c],(t,b)):=by have:=zgq (k:=1) (r:=(c::t,b)) (by simp);simpa using this
  have HN:=Hd (zf3 c t b);generalize numR (c::t,b)=N at HN ⊢;have hc0:((⟨[c].toArray⟩:ByteArray)[0]'(by show 0<([c].toArray).size;simp))=c:=rfl;have hcs:([c]==([]:List UInt8))=false:=rfl;have hcb:=c.toNat_lt;have htl:t.length<=1000000:=by simp at hl;omega
  go_enter func68,ntmps68;go_wp2_with fail;refine (zch p 1 _ _ HH.o).mono ?_;rintro u w1 ⟨rfl,hr1⟩;rw[hb1] at hr1 ⊢;have H1:=Hd hr1;have g1:w1.cell? (p,1)=some (.bool b):=Blk.cell hr1.blk 1;have e1:w1.frozen? (p,1)=false:=Blk.frozen hr1.blk 1;clear hr1 hb1;have hdc:decide (8<(c.toNat:Int))=decide (8<c.toNat):=by rw[Bool.eq_iff_iff];simp only[decide_eq_true_eq];omega
  have HDC:=Hd hdc;have H2:Hid (∀q,RdTo p W (w1.setCell (p,1) (.bool q)) (t,q)):=Hd (λq=>⟨Blk.set_ H1.o.blk 1 _,H1.o.chg.setCell (p:=(p,1)) (.inl rfl) _⟩);clear hdc;have hi:∀W:World,(Instr.index 9 (.string ⟨[c].toArray⟩) (.int .i64 0)).run prog W=.ok (.int .u8 c.toNat) W:=λW=>by rfl
  cases b;rotate_left
  ·have HN2:=jM (N=(beN 0 (za2 c.toNat (t,true)).1,(za2 c.toNat (t,true)).2)) (by rw[HN.o,Bool.true_or]);clear HN;go_wp2_with fail;refine (zch p c.toNat (t,true) _ (H2.o _).blk).mono ?_;rintro u w3 ⟨rfl,hr3⟩;have hll:=zff c.toNat (t,true);have H3:=Hd ((H2.o _).trans hr3);clear hr3 g1 e1;generalize za2 c.toNat (t,true)=BR at HN2 H3 hll ⊢;obtain ⟨L,R⟩:=BR;have hLl:L.length<=1000000:=by simp only at hll;omega
   simp only at HN2 H3 ⊢;clear hll;obtain ⟨cap,hcap⟩:∃cap,cap=grownCap w3 L.length 0 5:=⟨_,rfl⟩;have hcv:(convert 9 59 (.string ⟨L.toArray⟩)).run prog w3=.ok (.slice (some (w3,0)) L.length cap) ((w3.drewN 1).alloc (.cells (bytesRow ⟨L.toArray⟩ cap) 5 ((bytesRow ⟨L.toArray⟩ cap).size,(bytesRow ⟨L.toArray⟩ cap).size+1))):=by rw[hcap];have h:=run_bytes_of_string (P:=prog) w3 9 59 5 ⟨L.toArray⟩ rfl rfl rfl;rw[zae] at h;exact h
   have hrow:∀(j:Nat) (c:UInt8),L[j]?=some c->(bytesRow ⟨L.toArray⟩ cap)[j]?=some (.int .u8 c.toNat):=by intro j c hj;obtain ⟨h1,h2⟩:=jE.1 hj;have:=bytesRow_at ⟨L.toArray⟩ cap j (by simpa using h1);rw[this];simp[h2]
   have HROW:=Hd hrow;generalize bytesRow ⟨L.toArray⟩ cap=row at *;clear hcap hrow;have HBW:=jM (Below w3 w3 ((w3.drewN 1).alloc (.cells row 5 (row.size,row.size+1)))) ((jf (jg _ _) _).alloc jy _);have HC:=jM (∀(j:Nat) (c:UInt8),L[j]?=some c->((w3.drewN 1).alloc (.cells row 5 (row.size,row.size+1))).cell? (w3,j)=some (.int .u8 c.toNat)) (λj c hj=>(World.cell?_alloc_mark (w3.drewN 1) row 5 (row.size,row.size+1) j).trans (HROW.o j c hj));have H4:=jM (RdTo p W ((w3.drewN 1).alloc (.cells row 5 (row.size,row.size+1))) R) ⟨Blk.below_ H3.o.blk HBW.o,H3.o.chg.below HBW.o⟩;go_wp2_with fail;clear hcv;obtain ⟨W1,hW1⟩:=jN ((w3.drewN 1).alloc (.cells row 5 (row.size,row.size+1)));rw[hW1] at HBW HC H4 ⊢;clear hW1;go_loopw [4,30] (λv i wr=>∃(k x:Nat),k<=L.length/\v=.int .u64 x/\i=.int .i64 k/\x=beN 0 (L.take k)/\W1=wr) (λ_ i _=>L.length-(intOf i).toNat)
   case atStart=>exact ⟨0,0,by omega,rfl,rfl,by simp[beN],rfl⟩
   obtain ⟨k,x,hk,rfl,rfl,hx,rfl⟩:=hrel;have HX:=Hd hx;have hxl:x<18446744073709551616:=by rw[hx];exact zif _ _ (by decide)
   clear hx;by_cases hlt:k<L.length
   ·have hi0:(0:Int)<=(k:Int):=jw _;have hi1:(k:Int)<(L.length:Int):=by omega
    have hlk:L[k]?=some L[k]:=jz hlt;have hcl:W1.cell? (w3,k)=some (.int .u8 (L[k].toNat:Int)):=HC.o k _ hlk;have HB:=Hd (zfr hlt);have hd:=L[k].toNat_lt;generalize L[k]=d at *;have HO:=Hd (zkz x d.toNat (by omega));clear hlk;go_wp2;exact ⟨⟨k+1,_,by omega,by rw[show IntKind.u64.wrap ((x:Int)*256)=((x*256 % 18446744073709551616:Nat):Int) by rw[IntKind.wrap_u64];omega,HO.o],by go_num,by rw[HB.o,<- HX.o],trivial⟩,by simp[intOf];omega⟩
   have HV:=jM (L.take k=L) (by rw[jK (by omega)]);go_wp2;go_ret;rw[HV.o] at HX;refine ⟨?_,by rw[HN2.o];exact H4.o⟩;rw[HN2.o];simp only;rw[<- HX.o];rfl
  have HN2:=jM (N=(beN 0 (za2 c.toNat (t,decide (8<(c.toNat:Int)))).1,(za2 c.toNat (t,decide (8<(c.toNat:Int)))).2)) (by rw[HN.o,HDC.o,Bool.false_or]);clear HN;go_wp2_with fail;refine (zch p c.toNat (t,decide (8<(c.toNat:Int))) _ (H2.o _).blk).mono ?_;rintro u w3 ⟨rfl,hr3⟩;have hll:=zff c.toNat (t,decide (8<(c.toNat:Int)));have H3:=Hd ((H2.o _).trans hr3);clear hr3 g1 e1;generalize za2 c.toNat (t,decide (8<(c.toNat:Int)))=BR at HN2 H3 hll ⊢;obtain ⟨L,R⟩:=BR;have hLl:L.length<=1000000:=by simp only at hll;omega
  simp only at HN2 H3 ⊢;clear hll;obtain ⟨cap,hcap⟩:∃cap,cap=grownCap w3 L.length 0 5:=⟨_,rfl⟩;have hcv:(convert 9 59 (.string ⟨L.toArray⟩)).run prog w3=.ok (.slice (some (w3,0)) L.length cap) ((w3.drewN 1).alloc (.cells (bytesRow ⟨L.toArray⟩ cap) 5 ((bytesRow ⟨L.toArray⟩ cap).size,(bytesRow ⟨L.toArray⟩ cap).size+1))):=by rw[hcap];have h:=run_bytes_of_string (P:=prog) w3 9 59 5 ⟨L.toArray⟩ rfl rfl rfl;rw[zae] at h;exact h
  have hrow:∀(j:Nat) (c:UInt8),L[j]?=some c->(bytesRow ⟨L.toArray⟩ cap)[j]?=some (.int .u8 c.toNat):=by intro j c hj;obtain ⟨h1,h2⟩:=jE.1 hj;have:=bytesRow_at ⟨L.toArray⟩ cap j (by simpa using h1);rw[this];simp[h2]
  have HROW:=Hd hrow;generalize bytesRow ⟨L.toArray⟩ cap=row at *;clear hcap hrow;have HBW:=jM (Below w3 w3 ((w3.drewN 1).alloc (.cells row 5 (row.size,row.size+1)))) ((jf (jg _ _) _).alloc jy _);have HC:=jM (∀(j:Nat) (c:UInt8),L[j]?=some c->((w3.drewN 1).alloc (.cells row 5 (row.size,row.size+1))).cell? (w3,j)=some (.int .u8 c.toNat)) (λj c hj=>(World.cell?_alloc_mark (w3.drewN 1) row 5 (row.size,row.size+1) j).trans (HROW.o j c hj));have H4:=jM (RdTo p W ((w3.drewN 1).alloc (.cells row 5 (row.size,row.size+1))) R) ⟨Blk.below_ H3.o.blk HBW.o,H3.o.chg.below HBW.o⟩;go_wp2_with fail;clear hcv;obtain ⟨W1,hW1⟩:=jN ((w3.drewN 1).alloc (.cells row 5 (row.size,row.size+1)));rw[hW1] at HBW HC H4 ⊢;clear hW1;go_loopw [4,30] (λv i wr=>∃(k x:Nat),k<=L.length/\v=.int .u64 x/\i=.int .i64 k/\x=beN 0 (L.take k)/\W1=wr) (λ_ i _=>L.length-(intOf i).toNat)
  case atStart=>exact ⟨0,0,by omega,rfl,rfl,by simp[beN],rfl⟩
  obtain ⟨k,x,hk,rfl,rfl,hx,rfl⟩:=hrel;have HX:=Hd hx;have hxl:x<18446744073709551616:=by rw[hx];exact zif _ _ (by decide)
  clear hx;by_cases hlt:k<L.length
  ·have hi0:(0:Int)<=(k:Int):=jw _;have hi1:(k:Int)<(L.length:Int):=by omega
   have hlk:L[k]?=some L[k]:=jz hlt;have hcl:W1.cell? (w3,k)=some (.int .u8 (L[k].toNat:Int)):=HC.o k _ hlk;have HB:=Hd (zfr hlt);have hd:=L[k].toNat_lt;generalize L[k]=d at *;have HO:=Hd (zkz x d.toNat (by omega));clear hlk;go_wp2;exact ⟨⟨k+1,_,by omega,by rw[show IntKind.u64.wrap ((x:Int)*256)=((x*256 % 18446744073709551616:Nat):Int) by rw[IntKind.wrap_u64];omega,HO.o],by go_num,by rw[HB.o,<- HX.o],trivial⟩,by simp[intOf];omega⟩
  have HV:=jM (L.take k=L) (by rw[jK (by omega)]);go_wp2;go_ret;rw[HV.o] at HX;refine ⟨?_,by rw[HN2.o];exact H4.o⟩;rw[HN2.o];simp only;rw[<- HX.o];rfl
theorem zjh (p:Nat) (r:Rd) (W:World) (h:RdAt W p r) (hl:r.1.length<=1000000):
 Calls prog 69 (aP p) W λu W'=>u=.returned (.int .u64 ((numR r).1:Nat))/\RdTo p W W' (numR r).2:=by
 have HH:=Hd h;have hlt:=h.lt;clear h;obtain ⟨l,b⟩:=r
 cases l with
 | nil=>go_enter func69,ntmps69;go_wp2_with fail;refine (zch p 1 _ _ HH.o).mono ?_;rintro u w1 ⟨rfl,hr1⟩;rw[zhr (n:=1) (r:=(([]:zaa),b)) (.inr (by simp))] at hr1 ⊢;have H1:=Hd hr1;clear hr1;go_wp2;go_ret;rw[zl7];exact ⟨rfl,H1.o⟩
 | cons c t=>
  have hb1:za2 1 (c::t,b)=([c],(t,b)):=by have:=zgq (k:=1) (r:=(c::t,b)) (by simp);simpa using this
  have HN:=Hd (zf3 c t b);generalize numR (c::t,b)=N at HN ⊢;have hc0:((⟨[c].toArray⟩:ByteArray)[0]'(by show 0<([c].toArray).size;simp))=c:=rfl;have hcs:([c]==([]:List UInt8))=false:=rfl;have hcb:=c.toNat_lt;have htl:t.length<=1000000:=by simp at hl;omega
  go_enter func69,ntmps69;go_wp2_with fail;refine (zch p 1 _ _ HH.o).mono ?_;rintro u w1 ⟨rfl,hr1⟩;rw[hb1] at hr1 ⊢;have H1:=Hd hr1;have g1:w1.cell? (p,1)=some (.bool b):=Blk.cell hr1.blk 1;have e1:w1.frozen? (p,1)=false:=Blk.frozen hr1.blk 1;clear hr1 hb1;have hdc:decide (8<(c.toNat:Int))=decide (8<c.toNat):=by rw[Bool.eq_iff_iff];simp only[decide_eq_true_eq];omega
  have HDC:=Hd hdc;have H2:Hid (∀q,RdTo p W (w1.setCell (p,1) (.bool q)) (t,q)):=Hd (λq=>⟨Blk.set_ H1.o.blk 1 _,H1.o.chg.setCell (p:=(p,1)) (.inl rfl) _⟩);clear hdc;have hi:∀W:World,(Instr.index 9 (.string ⟨[c].toArray⟩) (.int .i64 0)).run prog W=.ok (.int .u8 c.toNat) W:=λW=>by rfl
  cases b;rotate_left
  ·have HN2:=jM (N=(beN 0 (za2 c.toNat (t,true)).1,(za2 c.toNat (t,true)).2)) (by rw[HN.o,Bool.true_or]);clear HN;go_wp2_with fail;refine (zch p c.toNat (t,true) _ (H2.o _).blk).mono ?_;rintro u w3 ⟨rfl,hr3⟩;have hll:=zff c.toNat (t,true);have H3:=Hd ((H2.o _).trans hr3);clear hr3 g1 e1;generalize za2 c.toNat (t,true)=BR at HN2 H3 hll ⊢;obtain ⟨L,R⟩:=BR;have hLl:L.length<=1000000:=by simp only at hll;omega
   simp only at HN2 H3 ⊢;clear hll;obtain ⟨cap,hcap⟩:∃cap,cap=grownCap w3 L.length 0 5:=⟨_,rfl⟩;have hcv:(convert 9 59 (.string ⟨L.toArray⟩)).run prog w3=.ok (.slice (some (w3,0)) L.length cap) ((w3.drewN 1).alloc (.cells (bytesRow ⟨L.toArray⟩ cap) 5 ((bytesRow ⟨L.toArray⟩ cap).size,(bytesRow ⟨L.toArray⟩ cap).size+1))):=by rw[hcap];have h:=run_bytes_of_string (P:=prog) w3 9 59 5 ⟨L.toArray⟩ rfl rfl rfl;rw[zae] at h;exact h
   have hrow:∀(j:Nat) (c:UInt8),L[j]?=some c->(bytesRow ⟨L.toArray⟩ cap)[j]?=some (.int .u8 c.toNat):=by intro j c hj;obtain ⟨h1,h2⟩:=jE.1 hj;have:=bytesRow_at ⟨L.toArray⟩ cap j (by simpa using h1);rw[this];simp[h2]
   have HROW:=Hd hrow;generalize bytesRow ⟨L.toArray⟩ cap=row at *;clear hcap hrow;have HBW:=jM (Below w3 w3 ((w3.drewN 1).alloc (.cells row 5 (row.size,row.size+1)))) ((jf (jg _ _) _).alloc jy _);have HC:=jM (∀(j:Nat) (c:UInt8),L[j]?=some c->((w3.drewN 1).alloc (.cells row 5 (row.size,row.size+1))).cell? (w3,j)=some (.int .u8 c.toNat)) (λj c hj=>(World.cell?_alloc_mark (w3.drewN 1) row 5 (row.size,row.size+1) j).trans (HROW.o j c hj));have H4:=jM (RdTo p W ((w3.drewN 1).alloc (.cells row 5 (row.size,row.size+1))) R) ⟨Blk.below_ H3.o.blk HBW.o,H3.o.chg.below HBW.o⟩;go_wp2_with fail;clear hcv;obtain ⟨W1,hW1⟩:=jN ((w3.drewN 1).alloc (.cells row 5 (row.size,row.size+1)));rw[hW1] at HBW HC H4 ⊢;clear hW1;go_loopw [4,30] (λv i wr=>∃(k x:Nat),k<=L.length/\v=.int .u64 x/\i=.int .i64 k/\x=beN 0 (L.take k)/\W1=wr) (λ_ i _=>L.length-(intOf i).toNat)
   case atStart=>exact ⟨0,0,by omega,rfl,rfl,by simp[beN],rfl⟩
   obtain ⟨k,x,hk,rfl,rfl,hx,rfl⟩:=hrel;have HX:=Hd hx;have hxl:x<18446744073709551616:=by rw[hx];exact zif _ _ (by decide)
   clear hx;by_cases hlt:k<L.length
   ·have hi0:(0:Int)<=(k:Int):=jw _;have hi1:(k:Int)<(L.length:Int):=by omega
    have hlk:L[k]?=some L[k]:=jz hlt;have hcl:W1.cell? (w3,k)=some (.int .u8 (L[k].toNat:Int)):=HC.o k _ hlk;have HB:=Hd (zfr hlt);have hd:=L[k].toNat_lt;generalize L[k]=d at *;have HO:=Hd (zkz x d.toNat (by omega));clear hlk;go_wp2;exact ⟨⟨k+1,_,by omega,by rw[show IntKind.u64.wrap ((x:Int)*256)=((x*256 % 18446744073709551616:Nat):Int) by rw[IntKind.wrap_u64];omega,HO.o],by go_num,by rw[HB.o,<- HX.o],trivial⟩,by simp[intOf];omega⟩
   have HV:=jM (L.take k=L) (by rw[jK (by omega)]);go_wp2;go_ret;rw[HV.o] at HX;refine ⟨?_,by rw[HN2.o];exact H4.o⟩;rw[HN2.o];simp only;rw[<- HX.o];rfl
  have HN2:=jM (N=(beN 0 (za2 c.toNat (t,decide (8<(c.toNat:Int)))).1,(za2 c.toNat (t,decide (8<(c.toNat:Int)))).2)) (by rw[HN.o,HDC.o,Bool.false_or]);clear HN;go_wp2_with fail;refine (zch p c.toNat (t,decide (8<(c.toNat:Int))) _ (H2.o _).blk).mono ?_;rintro u w3 ⟨rfl,hr3⟩;have hll:=zff c.toNat (t,decide (8<(c.toNat:Int)));have H3:=Hd ((H2.o _).trans hr3);clear hr3 g1 e1;generalize za2 c.toNat (t,decide (8<(c.toNat:Int)))=BR at HN2 H3 hll ⊢;obtain ⟨L,R⟩:=BR;have hLl:L.length<=1000000:=by simp only at hll;omega
  simp only at HN2 H3 ⊢;clear hll;obtain ⟨cap,hcap⟩:∃cap,cap=grownCap w3 L.length 0 5:=⟨_,rfl⟩;have hcv:(convert 9 59 (.string ⟨L.toArray⟩)).run prog w3=.ok (.slice (some (w3,0)) L.length cap) ((w3.drewN 1).alloc (.cells (bytesRow ⟨L.toArray⟩ cap) 5 ((bytesRow ⟨L.toArray⟩ cap).size,(bytesRow ⟨L.toArray⟩ cap).size+1))):=by rw[hcap];have h:=run_bytes_of_string (P:=prog) w3 9 59 5 ⟨L.toArray⟩ rfl rfl rfl;rw[zae] at h;exact h
  have hrow:∀(j:Nat) (c:UInt8),L[j]?=some c->(bytesRow ⟨L.toArray⟩ cap)[j]?=some (.int .u8 c.toNat):=by intro j c hj;obtain ⟨h1,h2⟩:=jE.1 hj;have:=bytesRow_at ⟨L.toArray⟩ cap j (by simpa using h1);rw[this];simp[h2]
  have HROW:=Hd hrow;generalize bytesRow ⟨L.toArray⟩ cap=row at *;clear hcap hrow;have HBW:=jM (Below w3 w3 ((w3.drewN 1).alloc (.cells row 5 (row.size,row.size+1)))) ((jf (jg _ _) _).alloc jy _);have HC:=jM (∀(j:Nat) (c:UInt8),L[j]?=some c->((w3.drewN 1).alloc (.cells row 5 (row.size,row.size+1))).cell? (w3,j)=some (.int .u8 c.toNat)) (λj c hj=>(World.cell?_alloc_mark (w3.drewN 1) row 5 (row.size,row.size+1) j).trans (HROW.o j c hj));have H4:=jM (RdTo p W ((w3.drewN 1).alloc (.cells row 5 (row.size,row.size+1))) R) ⟨Blk.below_ H3.o.blk HBW.o,H3.o.chg.below HBW.o⟩;go_wp2_with fail;clear hcv;obtain ⟨W1,hW1⟩:=jN ((w3.drewN 1).alloc (.cells row 5 (row.size,row.size+1)));rw[hW1] at HBW HC H4 ⊢;clear hW1;go_loopw [4,30] (λv i wr=>∃(k x:Nat),k<=L.length/\v=.int .u64 x/\i=.int .i64 k/\x=beN 0 (L.take k)/\W1=wr) (λ_ i _=>L.length-(intOf i).toNat)
  case atStart=>exact ⟨0,0,by omega,rfl,rfl,by simp[beN],rfl⟩
  obtain ⟨k,x,hk,rfl,rfl,hx,rfl⟩:=hrel;have HX:=Hd hx;have hxl:x<18446744073709551616:=by rw[hx];exact zif _ _ (by decide)
  clear hx;by_cases hlt:k<L.length
  ·have hi0:(0:Int)<=(k:Int):=jw _;have hi1:(k:Int)<(L.length:Int):=by omega
   have hlk:L[k]?=some L[k]:=jz hlt;have hcl:W1.cell? (w3,k)=some (.int .u8 (L[k].toNat:Int)):=HC.o k _ hlk;have HB:=Hd (zfr hlt);have hd:=L[k].toNat_lt;generalize L[k]=d at *;have HO:=Hd (zkz x d.toNat (by omega));clear hlk;go_wp2;exact ⟨⟨k+1,_,by omega,by rw[show IntKind.u64.wrap ((x:Int)*256)=((x*256 % 18446744073709551616:Nat):Int) by rw[IntKind.wrap_u64];omega,HO.o],by go_num,by rw[HB.o,<- HX.o],trivial⟩,by simp[intOf];omega⟩
  have HV:=jM (L.take k=L) (by rw[jK (by omega)]);go_wp2;go_ret;rw[HV.o] at HX;refine ⟨?_,by rw[HN2.o];exact H4.o⟩;rw[HN2.o];simp only;rw[<- HX.o];rfl
def cNod (n:Nod):List Value:=[.int .u8 n.kind,.int .u8 n.vk,.int .i64 n.vn,str n.vt,.int .i64 n.rect.c1,.int .i64 n.rect.r1,.int .i64 n.rect.c2,.int .i64 n.rect.r2,.int .i64 n.op,.int .u8 n.fn,.int .i64 n.n]
theorem zbx (x:Nod):(cNod x).length=11:=rfl
theorem zew (x:Nod):∀u∈cNod x,u.oneCell'=true:=by
 intro u hu;simp only[cNod,List.mem_cons,List.not_mem_nil,or_false] at hu;rcases hu with rfl|rfl|rfl|rfl|rfl|rfl|rfl|rfl|rfl|rfl|rfl <;> rfl
theorem zeu:∃i,prog.info? 297=some i/\i.zero=some (.agg #[.int .u8 0,.int .u8 0,.int .i64 0,.string ⟨#[]⟩,.int .i64 0,.int .i64 0,.int .i64 0,.int .i64 0,.int .i64 0,.int .u8 0,.int .i64 0])/\i.size=11/\i.bytes=96:=
 info_parts (show (prog.info? 297).map (λi=>(i.zero,i.size,i.bytes))=some (some (.agg #[.int .u8 0,.int .u8 0,.int .i64 0,.string ⟨#[]⟩,.int .i64 0,.int .i64 0,.int .i64 0,.int .i64 0,.int .i64 0,.int .u8 0,.int .i64 0]),11,96) by kernel_rfl)
structure PA (W:World) (p:Nat) (e:Int) (ov:Value) (st:PSt):Prop where
 bx:∃lv,Blk W p 237 #[lv,.int .i64 e,ov]/\Sls cTok W p lv st.1
 ow:Own cNod 297 11 W ov st.2
 ob:∀k,ov.ownBlock=some k->p<k
structure PTo (p:Nat) (W:World) (ov:Value) (W':World) (ov':Value):Prop where
 chg:Chg (λk=>k=p\/ov.ownBlock=some k) W W'
 own:∀k,ov'.ownBlock=some k->ov.ownBlock=some k\/W.heap.size<=k
section
variable {W W1 W2:World} {p:Nat} {e:Int} {ov ov1 ov2:Value} {st:PSt}
theorem PA.lt (h:PA W p e ov st):p<W.heap.size:=by obtain ⟨lv,h1,_⟩:=h.bx;exact h1.lt
theorem PTo.refl (p:Nat) (W:World) (ov:Value):PTo p W ov W ov:=⟨Chg.refl _ _,λ_ h=>.inl h⟩
theorem PTo.trans (h:PTo p W ov W1 ov1) (k:PTo p W1 ov1 W2 ov2):PTo p W ov W2 ov2:=by
 refine ⟨⟨k.chg.os.trans h.chg.os,k.chg.tape.trans h.chg.tape,k.chg.output.trans h.chg.output,jx h.chg.size k.chg.size,λi hi hs=>?_⟩,λi hi=>?_⟩
 ·refine (k.chg.block i (jG hi h.chg.size) λe=>?_).trans (h.chg.block i hi hs);rcases e with e | e
  ·exact hs (.inl e)
  rcases h.own i e with e | e
  ·exact hs (.inr e)
  omega
 rcases k.own i hi with e | e
 ·rcases h.own i e with e | e
  ·exact .inl e
  exact .inr e
 exact .inr (jx h.chg.size e)
theorem PTo.below (h:PTo p W ov W1 ov1) (k:Below W1 W1 W2):PTo p W ov W2 ov1:=⟨h.chg.below k,h.own⟩
theorem PA.below (h:PA W p e ov st) (k:Below W W W1):PA W1 p e ov st:=by
 obtain ⟨lv,h1,h2⟩:=h.bx;exact ⟨⟨lv,h1.below_ k,h2.below (k.mono (jF h.lt))⟩,h.ow.below k,h.ob⟩
theorem PTo.old (h:PTo p W ov W1 ov1) (hp:p<=W.heap.size) (ho:∀k,ov.ownBlock=some k->p<k):Below p W W1:=
 h.chg.to_below hp λk hk e=>by
  rcases e with e | e
  ·omega
  have:=ho k e;omega
theorem PTo.blk {cs:Array Value} (h:PTo p W ov W1 ov1) (hb:Blk W g t cs) (h1:g≠p) (h2:ov.ownBlock≠some g):Blk W1 g t cs:=
 hb.chg h.chg (by intro e;rcases e with e | e;exact h1 e;exact h2 e)
end
theorem z0e (e:Int) (l:List Nod):zak e ([],l)={ tok0 with at_:=e }:=rfl
theorem zws (e:Int) (t:Tok) (ts:List Tok) (l:List Nod):zak e (t::ts,l)=t:=rfl
theorem zc8 (p:Nat) (e:Int) (ov:Value) (st:PSt) (W:World) (h:PA W p e ov st) (hn:st.1.length<=1000000):
 Calls prog 225 (aP p) W λu W'=>u=.returned (.agg (cTok (zak e st)).toArray)/\Below W W W':=by
 obtain ⟨lv,hb,hs⟩:=h.bx;have hlt:=h.lt;obtain ⟨ts,ns⟩:=st;obtain ⟨A,cap,rfl,hc1,hm,hr⟩:=id hs;have KZ0:=jM (TokZ _ W.heap.size) (je W 239 aU);have HB0:=jM (Below W W (W.alloc (.cells aU 239))) (by go_grown);have hb1:=hb.alloc (.cells aU 239);obtain ⟨W1,hW1⟩:=jN (W.alloc (.cells aU 239));have hbW:=HB0.o;rw[hW1] at hbW
 cases ts with
 | nil=>
  rw[hW1] at KZ0 HB0 hb1;obtain ⟨c0,c1⟩:=hb1.c2 0 1;clear h hb hs hb1 hr;obtain ⟨q0,q1,q2,q3,q4,q5,q6,q7,qf⟩:=zad KZ0.o;go_enter func225,ntmps225;go_upto_region 1 with (fail)
  clear hW1;go_wp2;refine jO results225 (v:=.agg (cTok (zak e ([],ns))).toArray) ?_ (by simp (maxDischargeDepth:=9) [jQ,go_sem,q0,q1,q2,q3,q4,q5,q6,q7,cTok,z4,tok0,z0e]);exact ⟨rfl,zan HB0.o jy _ _ _ _ _ _ _ _⟩
 | cons t ts=>
  obtain ⟨b,o,rfl,hbp,hrg⟩:=hr (by simp);have r0:=zh0 (l:=cTok t) 0 (zji hrg (hbW.mono (jF hlt)) hbp) (by intro j v hj;rw[Nat.zero_add,List.flatMap_cons,List.getElem?_append_left (jE.1 hj).1];exact hj);rw[hW1] at KZ0 HB0 hb1;have c0:=hb1.cell 0;clear h hb hs hb1 hr hrg;have t0:W1.cell? (b,o)=some (.int .u8 t.kind):=r0 0 _ rfl;have t1:W1.cell? (b,o+1)=some (.int .i64 t.num):=r0 1 _ rfl;have t2:W1.cell? (b,o+2)=some (str t.text):=r0 2 _ rfl;have t3:W1.cell? (b,o+3)=some (.int .i64 t.rect.c1):=r0 3 _ rfl;have t4:W1.cell? (b,o+4)=some (.int .i64 t.rect.r1):=r0 4 _ rfl;have t5:W1.cell? (b,o+5)=some (.int .i64 t.rect.c2):=r0 5 _ rfl;have t6:W1.cell? (b,o+6)=some (.int .i64 t.rect.r2):=r0 6 _ rfl;have t7:W1.cell? (b,o+7)=some (.int .i64 t.at_):=r0 7 _ rfl;clear r0;obtain ⟨q0,q1,q2,q3,q4,q5,q6,q7,qf⟩:=zad KZ0.o;have hl0:(0:Int)<(ts.length:Int)+1:=by omega
  go_enter func225,ntmps225;go_upto_region 1 with (fail)
  clear hW1;go_wp2;refine jO results225 (v:=.agg (cTok (zak e (t::ts,ns))).toArray) ?_ (by simp (maxDischargeDepth:=9) [jQ,go_sem,q0,q1,q2,q3,q4,q5,q6,q7,cTok,zws]);exact ⟨rfl,zan HB0.o jy _ _ _ _ _ _ _ _⟩
theorem PA.next (h:PA W p e ov st) {ts:List Tok} (hl:Sls cTok W p lv ts):
 PA (W.setCell ⟨p,0,none⟩ lv) p e ov (ts,st.2)/\PTo p W ov (W.setCell ⟨p,0,none⟩ lv) ov:=by
 obtain ⟨lv0,hb,hs⟩:=h.bx;have hne:ov.ownBlock≠some p:=λe=>by have:=h.ob p e;omega
 have hc:Chg (λk=>k=p) W (W.setCell (p,0) lv):=(Chg.refl (λk=>k=p) W).setCell (p:=(p,0)) (.inl rfl) lv;refine ⟨⟨⟨lv,?_,?_⟩,h.ow.chg hc (λq hq e=>hne (by rw[hq,e])),h.ob⟩,⟨hc.mono (λk _ e=>.inl e),λ_ h=>.inl h⟩⟩
 ·exact hb.set_ 0 lv
 exact Sl.chg hl hc (jF h.lt) (λk hk e=>by omega)
theorem zb5 (p:Nat) (e:Int) (ov:Value) (st:PSt) (W:World) (h:PA W p e ov st) (hn:st.1.length<=1000000) (h0:st.1≠ []):
 Calls prog 287 (aP p) W λu W'=>u=.returned (.tuple #[])/\PA W' p e ov (zap st)/\PTo p W ov W' ov:=by
 obtain ⟨lv,hb,hs⟩:=h.bx;have hlt:=h.lt;obtain ⟨ts,ns⟩:=st;obtain ⟨A,cap,rfl,hc1,hm,hr⟩:=id hs
 cases ts with
 | nil=>exact absurd rfl h0
 | cons t ts=>
  obtain ⟨b,o,rfl,hbp,hrg⟩:=hr (by simp);have c0:=hb.cell 0;have cf:=hb.frozen;have HH:=Hd h;have HB:=Hd hb;have HR:=Hd hrg;clear h hb hs hr hrg;simp only[jk] at hc1 hm hn;have hl0:(1:Int)<=(ts.length:Int)+1:=by omega
  have hl1:(1:Int)<=(cap:Int):=by omega
  have hl2:(ts.length:Int)+1<=(cap:Int):=by omega
  by_cases hcap:cap=1
  ·have hts:ts=[]:=js (by omega);subst hts hcap;have HN:=Hd (HH.o.next (ts:=[]) (lv:=.slice (some (b,o)) 0 0) (Sls.nil _ _ _ _ _));go_enter func287,ntmps287;go_wp2;refine bE ?_;exact ⟨rfl,HN.o⟩
  have HN:=Hd (HH.o.next (ts:=ts) (lv:=.slice (some (b,o+8)) ts.length (cap-1)) ⟨_,_,rfl,by omega,by omega,λhp=>⟨b,o+8,rfl,hbp,zh0 8 HR.o (by
   intro j v hj;rw[List.flatMap_cons,List.getElem?_append_right (by rw[zd7];omega),zd7,show 8+j-8=j by omega];exact hj)⟩⟩)
  go_enter func287,ntmps287;go_wp2;refine bE ?_;exact ⟨rfl,HN.o⟩
theorem PA.putAt {n:Nod} (h:PA W p e ov st) 
 (o9:Own cNod 297 11 W9 ov9 (st.2++ [n])) (t9:OutTo ((W.alloc o1).alloc o2).drew ov W9 ov9):
 PA (W9.setCell ⟨p,2,none⟩ ov9) p e ov9 (putS n st)/\PTo p W ov (W9.setCell ⟨p,2,none⟩ ov9) ov9:=by
 obtain ⟨lv,hb,hs⟩:=h.bx;have hlt:=h.lt;have hne:ov.ownBlock≠some p:=λe=>by have:=h.ob p e;omega
 have hne9:ov9.ownBlock≠some p:=λe=>by
  rcases t9.own p e with e | e
  ·exact hne e
  simp at e;omega
 have hbW:Below W W ((W.alloc o1).alloc o2).drew:=by go_grown
 have hb9:=(hb.below_ hbW).outTo t9 hne;have hs9:Sls cTok W9 p lv st.1:=(hs.below (hbW.mono (jF hlt))).below (t9.old (by simp;omega) (λk hk=>by have:=h.ob k hk;omega));have hc:Chg (λk=>k=p) W9 (W9.setCell (p,2) ov9):=(Chg.refl (λk=>k=p) W9).setCell (p:=(p,2)) (.inl rfl) ov9;have hlt9:p<W9.heap.size:=hb9.lt;refine ⟨⟨⟨lv,?_,?_⟩,o9.chg hc (λq hq e=>hne9 (by rw[hq,e])),λk hk=>?_⟩,⟨?_,λk hk=>?_⟩⟩
 ·exact hb9.set_ 2 ov9
 ·exact Sl.chg hs9 hc (jF hlt9) (λk hk e=>by omega)
 ·rcases t9.own k hk with e | e
  ·exact h.ob k e
  simp at e;omega
 ·have h1:Chg (λk=>k=p\/ov.ownBlock=some k) W W9:=Chg.trans (Chg.of_below hbW _ (λk hk _=>hk)) (t9.chg.mono (λk _ e=>.inr e));exact h1.trans (hc.mono (λk _ e=>.inl e))
 rcases t9.own k hk with e | e
 ·exact .inl e
 simp at e;exact .inr (by omega)
theorem zeg (p:Nat) (e:Int) (ov:Value) (st:PSt) (n:Nod) (W:World) (h:PA W p e ov st) (hn:st.2.length<=100000):
 Calls prog 288 #[(aA p),.agg (cNod n).toArray] W λu W'=>u=.returned (.tuple #[])/\∃ov',PA W' p e ov' (putS n st)/\PTo p W ov W' ov':=by
 obtain ⟨lv,hb,hs⟩:=h.bx;have hlt:=h.lt;obtain ⟨it,ti0,ti1,ti2,ti3⟩:=zeu;have HN1:=jM (ov.ownBlock≠some p) (λe=>by have:=h.ob p e;omega);have HN2:=jM (ov.ownBlock≠some W.heap.size) (λe=>by have:=h.ow.lt _ e;omega);have P0:=jM (Blk (W.alloc (.cells (cNod n).toArray 297)).drew p 237 #[lv,.int .i64 e,ov]/\True) ⟨(hb.alloc _).drew,trivial⟩;have KN:=Hd (je W 297 (cNod n).toArray).drew;have HO:=Hd (h.ow.alloc (.cells (cNod n).toArray 297)).drew;have P1:=Hd ((hb.alloc (.cells (cNod n).toArray 297)).alloc (.cells (cNod n).toArray 297)).drew;have KN1:=Hd ((je W 297 (cNod n).toArray).alloc (.cells (cNod n).toArray 297)).drew;have HO1:=Hd ((h.ow.alloc (.cells (cNod n).toArray 297)).alloc (.cells (cNod n).toArray 297)).drew;have KN2:=Hd (show Blk ((W.alloc (.cells (cNod n).toArray 297)).alloc (.cells (cNod n).toArray 297)).drew (W.heap.size+1) 297 (cNod n).toArray by
  have:=(je (W.alloc (.cells (cNod n).toArray 297)) 297 (cNod n).toArray).drew;simpa using this)
 have HP:=Hd h;clear h hb hs;rw[show (cNod n).toArray=#[.int .u8 n.kind,.int .u8 n.vk,.int .i64 n.vn,str n.vt,.int .i64 n.rect.c1,.int .i64 n.rect.r1,.int .i64 n.rect.c2,.int .i64 n.rect.r2,.int .i64 n.op,.int .u8 n.fn,.int .i64 n.n] from rfl];go_enter func288,ntmps288;go_wp2_with fail;refine wp_region_noPanic ?_;refine zaw (λW'=>Blk W' p 237 #[lv,.int .i64 e,ov]/\Blk W' W.heap.size 297 (cNod n).toArray) 10 (by kernel_rfl) ?_;have hHeld:(λW'=>Blk W' p 237 #[lv,.int .i64 e,ov]/\Blk W' W.heap.size 297 (cNod n).toArray) _:=⟨P0.o.1,KN.o⟩;refine tU 0 (.pointer (some ⟨p,0,none⟩)) (λ_=>hHeld) ?_
 try go_frame
 refine tU 1 (.pointer (some ⟨p,0,none⟩)) (λ_=>hHeld) ?_
 try go_frame
 refine tU 2 (.pointer (some ⟨p,0,none⟩)) (λ_=>hHeld) ?_
 try go_frame
 refine tU 3 (.pointer (some ⟨p,2,none⟩)) (λ_=>hHeld) ?_
 try go_frame
 refine tV 4 ov rfl hHeld (Or.inl ⟨by rfl,by intro W hW;have hc:W.cell? ⟨p,2,none⟩=some (ov):=hW.1.cell 2;go_simp⟩) ?_
 try go_frame
 refine tV 5 (.agg _) rfl hHeld (yieldsIf_load_mid rfl _ _ rfl (W.heap.size) (0) rfl _ _ (λW' h=>h.2.range (l:=cNod n) (o:=0) (by intro j v hj;rw[Nat.zero_add];exact List.getElem?_toArray.trans hj)) rfl rfl (by kernel_rfl)) ?_
 try go_frame
 rw[show (cNod n).toArray=#[.int .u8 n.kind,.int .u8 n.vk,.int .i64 n.vn,str n.vt,.int .i64 n.rect.c1,.int .i64 n.rect.r1,.int .i64 n.rect.c2,.int .i64 n.rect.r2,.int .i64 n.op,.int .u8 n.fn,.int .i64 n.n] from rfl];refine tS 6 rfl λK hK=>?_;go_simp;refine hK.out _ _ (λ_=>⟨P1.o,KN1.o⟩) ?_;have hHeld:(λW'=>Blk W' p 237 #[lv,.int .i64 e,ov]/\Blk W' W.heap.size 297 (cNod n).toArray) _:=⟨P1.o,KN1.o⟩;clear hK K
 try go_frame
 obtain ⟨r9,w9,hr9,o9,t9⟩:=zdp (P:=prog) _ cNod 190 190 297 it _ 11 96 underlying190 ti0 ti1 ti2 ti3 rfl (by omega) ov st.2 HO1.o _ _ [n] (Sls.one (x:=n) KN2.o rfl) zbx zew (by simp;omega) (by omega);obtain ⟨A9,c9,hv9, -⟩:=id (o9.sls (by simp[maxLen];omega));generalize hL9:(st.2++ [n]).length=L9 at hv9;have HL9:=Hd hL9;clear hL9;subst hv9;have hB9:=P1.o.outTo t9 HN1.o;refine tS 7 rfl λK hK=>?_;refine zbl (.tmp 8) (.tmp 10) _ _ rfl _ _ _ _ rfl rfl hr9 ?_;refine hK.out _ _ (λ_=>⟨hB9,KN1.o.outTo t9 HN2.o⟩) ?_;have hHeld:(λW'=>Blk W' p 237 #[lv,.int .i64 e,ov]/\Blk W' W.heap.size 297 (cNod n).toArray) _:=⟨hB9,KN1.o.outTo t9 HN2.o⟩;clear hK K
 try go_frame
 refine tU 8 (.pointer (some ⟨p,0,none⟩)) (λ_=>hHeld) ?_
 try go_frame
 refine tU 9 (.pointer (some ⟨p,2,none⟩)) (λ_=>hHeld) ?_
 try go_frame
 refine tS 10 rfl λK hK=>?_;have kc:w9.cell? (p,2)=some ov:=hB9.cell 2;have kf:=hB9.frozen;go_simp;refine hK.out _ _ (λh=>absurd h (by decide)) ?_;clear hK K
 try go_frame
 refine zax (by kernel_rfl) ?_;refine NoPanic.normal ?_;have HF:=Hd (HP.o.putAt o9 t9);clear hHeld hB9 o9 t9 hr9;refine bE ?_;exact ⟨rfl,_,HF.o⟩
def flt (a er:Int):Ending:=.panicked [{ v:=.iface 234 (.agg #[.int .i64 a,.int .i64 er]),recovered:=false }]
theorem zc9 (p:Value) (a er:Int) (W:World):Calls prog 226 #[p,.int .i64 a,.int .i64 er] W λu W'=>u=flt a er/\W=W':=by
 go_enter func226,ntmps226;go_wp2;exact ⟨rfl,rfl,rfl⟩
theorem zvq (p:Nat) (e:Int) (ov:Value) (st:PSt) (op:Int) (W:World) (h:PA W p e ov st) (hn:st.1.length<=1000000):
 Calls prog 306 #[(aA p),.int .i64 op] W λu W'=>u=.returned (.bool (zc3 e st op))/\Below W W W':=by
 have HH:=Hd h;clear h;go_enter func306,ntmps306;go_wp2_with fail;refine (zc8 p e ov st _ HH.o hn).mono ?_;rintro u w1 ⟨rfl,hb1⟩;have HI:=jM (zc3 e st op=(decide ((zak e st).kind=8)&&decide ((zak e st).num=op))) rfl;have HB2:=jM (Below W W (w1.alloc (.cells (cTok (zak e st)).toArray 239))) (hb1.alloc hb1.size _);clear hb1;generalize zak e st=t at HI HB2 ⊢;rw[show (cTok t).toArray=#[.int .u8 t.kind,.int .i64 t.num,str t.text,.int .i64 t.rect.c1,.int .i64 t.rect.r1,.int .i64 t.rect.c2,.int .i64 t.rect.r2,.int .i64 t.at_] from rfl];by_cases hk:t.kind=8
 ·have hk':(t.kind==8)=true:=by simpa using hk
  have hd:decide (t.kind=8)=true:=by simpa using hk
  rw[hd] at HI;clear hk hd;go_wp2;go_ret;exact ⟨by rw[HI.o];rfl,HB2.o⟩
 have hk':(t.kind==8)=false:=by simpa using hk
 have hd:decide (t.kind=8)=false:=by simpa using hk
 rw[hd] at HI;clear hk hd;go_wp2;go_ret;exact ⟨by rw[HI.o];rfl,HB2.o⟩
def Went (p:Nat) (e:Int) (W:World) (ov:Value) (r:PRes) (u:Ending) (W':World):Prop:=
 match r with
 | .ok st'=>u=.returned (.tuple #[])/\∃ov',PA W' p e ov' st'/\PTo p W ov W' ov'
 | .error x=>u=flt x.1 x.2/\Below p W W'
theorem zbn {r:PRes} (hr:r=.ok st') (h1:PA W' p e ov' st') (h2:PTo p W ov W' ov'):Went p e W ov r (.returned (.tuple #[])) W':=by
 subst hr;exact ⟨rfl,ov',h1,h2⟩
theorem zay {r:PRes} (hr:r=.error (a,er)) (h:Below p W W'):Went p e W ov r (flt a er) W':=by
 subst hr;exact ⟨rfl,h⟩
theorem ze2 (h:(zak e st).kind≠0):st.1≠ []:=by
 intro h0;obtain ⟨ts,ns⟩:=st;simp only at h0;subst h0;exact h rfl
theorem PTo.old' (h:PTo p W ov W1 ov1) (hp:PA W p e ov st):Below p W W1:=h.old (jF hp.lt) hp.ob
theorem zqx (p:Nat) (e:Int) (ov:Value) (st:PSt) (k:Int) (W:World) (h:PA W p e ov st) (hn:st.1.length<=1000000) (hk:k≠0):
 Calls prog 342 #[(aA p),.int .u8 k] W (Went p e W ov (ze4 e k st)):=by
 have HH:=Hd h;clear h;go_enter func342,ntmps342;go_wp2_with fail;refine (zc8 p e ov st _ HH.o hn).mono ?_;rintro u w1 ⟨rfl,hb1⟩;have HB2:=jM (Below W W (w1.alloc (.cells (cTok (zak e st)).toArray 239))) (hb1.alloc hb1.size _);clear hb1;have HW:Hid (ze4 e k st=if (zak e st).kind≠k then .error ((zak e st).at_,4) else .ok (zap st)):=Hd rfl;have HN:Hid ((zak e st).kind≠0->st.1≠ []):=Hd ze2;generalize zak e st=t at HW HN HB2 ⊢;rw[show (cTok t).toArray=#[.int .u8 t.kind,.int .i64 t.num,str t.text,.int .i64 t.rect.c1,.int .i64 t.rect.r1,.int .i64 t.rect.c2,.int .i64 t.rect.r2,.int .i64 t.at_] from rfl];by_cases hkk:t.kind=k
 ·have hk':(t.kind != k)=false:=by simpa using hkk
  have HE:=jM (ze4 e k st=.ok (zap st)) (by rw[HW.o,ja (by simpa using hkk)]);have HP:=Hd (HH.o.below HB2.o);have H0:=HN.o (by rw[hkk];exact hk);clear hkk;go_wp2_with fail;refine (zb5 p e ov st _ HP.o hn H0).mono ?_;rintro u w3 ⟨rfl,ha,ht⟩;have HA:=Hd ha;have HT:=Hd ((PTo.below (PTo.refl p W ov) HB2.o).trans ht);clear ha ht;go_wp2;refine bE ?_;exact zbn HE.o HA.o HT.o
 have hk':(t.kind != k)=true:=by simpa using hkk
 have HE:=jM (ze4 e k st=.error (t.at_,4)) (by rw[HW.o,jb (by simpa using hkk)]);clear hkk;go_wp2_with fail;refine (zc9 _ t.at_ 4 _).mono ?_;rintro u w3 ⟨rfl,rfl⟩;unfold flt;go_wp2;exact ⟨rfl,zay HE.o (HB2.o.mono (jF HH.o.lt))⟩
theorem zhj (p:Nat) (e:Int) (ov:Value) (st:PSt) (k n:Int) (s:zaa) (W:World) (h:PA W p e ov st) (hn:st.1.length<=1000000) (hn2:st.2.length<=100000) (h0:st.1≠ []):
 Calls prog 341 #[(aA p),.agg #[.int .u8 k,.int .i64 n,str s]] W λu W'=>u=.returned (.tuple #[])/\∃ov',PA W' p e ov' (putS { nod0 1 with vk:=k,vn:=n,vt:=s } (zap st))/\PTo p W ov W' ov':=by
 have HH:=Hd h;have hlt:=h.lt;have HB1:=jM (Below W W (W.alloc (.cells #[.int .u8 k,.int .i64 n,str s] 189))) (by go_grown);have K1:=Hd (je W 189 #[.int .u8 k,.int .i64 n,str s]);have HO:=jM (ov.ownBlock≠some W.heap.size) (λe=>by have:=h.ow.lt _ e;omega);clear h;go_enter func341,ntmps341;go_wp2_with fail;refine (zb5 p e ov st _ (HH.o.below HB1.o) hn h0).mono ?_;rintro u w1 ⟨rfl,ha,ht⟩;have HA:=Hd ha;have HT:=Hd ((PTo.below (PTo.refl p W ov) HB1.o).trans ht);have K2:=Hd (ht.blk K1.o (by omega) HO.o);clear ha ht;obtain ⟨c0,c1,c2⟩:=K2.o.c3 0 1 2;go_wp2_with fail;refine (zeg p e ov (zap st) { nod0 1 with vk:=k,vn:=n,vt:=s } _ HA.o hn2).mono ?_;rintro u w3 ⟨rfl,ov3,ha,ht⟩;have HA3:=Hd ha;have HT3:=Hd (HT.o.trans ht);clear ha ht;go_wp2;refine bE ?_;exact ⟨rfl,ov3,HA3.o,HT3.o⟩
theorem znv (op:Int) (W:World):Calls prog 286 #[.int .i64 op] W λu W'=>(∃b,∃e:Int,u=.returned (.tuple #[.int .i64 (zb4 op),.bool b,.int .i64 e]))/\W=W':=by
 by_cases h1:op=1
 ·subst h1;go_enter func286,ntmps286;go_wp2;go_ret3;exact ⟨⟨_,_,rfl⟩,rfl⟩
 by_cases h2:op=2
 ·subst h2;go_enter func286,ntmps286;go_wp2;go_ret3;exact ⟨⟨_,_,rfl⟩,rfl⟩
 by_cases h3:op=3
 ·subst h3;go_enter func286,ntmps286;go_wp2;go_ret3;exact ⟨⟨_,_,rfl⟩,rfl⟩
 by_cases h4:op=4
 ·subst h4;go_enter func286,ntmps286;go_wp2;go_ret3;exact ⟨⟨_,_,rfl⟩,rfl⟩
 by_cases h5:op=5
 ·subst h5;go_enter func286,ntmps286;go_wp2;go_ret3;exact ⟨⟨_,_,rfl⟩,rfl⟩
 by_cases h6:op=6
 ·subst h6;go_enter func286,ntmps286;go_wp2;go_ret3;exact ⟨⟨_,_,rfl⟩,rfl⟩
 by_cases h7:op=7
 ·subst h7;go_enter func286,ntmps286;go_wp2;go_ret3;exact ⟨⟨_,_,rfl⟩,rfl⟩
 by_cases h8:op=8
 ·subst h8;go_enter func286,ntmps286;go_wp2;go_ret3;exact ⟨⟨_,_,rfl⟩,rfl⟩
 by_cases h9:op=9
 ·subst h9;go_enter func286,ntmps286;go_wp2;go_ret3;exact ⟨⟨_,_,rfl⟩,rfl⟩
 by_cases h10:op=10
 ·subst h10;go_enter func286,ntmps286;go_wp2;go_ret3;exact ⟨⟨_,_,rfl⟩,rfl⟩
 by_cases h11:op=11
 ·subst h11;go_enter func286,ntmps286;go_wp2;go_ret3;exact ⟨⟨_,_,rfl⟩,rfl⟩
 by_cases h12:op=12
 ·subst h12;go_enter func286,ntmps286;go_wp2;go_ret3;exact ⟨⟨_,_,rfl⟩,rfl⟩
 by_cases h13:op=13
 ·subst h13;go_enter func286,ntmps286;go_wp2;go_ret3;exact ⟨⟨_,_,rfl⟩,rfl⟩
 have HE:=Hd (show zb4 op=0 by
  unfold zb4;rw[jS,jS,jS,jS,jS,jS])
 have b1:(op==1)=false:=by simpa using h1
 have b2:(op==2)=false:=by simpa using h2
 have b3:(op==3)=false:=by simpa using h3
 have b4:(op==4)=false:=by simpa using h4
 have b5:(op==5)=false:=by simpa using h5
 have b6:(op==6)=false:=by simpa using h6
 have b7:(op==7)=false:=by simpa using h7
 have b8:(op==8)=false:=by simpa using h8
 have b9:(op==9)=false:=by simpa using h9
 have b10:(op==10)=false:=by simpa using h10
 have b11:(op==11)=false:=by simpa using h11
 have b12:(op==12)=false:=by simpa using h12
 have b13:(op==13)=false:=by simpa using h13
 clear h1 h2 h3 h4 h5 h6 h7 h8 h9 h10 h11 h12 h13;go_enter func286,ntmps286;go_wp2;go_ret3;exact ⟨⟨_,_,by rw[HE.o];rfl⟩,rfl⟩
theorem zf9 (fn:Nat) (h1:1<=fn) (h2:fn<=50) (W:World):Calls prog 326 #[.int .u8 fn] W λu W'=>u=.returned (.tuple #[.int .i64 (zao fn).1,.int .i64 (zao fn).2.1,.int .i64 (zao fn).2.2])/\W=W':=by
 rcases (by omega:fn=1\/fn=2\/fn=3\/fn=4\/fn=5\/fn=6\/fn=7\/fn=8\/fn=9\/fn=10\/fn=11\/fn=12\/fn=13\/fn=14\/fn=15\/fn=16\/fn=17\/fn=18\/fn=19\/fn=20\/fn=21\/fn=22\/fn=23\/fn=24\/fn=25\/fn=26\/fn=27\/fn=28\/fn=29\/fn=30\/fn=31\/fn=32\/fn=33\/fn=34\/fn=35\/fn=36\/fn=37\/fn=38\/fn=39\/fn=40\/fn=41\/fn=42\/fn=43\/fn=44\/fn=45\/fn=46\/fn=47\/fn=48\/fn=49\/fn=50) with rfl|rfl|rfl|rfl|rfl|rfl|rfl|rfl|rfl|rfl|rfl|rfl|rfl|rfl|rfl|rfl|rfl|rfl|rfl|rfl|rfl|rfl|rfl|rfl|rfl|rfl|rfl|rfl|rfl|rfl|rfl|rfl|rfl|rfl|rfl|rfl|rfl|rfl|rfl|rfl|rfl|rfl|rfl|rfl|rfl|rfl|rfl|rfl|rfl|rfl
 all_goals
  go_enter func326,ntmps326;go_wp2;go_ret3;exact ⟨rfl,rfl⟩
theorem zav {r:PRes} {f:PSt->PRes} (h:thenS r f=.ok st'):∃st1,r=.ok st1/\f st1=.ok st':=by
 cases r with
 | error e=>cases h
 | ok st1=>exact ⟨st1,rfl,h⟩
theorem zai (st:PSt):(zap st).1.length=st.1.length-1:=by simp[zap]
theorem zah (st:PSt):(zap st).2=st.2:=rfl
theorem zcn (n:Nod) (st:PSt):(putS n st).1=st.1:=rfl
theorem zcf (n:Nod) (st:PSt):(putS n st).2.length=st.2.length+1:=by simp[putS]
theorem zcj (h:(zak e st).kind≠0):1<=st.1.length:=List.length_pos_iff.2 (ze2 h)
theorem zdb (h:zc3 e st op=true):1<=st.1.length:=by
 refine zcj (e:=e) ?_;unfold zc3 at h;rw[ji,decide_eq_true_eq,decide_eq_true_eq] at h;omega
def za0:Stg->Nat
 | .loop _=>0
 | .pctl=>0
 | _=>1
theorem zi3 {k:Int} (hk:k≠0) (h:ze4 e k st=.ok st'):st'=zap st/\1<=st.1.length:=by
 unfold ze4 at h;split at h
 ·cases h
 rename_i hh;cases h;exact ⟨rfl,zcj (e:=e) (by omega)⟩
theorem zw9 {n:Nat} (h:ze3 e name fn n st=.ok st'):st'.1.length+1<=st.1.length/\st'.1.length+st'.2.length<=st.1.length+st.2.length:=by
 unfold ze3 at h;split at h
 ·cases h
 rename_i hk;have hp:=zcj (e:=e) (st:=st) (by omega);split at h
 ·cases h
 split at h
 ·cases h
 cases h;rw[zcn,zcf,zai,zah];omega
theorem za4 (e:Int):∀(f:Nat) (g:Stg) (st st':PSt),parS e f g st=.ok st'->st'.1.length+za0 g<=st.1.length/\st'.1.length+st'.2.length<=st.1.length+st.2.length
 | 0,g,st,st',h=>by cases g <;> simp[parS] at h
 | f+1,.level k,st,st',h=>by
  unfold parS at h;obtain ⟨s1,h1,h2⟩:=zav h;have a:=za4 e f _ _ _ h1;have b:=za4 e f _ _ _ h2;have c:za0 (if k<4 then .level (k+1) else .sign)=1:=by split <;> rfl
  rw[c] at a;simp only[za0] at b ⊢;omega
 | f+1,.loop k,st,st',h=>by
  unfold parS at h;split at h
  ·cases h;simp[za0]
  rename_i hk;have hp:=zcj (e:=e) (st:=st) (by omega);obtain ⟨s1,h1,h2⟩:=zav h;have a:=za4 e f _ _ _ h1;have b:=za4 e f _ _ _ h2;rw[zcn,zcf] at b;rw[zai,zah] at a;simp only[za0] at b ⊢;omega
 | f+1,.sign,st,st',h=>by
  unfold parS at h;split at h
  ·rename_i hk;have hp:=zdb hk;obtain ⟨s1,h1,h2⟩:=zav h;have a:=za4 e f _ _ _ h1;rw[zai,zah] at a;cases h2;rw[zcn,zcf];simp only[za0] at a ⊢;omega
  obtain ⟨s1,h1,h2⟩:=zav h;have a:=za4 e f _ _ _ h1;split at h2
  ·rename_i hk;have hp:=zdb hk;obtain ⟨s2,h3,h4⟩:=zav h2;have b:=za4 e f _ _ _ h3;rw[zai,zah] at b;cases h4;rw[zcn,zcf];simp only[za0] at a b ⊢;omega
  cases h2;exact a
 | f+1,.pct,st,st',h=>by
  unfold parS at h;obtain ⟨s1,h1,h2⟩:=zav h;have a:=za4 e f _ _ _ h1;have b:=za4 e f _ _ _ h2;simp only[za0] at a b ⊢;omega
 | f+1,.pctl,st,st',h=>by
  unfold parS at h;split at h
  ·rename_i hk;have hp:=zdb hk;have a:=za4 e f _ _ _ h;rw[zcn,zcf,zai,zah] at a;simp only[za0] at a ⊢;omega
  cases h;simp[za0]
 | f+1,.prim,st,st',h=>by
  unfold parS at h;simp only[za0];have leaf:∀n:Nod,(zak e st).kind≠0->(putS n (zap st)).1.length+1<=st.1.length/\(putS n (zap st)).1.length+(putS n (zap st)).2.length<=st.1.length+st.2.length:=λn hk=>by
   have hp:=zcj hk;rw[zcn,zcf,zai,zah];omega
  simp only at h;split at h
  ·cases h;exact leaf _ (by omega)
  split at h
  ·cases h;exact leaf _ (by omega)
  split at h
  ·cases h;exact leaf _ (by omega)
  split at h
  ·cases h;exact leaf _ (by omega)
  split at h
  ·cases h;exact leaf _ (by omega)
  split at h
  ·rename_i hk;have hp:=zcj (e:=e) (st:=st) (by omega);obtain ⟨s1,h1,h2⟩:=zav h;have a:=za4 e f _ _ _ h1;obtain ⟨rfl,hq⟩:=zi3 (by omega) h2;rw[zai,zah] at a ⊢;simp only[za0] at a;omega
  split at h
  ·have a:=za4 e f _ _ _ h;simp only[za0] at a;exact a
  cases h
 | f+1,.call name,st,st',h=>by
  unfold parS at h;split at h
  ·cases h
  obtain ⟨s1,h1,h2⟩:=zav h;obtain ⟨rfl,hq⟩:=zi3 (by omega) h1;split at h2
  ·have a:=zw9 h2;rw[zai,zah,zai,zah] at a;simp only[za0];omega
  have a:=za4 e f _ _ _ h2;rw[zai,zah,zai,zah] at a;simp only[za0] at a ⊢;omega
 | f+1,.args name fn n,st,st',h=>by
  unfold parS at h;obtain ⟨s1,h1,h2⟩:=zav h;have a:=za4 e f _ _ _ h1;split at h2
  ·rename_i hk;have hp:=zcj (e:=e) (st:=s1) (by omega);have b:=za4 e f _ _ _ h2;rw[zai,zah] at b;simp only[za0] at a b ⊢;omega
  have b:=zw9 h2;simp only[za0] at a b ⊢;omega
 | f+1,.arg fn n,st,st',h=>by
  unfold parS at h;split at h
  ·have a:=za4 e f _ _ _ h;simp only[za0] at a ⊢;exact a
  rename_i hk;have hp:=zcj (e:=e) (st:=st) (by omega);split at h
  ·cases h
  cases h;rw[zcn,zcf,zai,zah];simp only[za0];omega
theorem zv8:∀(L:List Tok) (i:Nat) (t:Tok),zg3 L=true->L[i]?=some t->t.kind=7->∃u,L[i+1]?=some u/\u.kind=9
 | [],i,t,_,h,_=>by simp at h
 | a::L,0,t,hn,h,hk=>by
  simp only[List.getElem?_cons_zero,jl] at h;subst h;obtain ⟨u,hu,hv⟩:=(zk3 hn).2 hk;exact ⟨u,by rw[List.getElem?_cons_succ,<- List.head?_eq_getElem?];exact hu,hv⟩
 | a::L,i+1,t,hn,h,hk=>by
  rw[List.getElem?_cons_succ] at h;obtain ⟨u,hu,hv⟩:=zv8 L i t (zk3 hn).1 h hk;exact ⟨u,by rw[List.getElem?_cons_succ];exact hu,hv⟩
theorem za1 (L:List Tok) (i:Nat) (T:List Nod):zap (L.drop i,T)=(L.drop (i+1),T):=by
 unfold zap;simp only[List.tail_drop]
theorem zjy (e:Int) (L:List Tok) (i:Nat) (T:List Nod) (h:i<L.length):zak e (L.drop i,T)=L[i]:=by
 unfold zak;simp only[List.head?_drop,jz h,Option.getD_some]
theorem zof (e:Int) (L:List Tok) (i:Nat) (T:List Nod) (h:L.length<=i):zak e (L.drop i,T)={ tok0 with at_:=e }:=by
 unfold zak;simp only[List.head?_drop,List.getElem?_eq_none h,Option.getD_none]
theorem zg7 {L:List Tok} {T:List Nod} (h:(zak e (L.drop i,T)).kind≠0):i<L.length:=by
 rw[<- Nat.not_le];intro q;rw[zof e L i T q] at h;exact h rfl
end Go.Proofs.YtamcgggmfghljaaGreatDoor
