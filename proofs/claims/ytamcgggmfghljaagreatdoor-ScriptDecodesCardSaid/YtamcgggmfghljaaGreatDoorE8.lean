/- walk -/
import Derived.Test.YtamcgggmfghljaaGreatDoorE4
set_option maxRecDepth 100000
set_option maxHeartbeats 8000000
open Go.Proofs.Tryz
namespace Go.Proofs.YtamcgggmfghljaaGreatDoor
open Go.RowKit
variable {x:Int} {V n:Nat}
theorem zir (c r:Int) (w:World):
 Calls prog 123 #[.agg #[.int .i64 c,.int .i64 r]] w λe w'=>e=.returned (.agg #[.int .i64 c,.int .i64 r,.int .i64 c,.int .i64 r])/\Below w w w':=by
 go_enter func123,ntmps123;go_wp2;go_returns;exact ⟨rfl,by go_grown⟩
theorem z2o (c r:Int) (w:World):
 Calls prog 49 #[.agg #[.int .i64 c,.int .i64 r]] w λe w'=>e=.returned (.agg #[.int .i64 c,.int .i64 r,.int .i64 c,.int .i64 r])/\Below w w w':=by
 go_enter func49,ntmps49;go_wp2;go_returns;exact ⟨rfl,by go_grown⟩
theorem zzc (a b c d:Int) (w:World):
 Calls prog 189 #[.agg #[.int .i64 a,.int .i64 b,.int .i64 c,.int .i64 d]] w λe w'=>e=.returned (.agg #[.int .i64 a,.int .i64 b])/\Below w w w':=by
 go_enter func189,ntmps189;go_wp2;go_returns;exact ⟨rfl,by go_grown⟩
theorem r03_to (a b c d:Int) (w:World):
 Calls prog 190 #[.agg #[.int .i64 a,.int .i64 b,.int .i64 c,.int .i64 d]] w λe w'=>e=.returned (.agg #[.int .i64 c,.int .i64 d])/\Below w w w':=by
 go_enter func190,ntmps190;go_wp2;go_returns;exact ⟨rfl,by go_grown⟩
theorem zoy (w:World):
 Calls prog 171 #[] w λe w'=>e=.returned (.agg #[.int .i64 1,.int .i64 1,.int .i64 1024,.int .i64 1024])/\Below w w w':=by
 go_enter func171,ntmps171;go_wp2;go_returns;exact ⟨rfl,by go_grown⟩
theorem zvk (w:World):
 Calls prog 176 #[] w λe w'=>e=.returned (.agg #[.int .i64 1,.int .i64 1,.int .i64 1024,.int .i64 1024])/\Below w w w':=by
 go_enter func176,ntmps176;go_wp2;go_returns;exact ⟨rfl,by go_grown⟩
theorem zgp (c:UInt8) (t:zaa):(⟨(c::t).toArray⟩:ByteArray).extract 1 (t.length+1)=⟨t.toArray⟩:=by
 apply ByteArray.ext;simp
theorem zyd (c:UInt8) (t:zaa) (n:Int):(wrap64 ((⟨(c::t).toArray⟩:ByteArray)[0]'(by show 0<((c::t).toArray).size;simp)).toNat).tmod n=(take n (c::t)).1:=by
 have e:((⟨(c::t).toArray⟩:ByteArray)[0]'(by show 0<((c::t).toArray).size;simp))=c:=rfl;rw[e];have hc:c.toNat<256:=c.toNat_lt;have hw:wrap64 (c.toNat:Int)=(c.toNat:Int):=by unfold wrap64;omega
 rw[hw];show _=((c.toNat:Int) % n);exact Int.tmod_eq_emod_of_nonneg (by omega)
theorem zd3 (g:Nat) (s:zaa) (n:Int) (w:World) (h0:0<n) (hg:Blk w g 74 #[str s]):
 Calls prog 35 #[(aA g),.int .i64 n] w λe w'=>e=.returned (.int .i64 (take n s).1)/\Blk w' g 74 #[str (take n s).2]/\Chg (λk=>k=g) w w':=by
 have HG:=Hd hg
 cases s with
 | nil=>have hc:=hg.cell 0;clear hg;go_enter func35,ntmps35;go_wp2;go_ret;exact ⟨rfl,HG.o,Chg.refl _ _⟩
 | cons c t=>
  have hc:=hg.cell 0;have hf:w.frozen? (g,0)=false:=hg.frozen 0;clear hg;go_enter func35,ntmps35;go_wp2;go_ret;refine ⟨z2n (zyd c t n),?_,?_⟩
  ·rw[zgp];exact HG.o.set_ 0 (str t)
  exact (Chg.refl (λk=>k=g) _).setCell (p:=⟨g,0,none⟩) (.inl rfl) _
theorem zj3 (l:zaa) (k:Nat):(⟨l.toArray⟩:ByteArray).extract 0 k=⟨(l.take k).toArray⟩:=by
 apply ByteArray.ext;simp
theorem zev (l:zaa) (k n:Nat) (h:n=l.length):(⟨l.toArray⟩:ByteArray).extract k n=⟨(l.drop k).toArray⟩:=by
 subst h;apply ByteArray.ext;simp[jK]
theorem zwi (p:UInt8->Bool) (s:zaa):lenB p s 0<=s.length:=by
 unfold lenB;rw[List.drop_zero]
 induction s with
 | nil=>simp
 | cons c s ih=>
  rw[List.takeWhile_cons];split
  ·simpa using ih
  simp
theorem zz5 (p:UInt8->Bool) (s:zaa):lenB p s 0=s.length↔s.all p=true:=by
 unfold lenB;rw[List.drop_zero]
 induction s with
 | nil=>simp
 | cons c s ih=>
  rw[List.takeWhile_cons];by_cases h:p c=true
  ·simp only[h,if_true,jk,List.all_cons,Bool.true_and];rw[<- ih];omega
  simp[h]
theorem tw_all (p:UInt8->Bool) (s:zaa):(s.take (lenB p s 0)).all p=true:=by
 unfold lenB;rw[List.drop_zero]
 induction s with
 | nil=>simp
 | cons c s ih=>
  rw[List.takeWhile_cons];by_cases h:p c=true
  ·simp only[h,if_true,jk,jr,List.all_cons,Bool.true_and];exact ih
  simp[h]
theorem zjq:∀(l:zaa) (v:Nat) (c:UInt8),natB v (l++ [c])=10*natB v l+(c.toNat-48)
 | [],_,_=>rfl
 | _::l,_,c=>zjq l _ c
theorem zoj (p:zaa):5<=(zh8 p).length:=by unfold zh8;simp
theorem zok (p:zaa) (h:p.all digB=true):(zh8 p).all digB=true:=by
 unfold zh8;rw[List.all_append,h];rfl
theorem zqd {p:UInt8->Bool} {l:zaa} (k:Nat) (h:l.all p=true):(l.take k).all p=true:=by
 rw[List.all_eq_true] at h ⊢;exact λx hx=>h x (List.mem_of_mem_take hx)
theorem zfa {s u:zaa} (hu:unsB s=u) (hn:lenB digB u 0=n) (h:n=0\/zc7 (u.drop n)=none):zbf s=(0,4):=by
 unfold zbf;rw[hu,hn];rcases h with h | h
 ·subst h;cases zc7 (u.drop 0) <;> simp
 rw[h]
theorem zky {s u p:zaa} (hu:unsB s=u) (hn:lenB digB u 0=n) (h:zc7 (u.drop n)=some p) (h0:n≠0):
 zbf s=if zc2<zjb (u.take n) p then (0,3) else (if negB s then -(zjb (u.take n) p:Int) else zjb (u.take n) p,0):=by
 unfold zbf;rw[hu,hn,h];simp[h0]
theorem zd1 (x:Int):0<=IntKind.u64.wrap x/\IntKind.u64.wrap x<18446744073709551616:=by rw[IntKind.wrap_u64];omega
def Upto (V:Nat) (x:Int) (g:Bool):Prop:=0<=x/\x<18446744073709551616/\(g=true->zc2<V)/\(g=false->x=V/\V<=zc2)
theorem Upto.yes (h:Upto V x true) (d:Nat) (y:Int) (y0:0<=y) (y1:y<18446744073709551616):Upto (10*V+d) y true:=
 ⟨y0,y1,λ_=>by have:=h.2.2.1 rfl;unfold zc2 at *;omega,λe=>by cases e⟩
theorem Upto.more (h:Upto V x false) (d:Nat) (y:Int) (y0:0<=y) (y1:y<18446744073709551616) (hb:922337203685477580<x):Upto (10*V+d) y true:=
 ⟨y0,y1,λ_=>by have:=h.2.2.2 rfl;unfold zc2 at *;omega,λe=>by cases e⟩
theorem Upto.no (h:Upto V x false) (d:Nat) (hd:d<=9) (hb:¬922337203685477580<x):10*x+d<18446744073709551616/\Upto (10*V+d) (10*x+d) (decide (9223372036854775807<10*x+(d:Int))):=by
 obtain ⟨h0,h1,_,h3⟩:=h;obtain ⟨h3,h4⟩:=h3 rfl;refine ⟨by omega,by omega,by omega,λe=>?_,λe=>?_⟩
 ·have:=of_decide_eq_true e;unfold zc2;omega
 have:=of_decide_eq_false e;unfold zc2;omega
theorem zgm (s:zaa) (w:World) (hs:s.length<=1000000):
 Calls prog 220 #[str s] w λu w'=>u=.returned (.tuple #[.int .i64 (zbf s).1,.int .i64 (zbf s).2])/\Below w w w':=by
 cases s with
 | nil=>go_enter func220,ntmps220;go_wp2_with fail;refine (zgl _ _ (by show 0<=_;omega)).mono ?_;rintro e w1 ⟨rfl,rfl⟩;rw[show lenB digB (⟨([]:zaa).toArray⟩:ByteArray).data.toList 0=0 from rfl];go_wp2_with fail;go_quiet (fail);go_wp2;go_ret2;exact ⟨rfl,jf (jg _ _) _⟩
 | cons c t=>
  obtain ⟨S0,hS0⟩:=jN (c::t);rw[show zbf (c::t)=zbf S0 by rw[hS0]];have h0:((⟨(c::t).toArray⟩:ByteArray)[0]'(by show 0<((c::t).toArray).size;simp))=c:=rfl;by_cases hneg:c=45
  case' pos=>
   subst hneg;have hul:t.length<=1000000:=by simp at hs;omega
   have HU:=jM (unsB S0=t) (by rw[<- hS0];rfl);have HNB:=jM (negB S0=true) (by rw[<- hS0];rfl);clear hS0;go_enter func220,ntmps220;go_wp2_with fail;rw[zgp];refine (zgl _ _ (by rw[zae];omega)).mono ?_;rintro e w1 ⟨rfl,rfl⟩;clear h0;obtain ⟨u,hu⟩:=jN t;rw[hu] at HU hul ⊢;clear hu
  case' neg=>
   have c1:((c.toNat:Int)==45)=false:=by simp only[jI,ne_eq];intro e;exact hneg (UInt8.toNat_inj.1 (by simpa using (by omega:c.toNat=45)))
   have hnb:negB (c::t)=false:=by simpa [negB] using hneg
   have HU:=jM (unsB S0=S0) (by rw[<- hS0];unfold unsB;rw[hnb];rfl);have HNB:=jM (negB S0=false) (by rw[<- hS0];exact hnb);have HSS:=Hd hS0;clear hS0;go_enter func220,ntmps220;go_wp2_with fail;refine (zgl _ _ (by rw[zae];omega)).mono ?_;rintro e w1 ⟨rfl,rfl⟩;clear h0 c1 hneg hnb;obtain ⟨u,hcu⟩:=jN (c::t);rw[hcu];replace HU:=Hd (HU.o.trans (HSS.o.symm.trans hcu));have hul:u.length<=1000000:=by rw[<- hcu];exact hs
   clear HSS hcu
  all_goals
   have hn1:=zwi digB u;obtain ⟨n,hn⟩:=jN (lenB digB u 0);rw[show lenB digB (⟨u.toArray⟩:ByteArray).data.toList 0=n from hn];rw[hn] at hn1;have HN:=Hd hn;have htw:=tw_all digB u;rw[hn] at htw;clear hn;have hn2:(0:Int)<=(n:Int):=by omega
   have hn3:(n:Int)<=(u.length:Int):=by omega
   have HTW:=Hd htw;clear htw;go_wp2_with fail;go_quiet (fail);rw[zj3,zev _ _ _ rfl];obtain ⟨r,hr⟩:=jN (u.drop n);obtain ⟨wh,hwh⟩:=jN (u.take n);rw[hr,hwh];have hrl:r.length<=u.length:=by rw[<- hr];simp
   have hwl:wh.length=n:=by rw[<- hwh];simp;omega
   have HR:=Hd hr;have HWH:=Hd hwh;have HWD:=jM (wh.all digB=true) (by rw[<- hwh];exact HTW.o);clear hr hwh;rcases r with _ | ⟨d,t2⟩
   ·have HPL:=jM (zc7 (u.drop n)=some []) (by rw[HR.o];rfl);by_cases hn0:n=0
    ·have HP:=Hd (zfa HU.o HN.o (.inl hn0));subst hn0;go_wp2;go_ret2;exact ⟨by rw[HP.o];rfl,jf (jg _ _) _⟩
    obtain ⟨p,hp⟩:∃p:zaa,p=[]:=⟨_,rfl⟩;rw[<- hp] at HPL;have HPD:=jM (p.all digB=true) (by rw[hp];rfl);have hpl:p.length<=u.length:=by rw[hp];simp
    subst hp;have hn5:((n:Int)==0)=false:=by simpa using hn0
    have HP:=Hd (zky HU.o HN.o HPL.o hn0);go_wp2;rw[show (⟨#[]⟩:ByteArray)++⟨#[48,48,48,48,48]⟩=⟨(zh8 []).toArray⟩ from zdf [] [48,48,48,48,48],zj3,zdf];have hf5:=zoj [];have hfd:=zok [] HPD.o;obtain ⟨f,hf⟩:=jN (zh8 []);rw[hf] at hf5 hfd ⊢;obtain ⟨L,hL⟩:=jN (wh++f.take 4);rw[hL];have hLd:L.all digB=true:=by rw[<- hL,List.all_append,HWD.o,zqd 4 hfd];rfl
    have hLl:L.length<=2000000:=by rw[<- hL];simp;omega
    have HF:=Hd hf;have HL:=Hd hL;clear hf hL;obtain ⟨cap,hcap⟩:∃cap,cap=grownCap (w.drewN nq) L.length 0 5:=⟨_,rfl⟩;have hcv:(convert 9 59 (.string ⟨L.toArray⟩)).run prog (w.drewN nq)=.ok (.slice (some (w,0)) L.length cap) ((w.drewN (nq+1)).alloc (.cells (bytesRow ⟨L.toArray⟩ cap) 5 ((bytesRow ⟨L.toArray⟩ cap).size,(bytesRow ⟨L.toArray⟩ cap).size+1))):=by rw[hcap];have h:=run_bytes_of_string (P:=prog) (w.drewN nq) 9 59 5 ⟨L.toArray⟩ rfl rfl rfl;rw[zae] at h;exact h
    have hrow:∀(j:Nat) (c:UInt8),L[j]?=some c->(bytesRow ⟨L.toArray⟩ cap)[j]?=some (.int .u8 c.toNat):=by intro j c hj;obtain ⟨h1,h2⟩:=jE.1 hj;have:=bytesRow_at ⟨L.toArray⟩ cap j (by simpa using h1);rw[this];simp[h2]
    have HROW:=Hd hrow;generalize bytesRow ⟨L.toArray⟩ cap=row at *;clear hcap hrow;have HBW:=jM (Below w w ((w.drewN (nq+1)).alloc (.cells row 5 (row.size,row.size+1)))) ((jf (jg _ _) _).alloc jy _);have HC:=jM (∀(j:Nat) (c:UInt8),L[j]?=some c->((w.drewN (nq+1)).alloc (.cells row 5 (row.size,row.size+1))).cell? (w,j)=some (.int .u8 c.toNat)) (λj c hj=>(World.cell?_alloc_mark (w.drewN (nq+1)) row 5 (row.size,row.size+1) j).trans (HROW.o j c hj));rw[hcv];clear hcv;go_simp;go_wp2;obtain ⟨W1,hW1⟩:=jN ((w.drewN (nq+1)).alloc (.cells row 5 (row.size,row.size+1)));rw[hW1] at HBW HC ⊢;clear hW1;go_loopw [9,10,67] (λv g i wr=>∃(k:Nat) (x:Int) (gb:Bool),k<=L.length/\v=.int .u64 x/\g=.bool gb/\i=.int .i64 k/\Upto (natB 0 (L.take k)) x gb/\W1=wr) (λ_ _ i _=>L.length-(intOf i).toNat)
    case atStart=>exact ⟨0,0,false,by omega,rfl,rfl,rfl,⟨by omega,by omega,(λe=>by cases e),λ_=>⟨rfl,by unfold zc2;exact Nat.zero_le _⟩⟩,rfl⟩
    obtain ⟨k,x,gb,hk,rfl,rfl,rfl,hup,rfl⟩:=hrel;have x0:0<=x:=hup.1;have x1:x<18446744073709551616:=hup.2.1;have HUP:=Hd hup;clear hup;by_cases hlt:k<L.length
    ·have hi0:(0:Int)<=(k:Int):=jw _;have hi1:(k:Int)<(L.length:Int):=by omega
     have hlk:L[k]?=some L[k]:=jz hlt;have hcl:W1.cell? (w,k)=some (.int .u8 (L[k].toNat:Int)):=HC.o k _ hlk;have hdg:digB L[k]=true:=List.all_eq_true.1 hLd _ (jj hlt);have HS:=jM (natB 0 (L.take (k+1))=10*natB 0 (L.take k)+(L[k].toNat-48)) (by rw[jC hlt];exact zjq _ _ _);generalize L[k]=c at *;have g1:48<=(c.toNat:Int):=by simp[digB] at hdg;omega
     have g2:(c.toNat:Int)<=57:=by simp[digB] at hdg;omega
     obtain ⟨q,hq⟩:∃q:Nat,c.toNat=48+q:=⟨c.toNat-48,by omega⟩;have HQ:=jM (c.toNat-48=q) (by omega);have hq9:(q:Int)<=9:=by omega
     clear hdg hlk;rw[hq] at hcl;clear hq g1 g2;by_cases hbig:922337203685477580<x
     ·cases gb
      ·have HY:=Hd (λy a b=>HUP.o.more q y a b hbig);go_wp2;exact ⟨⟨k+1,_,true,by omega,rfl,rfl,by go_num,by rw[HS.o,HQ.o];first | exact HY.o _ (by omega) (by omega) | exact HY.o _ (zd1 _).1 (zd1 _).2,trivial⟩,by simp[intOf];omega⟩
      have HY:=Hd (λy a b=>HUP.o.yes q y a b);go_wp2;exact ⟨⟨k+1,_,true,by omega,rfl,rfl,by go_num,by rw[HS.o,HQ.o];first | exact HY.o _ (by omega) (by omega) | exact HY.o _ (zd1 _).1 (zd1 _).2,trivial⟩,by simp[intOf];omega⟩
     cases gb
     ·obtain ⟨hlt2,hup2⟩:=HUP.o.no q (by omega) hbig;have HY:=Hd hup2;clear hup2;go_wp2;exact ⟨⟨k+1,_,_,by omega,rfl,rfl,by go_num,by rw[HS.o,HQ.o,show (48+(q:Int)-48)=q by omega];exact HY.o,trivial⟩,by simp[intOf];omega⟩
     have HY:=Hd (λy a b=>HUP.o.yes q y a b);go_wp2;exact ⟨⟨k+1,_,true,by omega,rfl,rfl,by go_num,by rw[HS.o,HQ.o];first | exact HY.o _ (by omega) (by omega) | exact HY.o _ (zd1 _).1 (zd1 _).2,trivial⟩,by simp[intOf];omega⟩
    have HV:=jM (natB 0 (L.take k)=natB 0 L) (by rw[jK (by omega)]);have hf4:(4:Int)<(f.length:Int):=by omega
    have h4:((⟨f.toArray⟩:ByteArray)[4]'(by show 4<f.toArray.size;simp;omega))=f.getD 4 0:=by rw[jL,jz (by omega)];rfl
    have HZ:=jM (zjb (u.take n) []=natB 0 L+if 53<=(f.getD 4 0).toNat then 1 else 0) (by unfold zjb ub;rw[HF.o,HWH.o,HL.o]);have hq:=(f.getD 4 0).toNat_lt;generalize f.getD 4 0=q at *;rw[HV.o] at HUP;have hx:=HUP.o.2.2;cases gb
    ·obtain ⟨hxv,hxm⟩:=hx.2 rfl;have HX:=Hd hxv;unfold zc2 at hxm;have hxm2:x<=9223372036854775807:=by omega
     clear hx hxv hxm;by_cases h53:53<=(q.toNat:Int)
     ·by_cases hm:9223372036854775807<x+1
      ·have HE:=Hd (show zbf S0=(0,3) by
        have hz:=HZ.o;rw[jT] at hz;rw[HP.o,hz,jb (by have:=HX.o;unfold zc2;omega)])
       go_wp2;go_ret2;exact ⟨by rw[HE.o];rfl,HBW.o⟩
      have HE:=Hd (show zbf S0=(if negB S0 then -(x+1) else x+1,0) by
       have hz:=HZ.o;rw[jT] at hz;rw[HP.o,hz,ja (by have:=HX.o;unfold zc2;omega),HX.o];rfl)
      go_wp2_with fail;refine (zhe (x+1) _ _ (by omega) (by omega)).mono ?_;rintro e w2 ⟨rfl,rfl⟩;go_wp2;go_ret2;exact ⟨by rw[HE.o,HNB.o];rfl,HBW.o⟩
     have hm:¬9223372036854775807<x:=by omega
     have HE:=Hd (show zbf S0=(if negB S0 then -x else x,0) by
      have hz:=HZ.o;rw[jS,Nat.add_zero] at hz;rw[HP.o,hz,ja (by have:=HX.o;unfold zc2;omega),HX.o])
     go_wp2_with fail;refine (zhe x _ _ (by omega) (by omega)).mono ?_;rintro e w2 ⟨rfl,rfl⟩;go_wp2;go_ret2;exact ⟨by rw[HE.o,HNB.o];rfl,HBW.o⟩
    have HX:=Hd (hx.1 rfl);have HE:=jM (zbf S0=(0,3)) (by rw[HP.o,HZ.o,jb (by have:=HX.o;unfold zc2 at *;omega)]);clear hx;by_cases h53:53<=(q.toNat:Int)
    ·go_wp2;go_ret2;exact ⟨by rw[HE.o];rfl,HBW.o⟩
    go_wp2;go_ret2;exact ⟨by rw[HE.o];rfl,HBW.o⟩
   by_cases ht2:t2=[]
   ·subst ht2;have HPN:=jM (zc7 (u.drop n)=none) (by rw[HR.o];unfold zc7;dsimp only;rw[ja (by simp)]);have HP:=Hd (zfa HU.o HN.o (.inr HPN.o));by_cases hn0:n=0
    ·subst hn0;go_wp2;go_ret2;exact ⟨by rw[HP.o];rfl,jf (jg _ _) _⟩
    have hn5:((n:Int)==0)=false:=by simpa using hn0
    go_wp2;go_ret2;exact ⟨by rw[HP.o];rfl,jf (jg _ _) _⟩
   have ht3:0<t2.length:=List.length_pos_iff.2 ht2;have ht4:(1:Int)<(t2.length:Int)+1:=by omega
   have hr0:((⟨(d::t2).toArray⟩:ByteArray)[0]'(by show 0<((d::t2).toArray).size;simp))=d:=rfl;by_cases hd:d=46;rotate_left
   ·have hd5:((d.toNat:Int)==46)=false:=by
     simp only[jI,ne_eq];intro e;exact hd (UInt8.toNat_inj.1 (by simpa using (by omega:d.toNat=46)))
    have HPN:=jM (zc7 (u.drop n)=none) (by rw[HR.o];unfold zc7;dsimp only;rw[ja (by exact λh=>hd h.1)]);have HP:=Hd (zfa HU.o HN.o (.inr HPN.o));by_cases hn0:n=0
    ·subst hn0;go_wp2;go_ret2;exact ⟨by rw[HP.o];rfl,jf (jg _ _) _⟩
    have hn5:((n:Int)==0)=false:=by simpa using hn0
    go_wp2;go_ret2;exact ⟨by rw[HP.o];rfl,jf (jg _ _) _⟩
   subst hd;have hr5:t2.length<=1000000:=by simp at hrl;omega
   go_wp2_with fail;rw[zgp];refine (zgl _ _ (by rw[zae];omega)).mono ?_;rintro e w2 ⟨rfl,rfl⟩;rw[show lenB digB (⟨t2.toArray⟩:ByteArray).data.toList 0=lenB digB t2 0 from rfl];have hall:=zz5 digB t2;obtain ⟨m,hm⟩:=jN (lenB digB t2 0);rw[hm] at hall ⊢;clear hm hr0;by_cases hm:m=t2.length;rotate_left
   ·have hmb:((m:Int)==(t2.length:Int))=false:=by simp;omega
    have hal:¬t2.all digB=true:=λh=>hm (hall.2 h);clear hall;have HPN:=jM (zc7 (u.drop n)=none) (by rw[HR.o];unfold zc7;dsimp only;rw[ja (by exact λh=>hal h.2.2)]);have HP:=Hd (zfa HU.o HN.o (.inr HPN.o));by_cases hn0:n=0
    ·subst hn0;go_wp2;go_ret2;exact ⟨by rw[HP.o];rfl,jf (jg _ _) _⟩
    have hn5:((n:Int)==0)=false:=by simpa using hn0
    go_wp2;go_ret2;exact ⟨by rw[HP.o];rfl,jf (jg _ _) _⟩
   have hal:t2.all digB=true:=hall.1 hm;subst hm;have HAL:=Hd hal;clear hall hal;have hmb:((t2.length:Int)==(t2.length:Int))=true:=by simp
   have HPL:=jM (zc7 (u.drop n)=some t2) (by rw[HR.o];unfold zc7;dsimp only;rw[jb ⟨rfl,ht2,HAL.o⟩]);clear ht2;by_cases hn0:n=0
   ·have HP:=Hd (zfa HU.o HN.o (.inl hn0));subst hn0;go_wp2;go_ret2;exact ⟨by rw[HP.o];rfl,jf (jg _ _) _⟩
   obtain ⟨p,hp⟩:∃p:zaa,p=t2:=⟨_,rfl⟩;have HPD:=HAL;have hpl:t2.length<=u.length:=by simp at hrl;omega
   clear hp p;have hn5:((n:Int)==0)=false:=by simpa using hn0
   have HP:=Hd (zky HU.o HN.o HPL.o hn0);go_wp2;rw[zgp];rw[show (⟨t2.toArray⟩:ByteArray)++⟨#[48,48,48,48,48]⟩=⟨(zh8 t2).toArray⟩ from zdf t2 [48,48,48,48,48],zj3,zdf];have hf5:=zoj t2;have hfd:=zok t2 HPD.o;obtain ⟨f,hf⟩:=jN (zh8 t2);rw[hf] at hf5 hfd ⊢;obtain ⟨L,hL⟩:=jN (wh++f.take 4);rw[hL];have hLd:L.all digB=true:=by rw[<- hL,List.all_append,HWD.o,zqd 4 hfd];rfl
   have hLl:L.length<=2000000:=by rw[<- hL];simp;omega
   have HF:=Hd hf;have HL:=Hd hL;clear hf hL;obtain ⟨cap,hcap⟩:∃cap,cap=grownCap (w.drewN nq) L.length 0 5:=⟨_,rfl⟩;have hcv:(convert 9 59 (.string ⟨L.toArray⟩)).run prog (w.drewN nq)=.ok (.slice (some (w,0)) L.length cap) ((w.drewN (nq+1)).alloc (.cells (bytesRow ⟨L.toArray⟩ cap) 5 ((bytesRow ⟨L.toArray⟩ cap).size,(bytesRow ⟨L.toArray⟩ cap).size+1))):=by rw[hcap];have h:=run_bytes_of_string (P:=prog) (w.drewN nq) 9 59 5 ⟨L.toArray⟩ rfl rfl rfl;rw[zae] at h;exact h
   have hrow:∀(j:Nat) (c:UInt8),L[j]?=some c->(bytesRow ⟨L.toArray⟩ cap)[j]?=some (.int .u8 c.toNat):=by intro j c hj;obtain ⟨h1,h2⟩:=jE.1 hj;have:=bytesRow_at ⟨L.toArray⟩ cap j (by simpa using h1);rw[this];simp[h2]
   have HROW:=Hd hrow;generalize bytesRow ⟨L.toArray⟩ cap=row at *;clear hcap hrow;have HBW:=jM (Below w w ((w.drewN (nq+1)).alloc (.cells row 5 (row.size,row.size+1)))) ((jf (jg _ _) _).alloc jy _);have HC:=jM (∀(j:Nat) (c:UInt8),L[j]?=some c->((w.drewN (nq+1)).alloc (.cells row 5 (row.size,row.size+1))).cell? (w,j)=some (.int .u8 c.toNat)) (λj c hj=>(World.cell?_alloc_mark (w.drewN (nq+1)) row 5 (row.size,row.size+1) j).trans (HROW.o j c hj));rw[hcv];clear hcv;go_simp;go_wp2;obtain ⟨W1,hW1⟩:=jN ((w.drewN (nq+1)).alloc (.cells row 5 (row.size,row.size+1)));rw[hW1] at HBW HC ⊢;clear hW1;go_loopw [9,10,67] (λv g i wr=>∃(k:Nat) (x:Int) (gb:Bool),k<=L.length/\v=.int .u64 x/\g=.bool gb/\i=.int .i64 k/\Upto (natB 0 (L.take k)) x gb/\W1=wr) (λ_ _ i _=>L.length-(intOf i).toNat)
   case atStart=>exact ⟨0,0,false,by omega,rfl,rfl,rfl,⟨by omega,by omega,(λe=>by cases e),λ_=>⟨rfl,by unfold zc2;exact Nat.zero_le _⟩⟩,rfl⟩
   obtain ⟨k,x,gb,hk,rfl,rfl,rfl,hup,rfl⟩:=hrel;have x0:0<=x:=hup.1;have x1:x<18446744073709551616:=hup.2.1;have HUP:=Hd hup;clear hup;by_cases hlt:k<L.length
   ·have hi0:(0:Int)<=(k:Int):=jw _;have hi1:(k:Int)<(L.length:Int):=by omega
    have hlk:L[k]?=some L[k]:=jz hlt;have hcl:W1.cell? (w,k)=some (.int .u8 (L[k].toNat:Int)):=HC.o k _ hlk;have hdg:digB L[k]=true:=List.all_eq_true.1 hLd _ (jj hlt);have HS:=jM (natB 0 (L.take (k+1))=10*natB 0 (L.take k)+(L[k].toNat-48)) (by rw[jC hlt];exact zjq _ _ _);generalize L[k]=c at *;have g1:48<=(c.toNat:Int):=by simp[digB] at hdg;omega
    have g2:(c.toNat:Int)<=57:=by simp[digB] at hdg;omega
    obtain ⟨q,hq⟩:∃q:Nat,c.toNat=48+q:=⟨c.toNat-48,by omega⟩;have HQ:=jM (c.toNat-48=q) (by omega);have hq9:(q:Int)<=9:=by omega
    clear hdg hlk;rw[hq] at hcl;clear hq g1 g2;by_cases hbig:922337203685477580<x
    ·cases gb
     ·have HY:=Hd (λy a b=>HUP.o.more q y a b hbig);go_wp2;exact ⟨⟨k+1,_,true,by omega,rfl,rfl,by go_num,by rw[HS.o,HQ.o];first | exact HY.o _ (by omega) (by omega) | exact HY.o _ (zd1 _).1 (zd1 _).2,trivial⟩,by simp[intOf];omega⟩
     have HY:=Hd (λy a b=>HUP.o.yes q y a b);go_wp2;exact ⟨⟨k+1,_,true,by omega,rfl,rfl,by go_num,by rw[HS.o,HQ.o];first | exact HY.o _ (by omega) (by omega) | exact HY.o _ (zd1 _).1 (zd1 _).2,trivial⟩,by simp[intOf];omega⟩
    cases gb
    ·obtain ⟨hlt2,hup2⟩:=HUP.o.no q (by omega) hbig;have HY:=Hd hup2;clear hup2;go_wp2;exact ⟨⟨k+1,_,_,by omega,rfl,rfl,by go_num,by rw[HS.o,HQ.o,show (48+(q:Int)-48)=q by omega];exact HY.o,trivial⟩,by simp[intOf];omega⟩
    have HY:=Hd (λy a b=>HUP.o.yes q y a b);go_wp2;exact ⟨⟨k+1,_,true,by omega,rfl,rfl,by go_num,by rw[HS.o,HQ.o];first | exact HY.o _ (by omega) (by omega) | exact HY.o _ (zd1 _).1 (zd1 _).2,trivial⟩,by simp[intOf];omega⟩
   have HV:=jM (natB 0 (L.take k)=natB 0 L) (by rw[jK (by omega)]);have hf4:(4:Int)<(f.length:Int):=by omega
   have h4:((⟨f.toArray⟩:ByteArray)[4]'(by show 4<f.toArray.size;simp;omega))=f.getD 4 0:=by rw[jL,jz (by omega)];rfl
   have HZ:=jM (zjb (u.take n) t2=natB 0 L+if 53<=(f.getD 4 0).toNat then 1 else 0) (by unfold zjb ub;rw[HF.o,HWH.o,HL.o]);have hq:=(f.getD 4 0).toNat_lt;generalize f.getD 4 0=q at *;rw[HV.o] at HUP;have hx:=HUP.o.2.2;cases gb
   ·obtain ⟨hxv,hxm⟩:=hx.2 rfl;have HX:=Hd hxv;unfold zc2 at hxm;have hxm2:x<=9223372036854775807:=by omega
    clear hx hxv hxm;by_cases h53:53<=(q.toNat:Int)
    ·by_cases hm:9223372036854775807<x+1
     ·have HE:=Hd (show zbf S0=(0,3) by
       have hz:=HZ.o;rw[jT] at hz;rw[HP.o,hz,jb (by have:=HX.o;unfold zc2;omega)])
      go_wp2;go_ret2;exact ⟨by rw[HE.o];rfl,HBW.o⟩
     have HE:=Hd (show zbf S0=(if negB S0 then -(x+1) else x+1,0) by
      have hz:=HZ.o;rw[jT] at hz;rw[HP.o,hz,ja (by have:=HX.o;unfold zc2;omega),HX.o];rfl)
     go_wp2_with fail;refine (zhe (x+1) _ _ (by omega) (by omega)).mono ?_;rintro e w2 ⟨rfl,rfl⟩;go_wp2;go_ret2;exact ⟨by rw[HE.o,HNB.o];rfl,HBW.o⟩
    have hm:¬9223372036854775807<x:=by omega
    have HE:=Hd (show zbf S0=(if negB S0 then -x else x,0) by
     have hz:=HZ.o;rw[jS,Nat.add_zero] at hz;rw[HP.o,hz,ja (by have:=HX.o;unfold zc2;omega),HX.o])
    go_wp2_with fail;refine (zhe x _ _ (by omega) (by omega)).mono ?_;rintro e w2 ⟨rfl,rfl⟩;go_wp2;go_ret2;exact ⟨by rw[HE.o,HNB.o];rfl,HBW.o⟩
   have HX:=Hd (hx.1 rfl);have HE:=jM (zbf S0=(0,3)) (by rw[HP.o,HZ.o,jb (by have:=HX.o;unfold zc2 at *;omega)]);clear hx;by_cases h53:53<=(q.toNat:Int)
   ·go_wp2;go_ret2;exact ⟨by rw[HE.o];rfl,HBW.o⟩
   go_wp2;go_ret2;exact ⟨by rw[HE.o];rfl,HBW.o⟩
theorem zyg (g:Nat) (s:zaa) (w:World) (k0:Blk w g 74 #[str s]):
 Calls prog 38 (aP g) w λe w'=>e=.returned (.agg #[.int .i64 (spot s).1.col,.int .i64 (spot s).1.row])/\Blk w' g 74 #[str (spot s).2]/\Chg (λk=>k=g) w w':=by
 have hg:=k0.lt;have b1:=zlq 3 (by decide) s;have b2:=zlq 4 (by decide) (take 3 s).2;have K0:=Hd k0;clear k0;go_enter func38,ntmps38;go_wp2_with fail;refine (zd3 g s 3 _ (by decide) (by have k0:=K0.o;exact (by repeat' (first | with_reducible exact k0 | with_reducible refine Blk.drew ?_ | with_reducible refine Blk.alloc ?_ _ | with_reducible refine Blk.far ?_ ?_ _ | (simp;done) | (simp;omega) | omega | exact k0)))).mono ?_;rintro e w1 ⟨rfl,k1,hd1⟩;have hz1:=hd1.size
 try simp at hz1
 have hD1:Chg (λk=>k=g) w w1:=Chg.trans (by repeat' (first | with_reducible exact Chg.refl _ _ | with_reducible assumption | with_reducible refine Chg.alloc ?_ _ | with_reducible refine Chg.drew ?_ | with_reducible refine Chg.setCell ?_ (.inr ?_) _ | (simp;done) | (simp;omega) | omega)) (hd1.mono (λk hk hs=>hs));obtain ⟨hc1_0,hl1_0,hm1_0,hn1_0,ho1_0,hf1_0⟩:=oldC (g:=w) hd1 (by first | (simp;done) | (simp;omega) | omega) (by first | omega | (simp;omega));go_wp2_with fail;refine (zd3 g _ 4 _ (by decide) (by repeat' (first | with_reducible exact k1 | with_reducible refine Blk.drew ?_ | with_reducible refine Blk.alloc ?_ _ | with_reducible refine Blk.far ?_ ?_ _ | (simp;done) | (simp;omega) | omega | exact k1))).mono ?_;rintro e w2 ⟨rfl,k2,hd2⟩;have hz2:=hd2.size
 try simp at hz2
 have hD2:Chg (λk=>k=g) w w2:=Chg.trans (by repeat' (first | with_reducible exact Chg.refl _ _ | with_reducible assumption | with_reducible refine Chg.alloc ?_ _ | with_reducible refine Chg.drew ?_ | with_reducible refine Chg.setCell ?_ (.inr ?_) _ | (simp;done) | (simp;omega) | omega)) (hd2.mono (λk hk hs=>hs));obtain ⟨hc2_0,hl2_0,hm2_0,hn2_0,ho2_0,hf2_0⟩:=oldC (g:=w) hd2 (by first | (simp;done) | (simp;omega) | omega) (by first | omega | (simp;omega));go_wp2;refine jO results38 (v:=.agg #[.int .i64 (1+(take 3 s).1),.int .i64 (1+(take 4 (take 3 s).2).1)]) ?_ (by simp (maxDischargeDepth:=9) [jQ,go_sem,hc1_0,hc2_0]);exact ⟨rfl,(by repeat' (first | with_reducible exact k2 | with_reducible refine Blk.drew ?_ | with_reducible refine Blk.alloc ?_ _ | with_reducible refine Blk.far ?_ ?_ _ | (simp;done) | (simp;omega) | omega | exact k2)),(by repeat' (first | with_reducible exact Chg.refl _ _ | with_reducible assumption | with_reducible refine Chg.alloc ?_ _ | with_reducible refine Chg.drew ?_ | with_reducible refine Chg.setCell ?_ (.inr ?_) _ | (simp;done) | (simp;omega) | omega))⟩
theorem zvn (u:Nat) (hu:u<=4):(0:Int)<2 ^ u/\(2:Int) ^ u<=16:=by
 have h:u=0\/u=1\/u=2\/u=3\/u=4:=by omega
 rcases h with rfl|rfl|rfl|rfl|rfl <;> simp
theorem zj6 (g:Nat) (s:zaa) (u:Nat) (w:World) (hu:(u:Int)<=4) (k0:Blk w g 74 #[str s]):
 Calls prog 41 #[(aA g),.int .i64 u] w λe w'=>e=.returned (.int .u64 (zh9 u s).1)/\Blk w' g 74 #[str (zh9 u s).2]/\Chg (λk=>k=g) w w':=by
 have hp:=zvn u (by omega);have hb:=zlq (2 ^ u) hp.1 s;have HT:=Hd (zd3 g s (2 ^ u) w hp.1 k0);clear k0;go_enter func41,ntmps41;go_wp2_with fail;refine HT.o.mono ?_;rintro e w1 ⟨rfl,k1,hd1⟩;go_wp2;go_ret;exact ⟨rfl,k1,hd1⟩
theorem zt2 (g:Nat) (s:zaa) (u:Nat) (w:World) (hu:(u:Int)<=4) (k0:Blk w g 74 #[str s]):
 Calls prog 36 #[(aA g),.int .i64 u] w λe w'=>e=.returned (.agg #[.int .u64 (zj5 u s).1.rd,.int .u64 (zj5 u s).1.wr,.int .u64 (zj5 u s).1.ow])/\Blk w' g 74 #[str (zj5 u s).2]/\Chg (λk=>k=g) w w':=by
 have hg:=k0.lt;have K0:=Hd k0;clear k0;go_enter func36,ntmps36;go_wp2_with fail;refine (zj6 g s u _ hu (by have k0:=K0.o;exact (by repeat' (first | with_reducible exact k0 | with_reducible refine Blk.drew ?_ | with_reducible refine Blk.alloc ?_ _ | with_reducible refine Blk.far ?_ ?_ _ | (simp;done) | (simp;omega) | omega | exact k0)))).mono ?_;rintro e w1 ⟨rfl,k1,hd1⟩;have hz1:=hd1.size
 try simp at hz1
 have hD1:Chg (λk=>k=g) w w1:=Chg.trans (by repeat' (first | with_reducible exact Chg.refl _ _ | with_reducible assumption | with_reducible refine Chg.alloc ?_ _ | with_reducible refine Chg.drew ?_ | with_reducible refine Chg.setCell ?_ (.inr ?_) _ | (simp;done) | (simp;omega) | omega)) (hd1.mono (λk hk hs=>hs));obtain ⟨hc1_0,hl1_0,hm1_0,hn1_0,ho1_0,hf1_0⟩:=oldC (g:=w) hd1 (by first | (simp;done) | (simp;omega) | omega) (by first | omega | (simp;omega));go_wp2_with fail;refine (zj6 g _ u _ hu (by repeat' (first | with_reducible exact k1 | with_reducible refine Blk.drew ?_ | with_reducible refine Blk.alloc ?_ _ | with_reducible refine Blk.far ?_ ?_ _ | (simp;done) | (simp;omega) | omega | exact k1))).mono ?_;rintro e w2 ⟨rfl,k2,hd2⟩;have hz2:=hd2.size
 try simp at hz2
 have hD2:Chg (λk=>k=g) w w2:=Chg.trans (by repeat' (first | with_reducible exact Chg.refl _ _ | with_reducible assumption | with_reducible refine Chg.alloc ?_ _ | with_reducible refine Chg.drew ?_ | with_reducible refine Chg.setCell ?_ (.inr ?_) _ | (simp;done) | (simp;omega) | omega)) (hd2.mono (λk hk hs=>hs));obtain ⟨hc2_0,hl2_0,hm2_0,hn2_0,ho2_0,hf2_0⟩:=oldC (g:=w) hd2 (by first | (simp;done) | (simp;omega) | omega) (by first | omega | (simp;omega));go_wp2_with fail;refine (zj6 g _ u _ hu (by repeat' (first | with_reducible exact k2 | with_reducible refine Blk.drew ?_ | with_reducible refine Blk.alloc ?_ _ | with_reducible refine Blk.far ?_ ?_ _ | (simp;done) | (simp;omega) | omega | exact k2))).mono ?_;rintro e w3 ⟨rfl,k3,hd3⟩;have hz3:=hd3.size
 try simp at hz3
 have hD3:Chg (λk=>k=g) w w3:=Chg.trans (by repeat' (first | with_reducible exact Chg.refl _ _ | with_reducible assumption | with_reducible refine Chg.alloc ?_ _ | with_reducible refine Chg.drew ?_ | with_reducible refine Chg.setCell ?_ (.inr ?_) _ | (simp;done) | (simp;omega) | omega)) (hd3.mono (λk hk hs=>hs));obtain ⟨hc3_0,hl3_0,hm3_0,hn3_0,ho3_0,hf3_0⟩:=oldC (g:=w) hd3 (by first | (simp;done) | (simp;omega) | omega) (by first | omega | (simp;omega));go_wp2;refine jO results36 (v:=.agg #[.int .u64 (zh9 u s).1,.int .u64 (zh9 u (zh9 u s).2).1,.int .u64 (zh9 u (zh9 u (zh9 u s).2).2).1]) ?_ (by simp (maxDischargeDepth:=9) [jQ,go_sem,hc1_0,hc2_0,hc3_0]);exact ⟨rfl,(by repeat' (first | with_reducible exact k3 | with_reducible refine Blk.drew ?_ | with_reducible refine Blk.alloc ?_ _ | with_reducible refine Blk.far ?_ ?_ _ | (simp;done) | (simp;omega) | omega | exact k3)),(by repeat' (first | with_reducible exact Chg.refl _ _ | with_reducible assumption | with_reducible refine Chg.alloc ?_ _ | with_reducible refine Chg.drew ?_ | with_reducible refine Chg.setCell ?_ (.inr ?_) _ | (simp;done) | (simp;omega) | omega))⟩
end Go.Proofs.YtamcgggmfghljaaGreatDoor
