/- walk -/
import Derived.Test.YtamcgggmfghljaaGreatDoorE22
import Derived.Test.YtamcgggmfghljaaGreatDoorE23
set_option maxRecDepth 100000
set_option maxHeartbeats 8000000
open Go.Proofs.Tryz
namespace Go.Proofs.YtamcgggmfghljaaGreatDoor
open Go.RowKit
variable {x:Ent} {cap g k n p:Nat} {t:TypeId} {c:UInt8} {u u' v v1:Value} {W W0 W1 w w':World}
@[go_sem] theorem z00 {P:Program} {w:World} {a:Addr} {m:Mode} (f:Fn) (x y:Array Value):(store a (.func f x y) m).run P w=stored P w a (.func f x y) m:=run_store P w a _ m rfl
theorem z0s (m:Int) (i:Nat) (hi:i<=10) (h0:0<=m) (h1:m<2 ^ i):bits .or .i64 m (2 ^ i)=m+2 ^ i:=by
 have hk:∀n:Int,0<=n->n<2 ^ 12->IntKind.i64.wrap n=n:=λn h₀ h₁=>by rw[IntKind.wrap_i64];omega
 have hp:(2:Int) ^ i<2 ^ 12:=by
  have:i=0\/i=1\/i=2\/i=3\/i=4\/i=5\/i=6\/i=7\/i=8\/i=9\/i=10:=by omega
  rcases this with rfl|rfl|rfl|rfl|rfl|rfl|rfl|rfl|rfl|rfl|rfl <;> decide
 have hp0:(0:Int)<=2 ^ i:=Int.le_of_lt (Int.pow_pos (by decide));have hc:bits .or .i64 m (2 ^ i)=bits .or .i64 (2 ^ i) m:=by
  obtain ⟨a,rfl⟩:=Int.eq_ofNat_of_zero_le h0;have ha:a<2 ^ 12:=by
   have:((a:Nat):Int)<2 ^ 12:=by omega
   exact_mod_cast this
  have hb:2 ^ i<2 ^ 12:=by exact_mod_cast hp
  have e:((2:Int) ^ i)=((2 ^ i:Nat):Int):=by simp
  rw[e,(bits_nat .i64 12 (by decide) hk a _ ha hb).2,(bits_nat .i64 12 (by decide) hk _ a hb ha).2,Nat.or_comm]
 rw[hc,bits_join .i64 12 (by decide) hk i _ m hp0 (Int.emod_self) hp h0 h1 (by omega)];omega
theorem zgf:∀(l:List (Bool × zaa)) (k:Nat) (b:Bool) (s:zaa),l[k]?=some (b,s)->zdh (l.take (k+1))=zdh (l.take k)+if b then 2 ^ k else 0
 | [],k,b,s,h=>by simp at h
 | (c,t)::l,0,b,s,h=>by
  simp at h;obtain ⟨rfl,rfl⟩:=h;cases c <;> simp[zdh]
 | (c,t)::l,k+1,b,s,h=>by
  have ih:=zgf l k b s (by simpa using h);rw[jr,jr];simp only[zdh];rw[ih];cases b
  ·simp
  simp only[if_true];rw[Int.pow_succ];omega
theorem zma:∀l:List (Bool × zaa),0<=zdh l/\zdh l<2 ^ l.length
 | []=>by simp[zdh]
 | (c,t)::l=>by
  have ih:=zma l;simp only[zdh,jk];rw[Int.pow_succ];cases c <;> simp <;> omega
def mkN (x:Opr) (k:Nat):Int:=zdh ((oprF x).take k)
def mkS (x:Opr) (k:Nat):zaa:=((oprF x).take k).flatMap λp=>if p.1 then p.2 else []
theorem zda (x:Opr) (k:Nat) (s:zaa) (hk:k<=10) (h:(oprF x)[k]?=some (true,s)):bits .or .i64 (mkN x k) (2 ^ k)=mkN x (k+1)/\mkS x (k+1)=mkS x k++s:=by
 have hl:k<(oprF x).length:=(jE.1 h).1;refine ⟨?_,?_⟩
 ·have hb:=zma ((oprF x).take k);rw[List.length_take,Nat.min_eq_left (by omega)] at hb;unfold mkN;rw[z0s _ _ hk hb.1 hb.2,zgf _ _ _ _ h,jb rfl]
 unfold mkS;rw[List.take_add_one,h];simp
theorem zcb (x:Opr) (k:Nat) (s:zaa) (h:(oprF x)[k]?=some (false,s)):mkN x (k+1)=mkN x k/\mkS x (k+1)=mkS x k:=by
 refine ⟨?_,?_⟩
 ·unfold mkN;rw[zgf _ _ _ _ h];simp
 unfold mkS;rw[List.take_add_one,h];simp
theorem zhl (x:Opr) (hi:x.input.length<=1000000) (k:Nat):(mkS x k).length<=2000000:=by
 have n1:=zab x.user;have n2:=zab x.rect.c1;have n3:=zab x.rect.r1;have n4:=zab x.rect.c2;have n5:=zab x.rect.r2;have n6:=zab x.input.length;have n7:=zab x.rights.rd;have n8:=zab x.rights.wr;have n9:=zab x.rights.ow;have n10:=zab x.fns;have n11:=zab x.to_;have n12:=zab x.index;have hq:∀(l:List (Bool × zaa)) (k:Nat),((l.take k).flatMap λp=>if p.1 then p.2 else []).length<=(l.map λp=>p.2.length).sum:=by
  intro l
  induction l with
  | nil=>intro k;simp
  | cons p l ih=>
   intro k;rcases k with _ | k
   ·simp
   have:=ih k;obtain ⟨b,s⟩:=p;rw[jr,List.flatMap_cons,jH,List.map_cons,List.sum_cons];cases b <;> simp at this ⊢<;> omega
 have:=hq (oprF x) k;unfold mkS;simp only[oprF,za7,zcv,zce,List.map_cons,List.map_nil,jH,List.sum_cons,List.sum_nil] at this;unfold oprF;simp only[za7,zcv,zce];omega
theorem Out.chg {S:Nat->Prop} {l:zaa} (h:Out w v l) (hb:Chg S w w') (hv:∀q,v.ownBlock=some q->¬S q):Out w' v l:=by
 rcases hq:v.ownBlock with _ | q
 ·rcases h.2 with ⟨rfl,he⟩ | ⟨g,cap,cur,rfl,_⟩
  ·exact ⟨h.1,.inl ⟨rfl,he⟩⟩
  simp[Value.ownBlock] at hq
 obtain ⟨h1,h2⟩:=h;refine ⟨h1,?_⟩;rcases h2 with ⟨rfl,he⟩ | ⟨g,cap,cur,rfl,hb0,hg,hr⟩
 ·exact .inl ⟨rfl,he⟩
 have e1:g=q:=by simpa [Value.ownBlock] using hq
 have hlt:g<w.heap.size:=(World.ownsRow.lt (v:=.slice (some (g,0)) l.length cap) ⟨h1,.inr ⟨g,cap,cur,rfl,hb0,hg,hr⟩⟩ g rfl).2;exact .inr ⟨g,cap,cur,rfl,hb0,(hb.block g hlt (hv g (by simp[Value.ownBlock]))).trans hg,hr⟩
theorem Out.outTo {l:zaa} (h:Out w v l) (hb:OutTo w u w' u') (hv:∀q,v.ownBlock=some q->u.ownBlock≠some q):Out w' v l:=h.chg hb.chg hv
theorem zyk (w:World) (t ty:TypeId) (i:TypeInfo) (ht:prog.underlying t=some (.slice 5)) (hi:prog.info? 5=some i) (hz:i.zero=some (.int .u8 0)) (hsize:i.size=1) (hby:i.bytes=1)
 (v:Value) (l:zaa) (hown:Out w v l) (v2:Value) (l2:zaa) (h2:Out w v2 l2) (hn:l.length+l2.length<=1000000000):
 ∃v' w',(Builtin.append_ #[t,t] ty #[v,v2]).run prog w=.ok v' w'/\Out w' v' (l++l2)/\OutTo w v w' v':=by
 rcases h2.2 with ⟨rfl,he⟩ | ⟨g,cp,cur,rfl,hb0,hg,hnc,hcm,hcs,htake⟩
 ·have h0:l2=[]:=js he;subst h0;rw[jh];refine ⟨v,w,?_,hown,OutTo.refl _ _⟩;rcases hown.2 with ⟨rfl,he⟩ | ⟨g,cp,cur,rfl,hb0,hg,hnc,hcm,hcs,htake⟩
  ·simp[Builtin.append_,run_underlying ht,sizeOf,typeInfo,hi,Builtin.lenOf,Builtin.firstCells]
  simp[Builtin.append_,run_underlying ht,sizeOf,typeInfo,hi,Builtin.lenOf,Builtin.firstCells,hnc,storeCells]
 obtain ⟨v',w',hr,k2,h3,_,h5⟩:=run_append_own_at (P:=prog) w 0 t ty 5 i (.int .u8 0) 1 1 ht hi hz hsize hby rfl (by omega) v l.length (u8s l) hown (g,0) l2.length cp (u8s l2) (by rw[zt9];omega)
  (λj u hj=>World.ownsRow.cells h2 (g:=g) rfl j u hj)
  (z1r l2) (by unfold maxLen;omega) (by omega) (by omega)
 refine ⟨v',w',hr,?_,⟨⟨h3.os,h3.tape,h3.output,h3.size,λk hk hs=>h3.block k hk (λe=>hs e.symm)⟩,λk hk=>?_⟩⟩
 ·show w'.ownsRow 0 5 1 v' (l++l2).length (u8s (l++l2));rw[jH,zo3];exact k2
 rcases h5 with h5 | h5
 ·exact .inl (h5▸hk)
 rw[h5] at hk;exact .inr (by simp at hk;omega)
theorem z3s (l:zaa) (k:Nat) (h:k<l.length):(⟨l.toArray⟩:ByteArray).extract k (k+1)=⟨[l[k]].toArray⟩:=by
 apply ByteArray.ext;simp only[ByteArray.data_extract];apply Array.ext';simp only[Array.toList_extract,List.extract_eq_take_drop,Nat.add_sub_cancel_left];rw[jo h];rfl
theorem z2u (c:UInt8):txtE [c]=if 32<=c.toNat/\c.toNat<=126 then 0 else 4:=by
 unfold txtE prB;simp
theorem z2s {s:zaa} (h:pltB s=true) (hl:s.length<=256):txtE s=0:=by
 unfold txtE;rw[jS,jb (zqv _ h)]
theorem ofE_eq {s:zaa} (hl:s.length<=256) (hp:pltB s=true) (h:s.head?=some 61):ofE s=(zat s.tail).2:=by
 unfold ofE;rw[jS,ja (by rw[hp];simp),jb h]
theorem ofE_no {s:zaa} (hl:s.length<=256) (hp:pltB s=true) (h:s.head?≠some 61):ofE s=0:=by
 unfold ofE;rw[jS,ja (by rw[hp];simp),ja h]
theorem pre_61 (s:zaa):([61]:zaa).isPrefixOf s=decide (s.head?=some 61):=by
 cases s with
 | nil=>rfl
 | cons c t=>simp only[List.isPrefixOf,List.head?_cons,jl,Bool.and_true];rw[Bool.eq_iff_iff];simp only[beq_iff_eq,decide_eq_true_eq];exact eq_comm
theorem z05 (s:zaa) (w:World) (hs:s.length<=1000000) (hw:Words w):
 Calls prog 169 #[str s] w λu w'=>∃(f:Bool) (k n:Int) (x:zaa) (A:Option Addr) (l c:Nat) (p:Int),u=.returned (.tuple #[.agg #[.bool f,.int .u8 k,.int .i64 n,str x,.slice A l c],.int .i64 p,.int .i64 (ofE s)])/\Below w w w':=by
 have HW:=Hd hw;clear hw;have HB0:=jM (Below w w (w.alloc (.cells #[.bool false,.int .u8 0,.int .i64 0,str [],.slice none 0 0] 192))) (by go_grown);have K0:=Hd (je w 192 #[.bool false,.int .u8 0,.int .i64 0,str [],.slice none 0 0]);by_cases h256:256<s.length
 ·have HE:=jM (ofE s=5) (by unfold ofE;rw[jb h256]);have g256:(256:Int)<(s.length:Int):=by omega
  go_enter func169,ntmps169;go_wp2;refine jO results169 (v:=.tuple #[.agg #[.bool false,.int .u8 0,.int .i64 0,str [],.slice none 0 0],.int .i64 0,.int .i64 5]) ?_;exact ⟨false,0,0,[],none,0,0,0,by rw[HE.o],by go_grown⟩
 have g256:¬(256:Int)<(s.length:Int):=by omega
 have hl256:s.length<=256:=by omega
 go_enter func169,ntmps169;go_upto_region 3 with (fail)
 obtain ⟨W0,hW0⟩:=jN (w.alloc (.cells #[.bool false,.int .u8 0,.int .i64 0,str [],.slice none 0 0] 192));rw[show (Value.string ⟨#[]⟩)=str [] from rfl] at *;rw[hW0] at HB0 K0 ⊢;clear hW0;have HPL:Hid ((∀j,j<s.length->32<=ub s j/\ub s j<=126)->pltB s=true):=Hd (zl5 s);go_wp2_with fail;go_loopw [15] (λi wr=>∃k:Nat,k<=s.length/\i=.int .i64 k/\(∀j,j<k->32<=ub s j/\ub s j<=126)/\Below w w wr/\Blk wr w 192 #[.bool false,.int .u8 0,.int .i64 0,str [],.slice none 0 0]) (λi _=>s.length-(intOf i).toNat)
 case atStart=>exact ⟨0,by omega,rfl,λj hj=>by omega,HB0.o,K0.o⟩
 obtain ⟨k,hk,rfl,hpl,hbw,hkw⟩:=hrel;have HP:=Hd hpl;have HBW:=Hd hbw;have KW:=Hd hkw;clear hpl hbw hkw K0 HB0;have hk0:(0:Int)<=(k:Int):=jw _;by_cases hlt:k<s.length
 ·have hk1:(k:Int)<(s.length:Int):=by omega
  have hub:ub s k=s[k].toNat:=by unfold ub;rw[jL,jz hlt];rfl
  have HX:=Hd (z3s s k hlt);have HUB:=Hd hub;clear hub;generalize s[k]=c at HX HUB;go_wp2_with fail;rw[HX.o];refine (zjz [c] _ (by simp)).mono ?_;rintro u w2 ⟨rfl,hb2⟩;have K2:=Hd (KW.o.below_ hb2);have HB2:=Hd (jd HBW.o hb2 HBW.o.size);clear hb2;rw[z2u];by_cases hc:32<=c.toNat/\c.toNat<=126
  ·rw[jb hc];have HC:=Hd hc;clear hc;go_wp2;exact ⟨⟨k+1,by omega,by go_num,λj hj=>by
    rcases Nat.lt_or_ge j k with h | h
    ·exact HP.o j h
    obtain rfl:j=k:=by omega
    rw[HUB.o];exact HC.o,HB2.o,K2.o⟩,by simp[intOf];omega⟩
  rw[ja hc];have HE:=Hd (show ofE s=4 by
   unfold ofE;rw[jS,jb (zqw s k hlt (by rw[HUB.o];exact hc))])
  obtain ⟨g0,g1,g2,g3,g4⟩:=K2.o.c5 0 1 2 3 4;have fr:=K2.o.frozen;have lb:=K2.o.lt;clear hc;go_wp2;refine jO results169 (v:=.tuple #[.agg #[.bool false,.int .u8 0,.int .i64 0,str [],.slice none 0 0],.int .i64 k,.int .i64 4]) ?_ (by simp (maxDischargeDepth:=9) [jQ,go_sem,g0,g1,g2,g3,g4]);exact ⟨false,0,0,[],none,0,0,k,by rw[HE.o],jc (jc (jc (jc (jc HB2.o (by simp) _) (by simp) _) (by simp) _) (by simp) _) (by simp) _⟩
 have hpl:=HPL.o (λj hj=>HP.o j (by omega));have hnl:¬(k:Int)<(s.length:Int):=by omega
 have HTX:=Hd (z2s hpl hl256);have hp61:=pre_61 s;have HEY:Hid (s.head?=some 61->ofE s=(zat s.tail).2):=Hd (ofE_eq hl256 hpl);have HEN:Hid (s.head?≠some 61->ofE s=0):=Hd (ofE_no hl256 hpl);clear hpl HP;go_wp2_with fail;refine (zlc s [61] _ hs (by simp)).mono ?_;rintro u w2 ⟨rfl,rfl⟩;by_cases hh:s.head?=some 61;rotate_left
 ·have HE:=Hd (HEN.o hh);have hb:([61]:zaa).isPrefixOf s=false:=by rw[hp61];simpa using hh
  rw[hb];clear hh hb hp61;generalize cutB s [61]=rest;go_wp2_with fail;refine (zos s _ HTX.o hs (HW.o.below (HBW.o.mono jy))).mono ?_;rintro u w3 ⟨kk,n,x,rfl,hb3⟩;have K3:=Hd (KW.o.below_ hb3);have HB3:=Hd (jd HBW.o hb3 HBW.o.size);clear hb3;obtain ⟨g0,g1,g2,g3,g4⟩:=K3.o.c5 0 1 2 3 4;have fr:=K3.o.frozen;have lb:=K3.o.lt;go_wp2;refine jO results169 (v:=.tuple #[.agg #[.bool false,.int .u8 kk,.int .i64 n,str x,.slice none 0 0],.int .i64 0,.int .i64 0]) ?_ (by simp (maxDischargeDepth:=9) [jQ,go_sem,g0,g1,g2,g3,g4]);exact ⟨false,kk,n,x,none,0,0,0,by rw[HE.o],jc (jc (jc (jc (jc HB3.o (by simp) _) (by simp) _) (by simp) _) (by simp) _) (by simp) _⟩
 have HE:=Hd (HEY.o hh);have hb:([61]:zaa).isPrefixOf s=true:=by rw[hp61];simpa using hh
 have hcut:cutB s [61]=s.tail:=by rw[zp2 hb];simp
 rw[hb,hcut];have htl:s.tail.length<=1000000:=by rw[List.length_tail];omega
 clear hh hb hp61 hcut;go_wp2_with fail;refine (zpr s.tail _ htl (HW.o.below (HBW.o.mono jy))).mono ?_;rintro u w3 ⟨v,p,rfl,hsl,hb3⟩;obtain ⟨A3,c3,rfl, -⟩:=id hsl;have K3:=Hd (KW.o.below_ hb3);have HB3:=Hd (jd HBW.o hb3 HBW.o.size);clear hb3 hsl;obtain ⟨g0,g1,g2,g3,g4⟩:=K3.o.c5 0 1 2 3 4;have fr:=K3.o.frozen;have lb:=K3.o.lt;by_cases he:(zat s.tail).2=0
 ·have be:((zat s.tail).2 != 0)=false:=by simpa using he
  have HE0:=Hd (HE.o.trans he);clear he;go_wp2;refine jO results169 (v:=.tuple #[.agg #[.bool true,.int .u8 0,.int .i64 0,str [],.slice A3 (zat s.tail).1.length c3],.int .i64 0,.int .i64 0]) ?_ (by simp (maxDischargeDepth:=9) [jQ,go_sem,g0,g1,g2,g3,g4]);exact ⟨true,0,0,[],A3,_,c3,0,by rw[HE0.o],jc (jc (jc (jc (jc HB3.o (by simp) _) (by simp) _) (by simp) _) (by simp) _) (by simp) _⟩
 have be:((zat s.tail).2 != 0)=true:=by simpa using he
 generalize (zat s.tail).2=fe at *;clear he;go_wp2;refine jO results169 (v:=.tuple #[.agg #[.bool false,.int .u8 0,.int .i64 0,str [],.slice none 0 0],.int .i64 (wrap64 (p+1)),.int .i64 fe]) ?_ (by simp (maxDischargeDepth:=9) [jQ,go_sem,g0,g1,g2,g3,g4]);exact ⟨false,0,0,[],none,0,0,_,by rw[HE.o],jc (jc (jc (jc (jc HB3.o (by simp) _) (by simp) _) (by simp) _) (by simp) _) (by simp) _⟩
def zbb (p:Option Ent) (x:Ent):Int:=
 if za6 x.at_.col x.at_.row=false then 3 else if (p.map λy=>zh3 y.at_ x.at_)=some false then 12 else if x.input=[] then 2 else ofE x.input
def entE:Option Ent->List Ent->Int
 | _,[]=>0
 | p,x::l=>if zbb p x≠0 then zbb p x else entE (some x) l
def zbe (l:List Ent) (k:Nat):Option Ent:=if k=0 then none else l[k-1]?
theorem zom (l:List Ent) (h:l[k]?=some x):entE (zbe l k) (l.drop k)=if zbb (zbe l k) x≠0 then zbb (zbe l k) x else entE (zbe l (k+1)) (l.drop (k+1)):=by
 have hk:=(jE.1 h).1;rw[jo hk];have e:l[k]=x:=by rw[jz hk] at h;simpa using h
 have e2:zbe l (k+1)=some x:=by unfold zbe;rw[jS,Nat.add_sub_cancel,h]
 rw[e,e2];rfl
theorem zpx (sv:Value) (l:List Ent) (B:Nat) (w:World) (hB:B<=w.heap.size) (hs:Sls cEnt w B sv l) (hw:Words w) (hil:∀x∈l,x.input.length<=1000000):
 Calls prog 110 #[sv] w λu w'=>∃i,u=.returned (.tuple #[.int .i64 i,.int .i64 (entE none l)])/\Below w w w':=by
 obtain ⟨A,cap,rfl,hc,hm,hr⟩:=id hs;have HS:=Hd hs;have HW:=Hd hw;have HIL:=Hd hil;clear hs hr hw hil;unfold maxLen at hm;go_enter func110,ntmps110;go_wp2_with fail;go_loopw [11] (λi wr=>∃k:Nat,k<=l.length/\i=.int .i64 k/\Below w w wr/\entE none l=entE (zbe l k) (l.drop k)) (λi _=>l.length-(intOf i).toNat)
 case atStart=>exact ⟨0,by omega,rfl,by go_grown,by simp[zbe]⟩
 obtain ⟨k,hk,rfl,hbw,hfe⟩:=hrel;have HF:=Hd hfe;have HBW:=Hd hbw;clear hfe;by_cases hlt:k<l.length;rotate_left
 ·go_wp2;go_ret2;refine ⟨0,?_,HBW.o⟩;rw[HF.o,jm (by omega)];rfl
 have hy:l[k]?=some l[k]:=jz hlt;obtain ⟨b,o,hA,hb2,r⟩:=(HS.o.below (hbw.mono hB)).get 3 zct hy;have HD:=Hd (zom l hy);have HIN:=Hd (HIL.o l[k] (jj hlt));generalize l[k]=y at *;subst hA;have HE:Hid (zbb (zbe l k) y≠0->entE none l=zbb (zbe l k) y):=Hd (λh=>by rw[HF.o,HD.o,jb h]);obtain ⟨r0,r1,r2⟩:=rEnt r;have K0:=Hd (je wr 58 y);have HB0:=jM (Below w w (wr.alloc (.cells y 58))) (HBW.o.alloc HBW.o.size _);have hi0:(0:Int)<=(k:Int):=jw _;have hi1:(k:Int)<(l.length:Int):=by omega
 have hblt:b<wr.heap.size:=by have:=HBW.o.size;omega
 clear r hy;go_wp2_with fail;refine (zfi _ _ _).mono ?_;rintro u w2 ⟨rfl,hb2'⟩;have K2:=Hd (K0.o.below_ hb2');have HB2:=Hd (jd HB0.o hb2' HB0.o.size);have HBR:=jM (Below wr wr w2) (jd (by go_grown) hb2' (by simp));clear hb2' K0 r0 r1 r2;obtain ⟨x0,x1,x2⟩:=K2.o.c3 0 1 2
 cases hv:za6 y.at_.col y.at_.row with
 | false=>have HY:=jM (zbb (zbe l k) y=3) (by unfold zbb;rw[jb hv]);go_wp2;go_ret2;exact ⟨k,by rw[HE.o (by rw[HY.o];decide),HY.o];rfl,HB2.o⟩
 | true=>
 by_cases hk0:k=0
 ·subst hk0;have HO:Hid (zbb (zbe l 0) y=if y.input=[] then 2 else ofE y.input):=Hd (by
   unfold zbb;rw[ja (by rw[hv];simp),ja (by simp[zbe])])
  go_wp2_with fail;go_quiet (fail);have x2q:(w2.drewN nq).cell? (wr,2)=some (str y.input):=x2;by_cases hin:y.input=[]
  ·have HY:=jM (zbb (zbe l 0) y=2) (HO.o.trans (jb hin));have bi:(y.input==([]:List UInt8))=true:=by simp[hin]
   clear hin;go_wp2;go_ret2;exact ⟨_,by rw[HE.o (by rw[HY.o];decide),HY.o];rfl,(jf HB2.o _)⟩
  have bi:(y.input==([]:List UInt8))=false:=by simpa using hin
  have HY:=Hd (HO.o.trans (ja hin));clear hin;go_wp2_with fail;refine (z05 y.input _ HIN.o (HW.o.below ((jf HB2.o _).mono jy))).mono ?_;rintro u w5 ⟨f,kk,n,x,A5,l5,c5,p5,rfl,hb5⟩;have HB5:=Hd (jd ((jf HB2.o _)) hb5 ((jf HB2.o _)).size);have HB6:=Hd (HB5.o.alloc HB5.o.size (.cells #[.bool f,.int .u8 kk,.int .i64 n,str x,.slice A5 l5 c5] 192));clear hb5;by_cases he:ofE y.input=0
  ·have be:(ofE y.input != 0)=false:=by simpa using he
   have HZ:=Hd (HY.o.trans he);clear he;go_wp2;exact ⟨⟨0+1,by omega,by go_num,HB6.o,by rw[HF.o,HD.o,HZ.o];rfl⟩,by simp[intOf];omega⟩
  have be:(ofE y.input != 0)=true:=by simpa using he
  have HN:=jM (zbb (zbe l 0) y≠0) (by rw[HY.o];exact he);clear he;go_wp2;go_ret2;exact ⟨_,by rw[HE.o HN.o,HY.o];rfl,HB6.o⟩
 obtain ⟨m,rfl⟩:∃m,k=m+1:=⟨k-1,by omega⟩;have hz:l[m]?=some (l[m]'(by omega)):=jz (by omega);obtain ⟨b4,o4,hA4,hb4,r4⟩:=(HS.o.below (hbw.mono hB)).get 3 zct hz;have HPR:=jM (zbe l (m+1)=some (l[m]'(by omega))) (by unfold zbe;rw[jS,Nat.add_sub_cancel];exact hz);generalize l[m]'(by omega)=z at *;injection hA4 with hA4
 injection hA4 with e1 e2
 subst e1 e2;have HO:Hid (zbb (zbe l (m+1)) y=if zh3 z.at_ y.at_=false then 12 else if y.input=[] then 2 else ofE y.input):=Hd (by
  unfold zbb;rw[ja (by rw[hv];simp),HPR.o];simp only[Option.map_some,jl])
 have RR:=Hd r4;have LZ:=jM (∀W:World,Below w2 w2 W->W.rangeAt b (o+m*3) [.int .i64 z.at_.col,.int .i64 z.at_.row]) (λW h=>by
  intro j v hj;refine (h.cell (p:=⟨b,o+m*3+j,none⟩) (jG hblt HBR.o.size)).trans ((HBR.o.cell (p:=⟨b,o+m*3+j,none⟩) hblt).trans (RR.o j v ?_));rcases j with _ | _ | j
  ·exact hj
  ·exact hj
  simp at hj)
 have LY:=jM (∀W:World,Below w2 w2 W->W.rangeAt wr.heap.size 0 [.int .i64 y.at_.col,.int .i64 y.at_.row]) (λW h=>(K2.o.below_ h).range (by
  intro j v hj;rw[Nat.zero_add];rcases j with _ | _ | j
  ·exact hj
  ·exact hj
  simp at hj))
 have hm0:(0:Int)<=(m:Int):=jw _;have hm1:(m:Int)<(l.length:Int):=by omega
 clear r4 hz;go_upto_region 6 with (fail)
 have HM1:Hid (((m+1:Nat):Int)=(m:Int)+1):=Hd (by omega)
 try rw[HM1.o]
 refine wp_region_noPanic ?_;refine wp_region_held_drew (S:=λW=>Below w2 w2 W) (by kernel_rfl) (jg _ _).drew (λhHeld=>?_);refine tH 0 (.int .i64 ((m:Int)+1)) hHeld ?_
 try go_frame
 refine tH 1 (.bool true) hHeld ?_
 try go_frame
 refine tH 2 (.bool true) hHeld ?_
 try go_frame
 refine tH 3 (.slice (some ⟨b,o,none⟩) l.length cap) hHeld ?_
 try go_frame
 refine tH 4 (.int .i64 ((m:Int)+1)) hHeld ?_
 try go_frame
 refine tH 5 (.int .i64 m) hHeld ?_ (hy:=Or.inl ⟨by rfl,by intro W hW;go_simp;rw[IntKind.wrap_i64];omega⟩)
 try go_frame
 refine tH 6 (.pointer (some ⟨b,o+m*3,none⟩)) hHeld ?_
 try go_frame
 refine tH 7 (.pointer (some ⟨b,o+m*3,none⟩)) hHeld ?_
 try go_frame
 refine tH 8 (.agg _) hHeld ?_ (hy:=yieldsIf_load_mid rfl _ _ rfl (b) (o+m*3) rfl _ _ LZ.o rfl rfl (by kernel_rfl))
 try go_frame
 refine tH 9 (.pointer (some ⟨wr.heap.size,0,none⟩)) hHeld ?_
 try go_frame
 refine tH 10 (.agg _) hHeld ?_ (hy:=yieldsIf_load_mid rfl _ _ rfl (wr.heap.size) (0) rfl _ _ LY.o rfl rfl (by kernel_rfl))
 try go_frame
 refine tC 11 rfl λK hK=>?_;go_simp;go_at_call 126;refine (zxx _ _ _ _ _).mono ?_;rintro u w3 ⟨rfl,hb3⟩;refine hK.out _ _ (jd hHeld hb3 hHeld.size) (λhHeld=>?_);clear hK K
 try go_frame
 have HB3:=Hd (HB2.o.trans (hHeld.mono HB2.o.size));have K3:=Hd (K2.o.below_ hHeld);clear x0 x1 x2
 cases hls:zh3 z.at_ y.at_ with
 | false=>
  have HY:=jM (zbb (zbe l (m+1)) y=12) (by rw[HO.o,jb hls]);have hls':zh3 ⟨z.at_.col,z.at_.row⟩ ⟨y.at_.col,y.at_.row⟩=false:=hls
  try rw[hls']
  refine tH 12 (.bool true) hHeld ?_
  try go_frame
  refine tH 13 (.bool true) hHeld ?_
  try go_frame
  refine wpAnyH_done (by kernel_rfl) ?_ _;refine NoPanic.normal ?_;clear hHeld;go_wp2;go_ret2;exact ⟨_,by rw[HE.o (by rw[HY.o];decide),HY.o];rfl,HB3.o⟩
 | true=>
 have HO2:=Hd (HO.o.trans (ja (by rw[hls];simp)));have hls':zh3 ⟨z.at_.col,z.at_.row⟩ ⟨y.at_.col,y.at_.row⟩=true:=hls
 try rw[hls']
 refine tH 12 (.bool false) hHeld ?_
 try go_frame
 refine tH 13 (.bool false) hHeld ?_
 try go_frame
 refine wpAnyH_done (by kernel_rfl) ?_ _;refine NoPanic.normal ?_;clear hHeld LZ LY HO;have x2:=K3.o.cell 2;by_cases hin:y.input=[]
 ·have HY:=jM (zbb (zbe l (m+1)) y=2) (HO2.o.trans (jb hin));have bi:(y.input==([]:List UInt8))=true:=by simp[hin]
  clear hin;go_wp2;go_ret2;exact ⟨_,by rw[HE.o (by rw[HY.o];decide),HY.o];rfl,HB3.o⟩
 have bi:(y.input==([]:List UInt8))=false:=by simpa using hin
 have HY:=Hd (HO2.o.trans (ja hin));clear hin;go_wp2_with fail;refine (z05 y.input _ HIN.o (HW.o.below (HB3.o.mono jy))).mono ?_;rintro u w5 ⟨f,kk,n,x,A5,l5,c5,p5,rfl,hb5⟩;have HB5:=Hd (jd (HB3.o) hb5 (HB3.o).size);have HB6:=Hd (HB5.o.alloc HB5.o.size (.cells #[.bool f,.int .u8 kk,.int .i64 n,str x,.slice A5 l5 c5] 192));clear hb5;by_cases he:ofE y.input=0
 ·have be:(ofE y.input != 0)=false:=by simpa using he
  have HZ:=Hd (HY.o.trans he);clear he;go_wp2;exact ⟨⟨(m+1)+1,by omega,by go_num,HB6.o,by rw[HF.o,HD.o,HZ.o];rfl⟩,by simp[intOf];omega⟩
 have be:(ofE y.input != 0)=true:=by simpa using he
 have HN:=jM (zbb (zbe l (m+1)) y≠0) (by rw[HY.o];exact he);clear he;go_wp2;go_ret2;exact ⟨_,by rw[HE.o HN.o,HY.o];rfl,HB6.o⟩
def grtE (u:Int) (x:Grt):Int:=
 if rctE x.rect≠0 then 3 else if x.fns<1\/31<x.fns\/bits .andNot .u64 x.to_ (allI u)≠0\/hasI (allI u) x.by_=false then 2 else 0
def zep (u:Int) (l:List Grt):Int:=if u<1\/64<u then 2 else if 64<l.length then 5 else zc0 (grtE u) l
theorem zpq (u:Int) (sv:Value) (l:List Grt) (B:Nat) (w:World) (hB:B<=w.heap.size) (hs:Sls cGrt w B sv l):
 Calls prog 112 #[.int .i64 u,sv] w λe w'=>∃i,e=.returned (.tuple #[.int .i64 i,.int .i64 (zep u l)])/\Below w w w':=by
 obtain ⟨A,cap,rfl,hc,hm,hr⟩:=id hs;have HS:=Hd hs;clear hs hr;unfold maxLen at hm;by_cases hu:u<0\/64<u
 ·have HE:=jM (zep u l=2) (by unfold zep;rw[jT]);go_enter func112,ntmps112;go_wp2_with fail;refine (zxn u _ hu).mono ?_;rintro e w1 ⟨rfl,rfl⟩;go_wp2;go_ret2;exact ⟨_,by rw[HE.o];rfl,by go_grown⟩
 by_cases h0:u=0
 ·subst h0;have HE:=jM (zep 0 l=2) (by unfold zep;rw[jT]);go_enter func112,ntmps112;go_wp2_with fail;refine (zic 0 _ (by omega) (by omega)).mono ?_;rintro e w1 ⟨rfl,rfl⟩;go_wp2;go_ret2;exact ⟨_,by rw[HE.o];rfl,by go_grown⟩
 have u0:(u==0)=false:=by simpa using h0
 by_cases h64:64<l.length
 ·have HE:=jM (zep u l=5) (by unfold zep;rw[jS,jb h64]);have l64:(64:Int)<(l.length:Int):=by omega
  go_enter func112,ntmps112;go_wp2_with fail;refine (zic u _ (by omega) (by omega)).mono ?_;rintro e w1 ⟨rfl,rfl⟩;go_wp2;go_ret2;exact ⟨_,by rw[HE.o];rfl,by go_grown⟩
 have HE:=jM (zep u l=zc0 (grtE u) l) (by unfold zep;rw[jS,ja h64]);have HU:=Hd (zmx u (by omega));have l64:¬(64:Int)<(l.length:Int):=by omega
 go_enter func112,ntmps112;go_wp2_with fail;refine (zic u _ (by omega) (by omega)).mono ?_;rintro e w1 ⟨rfl,rfl⟩;go_wp2_with fail;go_loopw [25] (λi wr=>∃k:Nat,k<=l.length/\i=.int .i64 k/\Below w w wr/\zc0 (grtE u) l=zc0 (grtE u) (l.drop k)) (λi _=>l.length-(intOf i).toNat)
 case atStart=>exact ⟨0,by omega,rfl,by go_grown,by simp⟩
 obtain ⟨k,hk,rfl,hbw,hfe⟩:=hrel;have HF:=Hd hfe;have HBW:=Hd hbw;clear hfe;by_cases hlt:k<l.length;rotate_left
 ·go_wp2;go_ret2;refine ⟨0,?_,HBW.o⟩;rw[HE.o,HF.o,jm (by omega)];rfl
 have hy:l[k]?=some l[k]:=jz hlt;obtain ⟨b,o,hA,hb2,r⟩:=(HS.o.below (hbw.mono hB)).get 8 zex hy;have HD:=Hd (zfq (grtE u) hy);generalize l[k]=y at *;subst hA;obtain ⟨r0,r1,r2,r3,r4,r5,r6,r7⟩:=rGrt r;have hi0:(0:Int)<=(k:Int):=jw _;have hi1:(k:Int)<(l.length:Int):=by omega
 clear r hy hbw;go_wp2_with fail;refine (zdm _ _ _ _ _).mono ?_;rintro e w3 ⟨rfl,hb3⟩;have q4:w3.cell? (wr,4)=some (.int .u8 y.fns):=(hb3.cell (p:=(wr,4)) (by simp)).trans (by go_simp);have q5:w3.cell? (wr,5)=some (.int .u64 y.to_):=(hb3.cell (p:=(wr,5)) (by simp)).trans (by go_simp);have q6:w3.cell? (wr,6)=some (.int .i64 y.by_):=(hb3.cell (p:=(wr,6)) (by simp)).trans (by go_simp);have HB3:=Hd (Below.trans (HBW.o.alloc HBW.o.size _) (hb3.mono (by have:=HBW.o.size;simp;omega)));clear hb3 r0 r1 r2 r3 r4 r5 r6 r7;by_cases hre:rctE ⟨y.rect.c1,y.rect.r1,y.rect.c2,y.rect.r2⟩=0;rotate_left
 ·have HY:=jM (grtE u y=3) (by unfold grtE;rw[jb (by simpa using hre)]);have t1:(rctE ⟨y.rect.c1,y.rect.r1,y.rect.c2,y.rect.r2⟩ != 0)=true:=by simpa using hre
  clear hre;go_wp2;go_ret2;refine ⟨k,?_,HB3.o⟩;rw[HE.o,HF.o,HD.o,HY.o];rfl
 rw[hre];by_cases c1:y.fns<1
 ·have HY:=jM (grtE u y=2) (by unfold grtE;rw[ja (by simpa using hre),jb (.inl c1)]);clear hre;go_wp2;go_ret2;refine ⟨k,?_,HB3.o⟩;rw[HE.o,HF.o,HD.o,HY.o];rfl
 by_cases c2:31<y.fns
 ·have HY:=jM (grtE u y=2) (by unfold grtE;rw[ja (by simpa using hre),jb (.inr (.inl c2))]);clear hre;go_wp2;go_ret2;refine ⟨k,?_,HB3.o⟩;rw[HE.o,HF.o,HD.o,HY.o];rfl
 by_cases c3:bits .andNot .u64 y.to_ (allI u)=0;rotate_left
 ·have HY:=jM (grtE u y=2) (by unfold grtE;rw[ja (by simpa using hre),jb (.inr (.inr (.inl c3)))]);have t3:(bits .andNot .u64 y.to_ (allI u) != 0)=true:=by simpa using c3
  clear hre c3;go_wp2;go_ret2;refine ⟨k,?_,HB3.o⟩;rw[HE.o,HF.o,HD.o,HY.o];rfl
 have t3:(bits .andNot .u64 y.to_ (allI u) != 0)=false:=by simpa using c3
 cases c4:hasI (allI u) y.by_;rotate_left
 ·have HY:=jM (grtE u y=0) (by unfold grtE;rw[ja (by simpa using hre),ja (by rw[c4];simp[c3];omega)]);clear hre c3;go_wp2_with fail;refine (zh6 _ _ _ HU.o.1 HU.o.2).mono ?_;rintro e w4 ⟨rfl,rfl⟩;rw[c4];go_wp2;exact ⟨⟨k+1,by omega,by go_num,HB3.o,by rw[HF.o,HD.o,HY.o];rfl⟩,by simp[intOf];omega⟩
 have HY:=jM (grtE u y=2) (by unfold grtE;rw[ja (by simpa using hre),jb (.inr (.inr (.inr c4)))]);clear hre c3;go_wp2_with fail;refine (zh6 _ _ _ HU.o.1 HU.o.2).mono ?_;rintro e w4 ⟨rfl,rfl⟩;rw[c4];go_wp2;go_ret2;refine ⟨k,?_,HB3.o⟩;rw[HE.o,HF.o,HD.o,HY.o];rfl
def mutB (k:Int):Bool:=decide (k=3)||decide (k=4)||decide (k=7)||decide (k=8)||decide (k=9)
def evE (u z:Int) (x:Evt):Int:=
 if x.step<=z then 12 else if mutB x.kind=false\/hasI (allI u) x.user=false then 2 else if rctE x.rect≠0 then 3
 else if bits .andNot .u64 x.to_ (allI u)≠0\/hasI x.to_ x.user=false then 2 else 0
def rlE (u z:Int) (x:Rls):Int:=
 if x.step<z then 12 else if za6 x.at_.col x.at_.row=false\/rctE x.rect≠0 then 3
 else if x.node<0\/256<=x.node\/x.fn<46\/50<x.fn\/x.grant<0\/64<=x.grant\/bits .andNot .u64 x.to_ (allI u)≠0 then 2 else 0
def evsE (u:Int):Int->List Evt->Int
 | _,[]=>0
 | z,x::l=>if evE u z x≠0 then evE u z x else evsE u x.step l
def rlsE (u:Int):Int->List Rls->Int
 | _,[]=>0
 | z,x::l=>if rlE u z x≠0 then rlE u z x else rlsE u x.step l
def audE (u:Int) (l:List Evt) (m:List Rls):Int:=if u<1\/64<u then 2 else if evsE u (-1) l≠0 then evsE u (-1) l else rlsE u (-1) m
theorem zol (u z:Int) {l:List Evt} {x:Evt} (h:l[k]?=some x):evsE u z (l.drop k)=if evE u z x≠0 then evE u z x else evsE u x.step (l.drop (k+1)):=by
 have hk:=(jE.1 h).1;rw[jo hk];have:l[k]=x:=by rw[jz hk] at h;simpa using h
 rw[this];rfl
theorem zni (u z:Int) {l:List Rls} {x:Rls} (h:l[k]?=some x):rlsE u z (l.drop k)=if rlE u z x≠0 then rlE u z x else rlsE u x.step (l.drop (k+1)):=by
 have hk:=(jE.1 h).1;rw[jo hk];have:l[k]=x:=by rw[jz hk] at h;simpa using h
 rw[this];rfl
theorem zs5 (k:Int) (w:World):
 Calls prog 174 #[.agg (aK k)] w λe w'=>e=.returned (.bool (mutB k))/\Below w w w':=by
 by_cases h3:k=3
 ·subst h3;go_enter func174,ntmps174;go_wp2;go_ret;exact ⟨rfl,by go_grown⟩
 by_cases h4:k=4
 ·subst h4;go_enter func174,ntmps174;go_wp2;go_ret;exact ⟨rfl,by go_grown⟩
 by_cases h7:k=7
 ·subst h7;go_enter func174,ntmps174;go_wp2;go_ret;exact ⟨rfl,by go_grown⟩
 by_cases h8:k=8
 ·subst h8;go_enter func174,ntmps174;go_wp2;go_ret;exact ⟨rfl,by go_grown⟩
 by_cases h9:k=9
 ·subst h9;go_enter func174,ntmps174;go_wp2;go_ret;exact ⟨rfl,by go_grown⟩
 have b3:(k==3)=false:=by simpa using h3
 have b4:(k==4)=false:=by simpa using h4
 have b7:(k==7)=false:=by simpa using h7
 have b8:(k==8)=false:=by simpa using h8
 have b9:(k==9)=false:=by simpa using h9
 have HM:=jM (mutB k=false) (by simp[mutB,h3,h4,h7,h8,h9]);clear h3 h4 h7 h8 h9;go_enter func174,ntmps174;go_wp2;go_ret;exact ⟨by rw[HM.o];rfl,by go_grown⟩
theorem zp5 (u:Int) (sv sv2:Value) (l:List Evt) (m:List Rls) (B:Nat) (w:World) (hB:B<=w.heap.size) (hs:Sls cEvt w B sv l) (hs2:Sls cRls w B sv2 m) (hto:∀x∈l,0<=x.to_/\x.to_<18446744073709551616):
 Calls prog 113 #[.int .i64 u,sv,sv2] w λe w'=>e=.returned (.int .i64 (audE u l m))/\Below w w w':=by
 obtain ⟨A,cap,rfl,hc,hm,hr⟩:=id hs;obtain ⟨A2,cap2,rfl,hc2,hm2,hr2⟩:=id hs2;have HS:=Hd hs;have HS2:=Hd hs2;have HTO:=Hd hto;clear hs hr hs2 hr2 hto;unfold maxLen at hm hm2;by_cases hu:u<0\/64<u
 ·have HE:=jM (audE u l m=2) (by unfold audE;rw[jT]);go_enter func113,ntmps113;go_wp2_with fail;refine (zxn u _ hu).mono ?_;rintro e w1 ⟨rfl,rfl⟩;go_wp2;go_ret;exact ⟨by rw[HE.o];rfl,by go_grown⟩
 by_cases h0:u=0
 ·subst h0;have HE:=jM (audE 0 l m=2) (by unfold audE;rw[jT]);go_enter func113,ntmps113;go_wp2_with fail;refine (zic 0 _ (by omega) (by omega)).mono ?_;rintro e w1 ⟨rfl,rfl⟩;go_wp2;go_ret;exact ⟨by rw[HE.o];rfl,by go_grown⟩
 have u0:(u==0)=false:=by simpa using h0
 have HE0:=jM (audE u l m=if evsE u (-1) l≠0 then evsE u (-1) l else rlsE u (-1) m) (by unfold audE;rw[jS]);have HU:=Hd (zmx u (by omega));go_enter func113,ntmps113;go_wp2_with fail;refine (zic u _ (by omega) (by omega)).mono ?_;rintro e w1 ⟨rfl,rfl⟩;clear hu;go_wp2_with fail;go_loopw [9,27] (λlast i wr=>∃(k:Nat) (z:Int),k<=l.length/\last=.int .i64 z/\i=.int .i64 k/\Below w w wr/\evsE u (-1) l=evsE u z (l.drop k)) (λ_ i _=>l.length-(intOf i).toNat)
 case atStart=>exact ⟨0, -1,by omega,rfl,rfl,by go_grown,by simp⟩
 obtain ⟨k,z,hk,rfl,rfl,hbw,hfe⟩:=hrel;have HF:=Hd hfe;have HBW:=Hd hbw;clear hfe;by_cases hlt:k<l.length
 ·have hy:l[k]?=some l[k]:=jz hlt;obtain ⟨b,o,hA,hb2,r⟩:=(HS.o.below (hbw.mono hB)).get 9 zdt hy;have HD:=Hd (zol u z hy);have HT:=Hd (HTO.o l[k] (jj hlt));generalize l[k]=y at *;subst hA;have HE:Hid (evE u z y≠0->audE u l m=evE u z y):=Hd (λh=>by
   have e1:evsE u (-1) l=evE u z y:=by rw[HF.o,HD.o,jb h]
   rw[HE0.o,e1,jb h])
  obtain ⟨r0,r1,r2,r3,r4,r5,r6,r7,r8⟩:=rEvt r;have K0:=Hd (je wr 110 (cEvt y).toArray);have HB0:=jM (Below w w (wr.alloc (.cells (cEvt y).toArray 110))) (HBW.o.alloc HBW.o.size _);rw[show (cEvt y).toArray=#[.int .i64 y.step,.int .i64 y.user,.int .u8 y.kind,.int .i64 y.rect.c1,.int .i64 y.rect.r1,.int .i64 y.rect.c2,.int .i64 y.rect.r2,.bool y.done_,.int .u64 y.to_] from rfl] at K0 HB0;have hi0:(0:Int)<=(k:Int):=jw _;have hi1:(k:Int)<(l.length:Int):=by omega
  clear r hy hbw;by_cases c1:y.step<=z
  ·have HY:=jM (evE u z y=12) (by unfold evE;rw[jb c1]);go_wp2;go_ret;exact ⟨by rw[HE.o (by rw[HY.o];decide),HY.o];rfl,HB0.o⟩
  go_wp2_with fail;refine (zs5 y.kind _).mono ?_;rintro e w3 ⟨rfl,hb3⟩;have K3:=Hd (K0.o.below_ hb3);have HB3:=Hd (jd HB0.o hb3 HB0.o.size);clear hb3 r0 r1 r2 r3 r4 r5 r6 r7 r8;obtain ⟨q1,q3,q4,q5,q6⟩:=K3.o.c5 1 3 4 5 6
  cases c2:mutB y.kind with
  | false=>have HY:=jM (evE u z y=2) (by unfold evE;rw[jS,jb (.inl c2)]);go_wp2;go_ret;exact ⟨by rw[HE.o (by rw[HY.o];decide),HY.o];rfl,HB3.o⟩
  | true=>
  cases c3:hasI (allI u) y.user with
  | false=>have HY:=jM (evE u z y=2) (by unfold evE;rw[jS,jb (.inr c3)]);go_wp2_with fail;refine (zh6 _ _ _ HU.o.1 HU.o.2).mono ?_;rintro e w4 ⟨rfl,rfl⟩;rw[c3];go_wp2;go_ret;exact ⟨by rw[HE.o (by rw[HY.o];decide),HY.o];rfl,HB3.o⟩
  | true=>
  go_wp2_with fail;refine (zh6 _ _ _ HU.o.1 HU.o.2).mono ?_;rintro e w4 ⟨rfl,rfl⟩;rw[c3];go_wp2_with fail;refine (zdm _ _ _ _ _).mono ?_;rintro e w4 ⟨rfl,hb4⟩;have K4:=Hd (K3.o.below_ hb4);have HB4:=Hd (jd HB3.o hb4 HB3.o.size);clear hb4 q1 q3 q4 q5 q6;by_cases hre:rctE ⟨y.rect.c1,y.rect.r1,y.rect.c2,y.rect.r2⟩=0;rotate_left
  ·have HY:=jM (evE u z y=3) (by unfold evE;rw[jS,ja (by rw[c2,c3];simp),jb (by simpa using hre)]);have t1:(rctE ⟨y.rect.c1,y.rect.r1,y.rect.c2,y.rect.r2⟩ != 0)=true:=by simpa using hre
   clear hre;go_wp2;go_ret;exact ⟨by rw[HE.o (by rw[HY.o];decide),HY.o];rfl,HB4.o⟩
  rw[hre];obtain ⟨q0,q1,q8⟩:=K4.o.c3 0 1 8;by_cases c4:bits .andNot .u64 y.to_ (allI u)=0;rotate_left
  ·have HY:=jM (evE u z y=2) (by unfold evE;rw[jS,ja (by rw[c2,c3];simp),ja (by simpa using hre),jb (.inl c4)]);have t3:(bits .andNot .u64 y.to_ (allI u) != 0)=true:=by simpa using c4
   clear hre c4;go_wp2;go_ret;exact ⟨by rw[HE.o (by rw[HY.o];decide),HY.o];rfl,HB4.o⟩
  have t3:(bits .andNot .u64 y.to_ (allI u) != 0)=false:=by simpa using c4
  cases c5:hasI y.to_ y.user with
  | false=>have HY:=jM (evE u z y=2) (by unfold evE;rw[jS,ja (by rw[c2,c3];simp),ja (by simpa using hre),jb (.inr c5)]);clear hre c4;go_wp2_with fail;refine (zh6 _ _ _ HT.o.1 HT.o.2).mono ?_;rintro e w5 ⟨rfl,rfl⟩;rw[c5];go_wp2;go_ret;exact ⟨by rw[HE.o (by rw[HY.o];decide),HY.o];rfl,HB4.o⟩
  | true=>
  have HY:=jM (evE u z y=0) (by unfold evE;rw[jS,ja (by rw[c2,c3];simp),ja (by simpa using hre),ja (by rw[c5];simp[c4])]);clear hre c4;go_wp2_with fail;refine (zh6 _ _ _ HT.o.1 HT.o.2).mono ?_;rintro e w5 ⟨rfl,rfl⟩;rw[c5];go_wp2;exact ⟨⟨k+1,y.step,by omega,rfl,by go_num,HB4.o,by rw[HF.o,HD.o,HY.o];rfl⟩,by simp[intOf];omega⟩
 have HE:=Hd (show audE u l m=rlsE u (-1) m by
  rw[HE0.o,HF.o,jm (by omega)];rfl)
 clear HF HE0 hbw;go_wp2_with fail;go_loopw [9,73] (λlast i wr=>∃(k:Nat) (z:Int),k<=m.length/\last=.int .i64 z/\i=.int .i64 k/\Below w w wr/\rlsE u (-1) m=rlsE u z (m.drop k)) (λ_ i _=>m.length-(intOf i).toNat)
 case atStart=>exact ⟨0, -1,by omega,rfl,rfl,HBW.o,by simp⟩
 obtain ⟨k2,z,hk2,rfl,rfl,hbw,hfe⟩:=hrel;have HF:=Hd hfe;clear HBW;have HBW:=Hd hbw;clear hfe;by_cases hlt2:k2<m.length;rotate_left
 ·go_wp2;go_ret;refine ⟨?_,HBW.o⟩;rw[HE.o,HF.o,jm (by omega)];rfl
 have hy:m[k2]?=some m[k2]:=jz hlt2;obtain ⟨b,o,hA,hb2,r⟩:=(HS2.o.below (hbw.mono hB)).get 11 zds hy;have HD:=Hd (zni u z hy);generalize m[k2]=y at *;subst hA;have HE1:Hid (rlE u z y≠0->audE u l m=rlE u z y):=Hd (λh=>by rw[HE.o,HF.o,HD.o,jb h]);obtain ⟨r0,r1,r2,r3,r4,r5,r6,r7,r8,r9,r10⟩:=rRls r;have K0:=Hd (je wr 116 (cRls y).toArray);have HB0:=jM (Below w w (wr.alloc (.cells (cRls y).toArray 116))) (HBW.o.alloc HBW.o.size _);rw[show (cRls y).toArray=#[.int .i64 y.step,.int .i64 y.at_.col,.int .i64 y.at_.row,.int .i64 y.node,.int .u8 y.fn,.int .i64 y.rect.c1,.int .i64 y.rect.r1,.int .i64 y.rect.c2,.int .i64 y.rect.r2,.int .i64 y.grant,.int .u64 y.to_] from rfl] at K0 HB0;have hi0:(0:Int)<=(k2:Int):=jw _;have hi1:(k2:Int)<(m.length:Int):=by omega
 clear r hy hbw;by_cases c1:y.step<z
 ·have HY:=jM (rlE u z y=12) (by unfold rlE;rw[jb c1]);go_wp2;go_ret;exact ⟨by rw[HE1.o (by rw[HY.o];decide),HY.o];rfl,HB0.o⟩
 go_wp2_with fail;refine (zfi _ _ _).mono ?_;rintro e w3 ⟨rfl,hb3⟩;have K3:=Hd (K0.o.below_ hb3);have HB3:=Hd (jd HB0.o hb3 HB0.o.size);clear hb3 r0 r1 r2 r3 r4 r5 r6 r7 r8 r9 r10;obtain ⟨q5,q6,q7,q8⟩:=K3.o.c4 5 6 7 8
 cases c2:za6 y.at_.col y.at_.row with
 | false=>have HY:=jM (rlE u z y=3) (by unfold rlE;rw[jS,jb (.inl c2)]);go_wp2;go_ret;exact ⟨by rw[HE1.o (by rw[HY.o];decide),HY.o];rfl,HB3.o⟩
 | true=>
 go_wp2_with fail;refine (zdm _ _ _ _ _).mono ?_;rintro e w4 ⟨rfl,hb4⟩;have K4:=Hd (K3.o.below_ hb4);have HB4:=Hd (jd HB3.o hb4 HB3.o.size);clear hb4 q5 q6 q7 q8;by_cases hre:rctE ⟨y.rect.c1,y.rect.r1,y.rect.c2,y.rect.r2⟩=0;rotate_left
 ·have HY:=jM (rlE u z y=3) (by unfold rlE;rw[jS,jb (.inr (by simpa using hre))]);have t1:(rctE ⟨y.rect.c1,y.rect.r1,y.rect.c2,y.rect.r2⟩ != 0)=true:=by simpa using hre
  clear hre;go_wp2;go_ret;exact ⟨by rw[HE1.o (by rw[HY.o];decide),HY.o];rfl,HB4.o⟩
 rw[hre];have HN:=jM (¬(za6 y.at_.col y.at_.row=false\/rctE y.rect≠0)) (by rw[c2];simpa using hre);clear hre;obtain ⟨q0,q3,q4,q9,q10⟩:=K4.o.c5 0 3 4 9 10;by_cases d1:y.node<0
 ·have HY:=jM (rlE u z y=2) (by unfold rlE;rw[jS,ja HN.o,jb (.inl d1)]);go_wp2;go_ret;exact ⟨by rw[HE1.o (by rw[HY.o];decide),HY.o];rfl,HB4.o⟩
 by_cases d2:256<=y.node
 ·have HY:=jM (rlE u z y=2) (by unfold rlE;rw[jS,ja HN.o,jb (.inr (.inl d2))]);go_wp2;go_ret;exact ⟨by rw[HE1.o (by rw[HY.o];decide),HY.o];rfl,HB4.o⟩
 by_cases d3:y.fn<46
 ·have HY:=jM (rlE u z y=2) (by unfold rlE;rw[jS,ja HN.o,jb (.inr (.inr (.inl d3)))]);go_wp2;go_ret;exact ⟨by rw[HE1.o (by rw[HY.o];decide),HY.o];rfl,HB4.o⟩
 by_cases d4:50<y.fn
 ·have HY:=jM (rlE u z y=2) (by unfold rlE;rw[jS,ja HN.o,jb (.inr (.inr (.inr (.inl d4))))]);go_wp2;go_ret;exact ⟨by rw[HE1.o (by rw[HY.o];decide),HY.o];rfl,HB4.o⟩
 by_cases d5:y.grant<0
 ·have HY:=jM (rlE u z y=2) (by unfold rlE;rw[jS,ja HN.o,jb (.inr (.inr (.inr (.inr (.inl d5)))))]);go_wp2;go_ret;exact ⟨by rw[HE1.o (by rw[HY.o];decide),HY.o];rfl,HB4.o⟩
 by_cases d6:64<=y.grant
 ·have HY:=jM (rlE u z y=2) (by unfold rlE;rw[jS,ja HN.o,jb (.inr (.inr (.inr (.inr (.inr (.inl d6))))))]);go_wp2;go_ret;exact ⟨by rw[HE1.o (by rw[HY.o];decide),HY.o];rfl,HB4.o⟩
 by_cases d7:bits .andNot .u64 y.to_ (allI u)≠0
 ·have HY:=jM (rlE u z y=2) (by unfold rlE;rw[jS,ja HN.o,jb (.inr (.inr (.inr (.inr (.inr (.inr (d7)))))))]);have t3:(bits .andNot .u64 y.to_ (allI u) != 0)=true:=by simpa using d7
  clear d7;go_wp2;go_ret;exact ⟨by rw[HE1.o (by rw[HY.o];decide),HY.o];rfl,HB4.o⟩
 have HY:=jM (rlE u z y=0) (by unfold rlE;rw[jS,ja HN.o,ja (by rw[not_or,not_or,not_or,not_or,not_or,not_or];exact ⟨by omega,by omega,by omega,by omega,by omega,by omega,d7⟩)]);have t3:(bits .andNot .u64 y.to_ (allI u) != 0)=false:=by simpa using d7
 clear d7;go_wp2;exact ⟨⟨k2+1,y.step,by omega,rfl,by go_num,HB4.o,by rw[HF.o,HD.o,HY.o];rfl⟩,by simp[intOf];omega⟩
structure WrAt (W:World) (p:Nat) (v:Value) (l:zaa):Prop where
 bx:Blk W p 65 #[v]
 ow:Out W v l
 ob:∀k,v.ownBlock=some k->p<k
structure WTo (p:Nat) (W:World) (ov:Value) (W':World) (ov':Value):Prop where
 chg:Chg (λk=>k=p\/ov.ownBlock=some k) W W'
 own:∀k,ov'.ownBlock=some k->ov.ownBlock=some k\/W.heap.size<=k
section
variable {W W1 W2:World} {p:Nat} {ov ov1 ov2:Value}
theorem WTo.refl (p:Nat) (W:World) (ov:Value):WTo p W ov W ov:=⟨Chg.refl _ _,λ_ h=>.inl h⟩
theorem WTo.trans (h:WTo p W ov W1 ov1) (k:WTo p W1 ov1 W2 ov2):WTo p W ov W2 ov2:=by
 refine ⟨⟨k.chg.os.trans h.chg.os,k.chg.tape.trans h.chg.tape,k.chg.output.trans h.chg.output,jx h.chg.size k.chg.size,λi hi hs=>?_⟩,λi hi=>?_⟩
 ·refine (k.chg.block i (jG hi h.chg.size) λe=>?_).trans (h.chg.block i hi hs);rcases e with e | e
  ·exact hs (.inl e)
  rcases h.own i e with e | e
  ·exact hs (.inr e)
  omega
 rcases k.own i hi with e | e
 ·rcases h.own i e with e | e
  ·exact .inl e
  exact .inr e
 exact .inr (jx h.chg.size e)
theorem WTo.below (h:WTo p W ov W1 ov1) (k:Below W1 W1 W2):WTo p W ov W2 ov1:=⟨h.chg.below k,h.own⟩
theorem WTo.old (h:WTo p W ov W1 ov1) (hp:p<=W.heap.size) (ho:∀k,ov.ownBlock=some k->p<k):Below p W W1:=
 h.chg.to_below hp λk hk e=>by
  rcases e with e | e
  ·omega
  have:=ho k e;omega
theorem WTo.blk {cs:Array Value} (h:WTo p W ov W1 ov1) (hb:Blk W g t cs) (h1:g≠p) (h2:ov.ownBlock≠some g):Blk W1 g t cs:=
 hb.chg h.chg (by intro e;rcases e with e | e;exact h1 e;exact h2 e)
end
section
variable {W W1 W2:World} {p:Nat} {v v1:Value} {l l1:zaa}
theorem WrAt.lt (h:WrAt W p v l):p<W.heap.size:=h.bx.lt
theorem WrAt.below (h:WrAt W p v l) (k:Below W W W1):WrAt W1 p v l:=⟨h.bx.below_ k,h.ow.below k,h.ob⟩
theorem WrAt.ne (h:WrAt W p v l):v.ownBlock≠some p:=λe=>by have:=h.ob p e;omega
theorem WrAt.put (h:WrAt W p v l) (o1:Out W1 v1 l1) (t1:OutTo W v W1 v1):WrAt (W1.setCell (p,0) v1) p v1 l1/\WTo p W v (W1.setCell (p,0) v1) v1:=by
 have hb:∀k,v1.ownBlock=some k->p<k:=λk hk=>by
  rcases t1.own k hk with e | e
  ·exact h.ob k e
  have:=h.lt;omega
 refine ⟨⟨?_,o1.far (p:=⟨p,0,none⟩) (λe=>by have:=hb p e;omega) v1,hb⟩,⟨?_,t1.own⟩⟩
 ·exact (h.bx.outTo t1 h.ne).set_ 0 v1
 exact (t1.chg.mono (T:=λk=>k=p\/v.ownBlock=some k) (λk _ e=>.inr e)).setCell (p:=⟨p,0,none⟩) (.inl (.inl rfl)) v1
theorem WrAt.old (h:WrAt W p v l) (t:WTo p W v W1 v1):Below p W W1:=t.old (jF h.lt) h.ob
theorem WTo.o {x:zaa} (t:WTo p W v W1 v1) (o:Out W u x) (h1:u.ownBlock≠some p) (h2:∀k,u.ownBlock=some k->v.ownBlock≠some k):Out W1 u x:=o.chg t.chg λq hq hs=>by
 rcases hs with hs | hs
 ·exact h1 (hs▸hq)
 exact h2 q hq hs
end
theorem znw {l:zaa} (h:Out w v l):∃A cap,v=.slice A l.length cap:=by
 rcases h.2 with ⟨rfl,he⟩ | ⟨g,cap,cur,rfl,_,_,h1,h2,_⟩
 ·exact ⟨none,0,by rw[he]⟩
 exact ⟨_,cap,rfl⟩
theorem zh1 {l:zaa} (h:Out w v l):∃A n cap,v=.slice A n cap:=by
 obtain ⟨A,cap,e⟩:=znw h;exact ⟨A,_,cap,e⟩
theorem z2w {A:Option Addr} {l:zaa} (h:Out w (.slice A n cap) l) (hn:0<n):∃g,A=some ⟨g,0,none⟩:=by
 rcases h.2 with ⟨e,he⟩ | ⟨g,cap,cur,e,_⟩
 ·have:=congrArg (λv=>match v with | .slice _ k _=>k | _=>0) e;simp at this;omega
 injection e with e1 _ _
 exact ⟨g,e1⟩
theorem out_at {l:zaa} (h:Out w (.slice (some (g,0)) n cap) l) (j:Nat) (hc:l[j]?=some c):w.cell? (g,j)=some (.int .u8 c.toNat):=by
 have:=World.ownsRow.cells h (g:=g) rfl j (.int .u8 c.toNat) (by simp[u8s,hc]);have e:(((g,0):Addr).add j)=(g,j):=by cases j <;> simp[Addr.add]
 rw[e] at this;exact this
theorem zef (p:Nat) (v:Value) (l:zaa) (n:Int) (W:World) (hn0:0<=n) (hn1:n<18446744073709551616) (h:WrAt W p v l) (hl:l.length<=100000000000):
 Calls prog 107 #[(aA p),.int .u64 n] W λu W'=>u=.returned (.tuple #[])/\∃v',WrAt W' p v' (l++numI n)/\WTo p W v W' v':=by
 obtain ⟨i0,hi0,hz0,hz1,hz2⟩:=info_parts (show (prog.info? 5).map (λi=>(i.zero,i.size,i.bytes))=some (some (.int .u8 0),1,1) by kernel_rfl);obtain ⟨m,rfl⟩:∃m:Nat,n=(m:Int):=⟨n.toNat,by omega⟩;have hm2:m<18446744073709551616:=by omega
 have hN:Hid (numI (m:Int)=numB m):=by
  unfold Hid numI
  congr 1
  omega
 clear hn0 hn1;have h8:=zib hm2;have H0:=Hd h;have hlt:=h.lt;clear h;go_enter func107,ntmps107;go_wp2;go_loopw [4,1] (λu y wr=>∃(x:zaa) (q:Nat),y=.int .u64 q/\q<=m/\beB m=beB q++x.reverse/\Out wr u x/\OutTo W (.slice none 0 0) wr u) (λ_ y _=>(intOf y).toNat)
 case atStart=>exact ⟨[],m,rfl,by omega,by simp,Out.nil _,OutTo.refl _ _⟩
 obtain ⟨x,q,rfl,hqm,hx,ox,tx⟩:=hrel;have HX:=Hd hx;have OX:=Hd ox;have TX:=Hd tx;have hx8:x.length<=8:=by have:=congrArg List.length hx;rw[jH,List.length_reverse] at this;omega
 clear hx ox tx;by_cases hy:0<q
 ·have HB:=Hd (zmv (n:=q) (by omega));go_wp2_with (at_builtin;refine zbu rfl _ _ 59 rfl i0 rfl hi0 hz0 hz1 hz2 u4 x rfl (OX.o.alloc _) wr.heap.size ((q:Int) % 256) rfl (by omega) (by omega) (World.cell?_alloc_at _ _ _ _ rfl) (by omega) ?_;intro v2 w2 o2 t2);have O2:=Hd o2;have T2:=Hd (TX.o.trans (((OutTo.refl wr u4).alloc _).trans t2));clear o2 t2;refine ⟨⟨x++ [UInt8.ofNat (q % 256)],q / 256,rfl,by omega,?_,O2.o,T2.o⟩,by simp[intOf];omega⟩;rw[HX.o,HB.o];simp
 obtain rfl:q=0:=by omega
 rw[zey,List.nil_append] at HX;have H1:=Hd (H0.o.below (TX.o.old jy (by simp[Value.ownBlock])));have HUV:=jM (∀k,u4.ownBlock=some k->v.ownBlock≠some k) (λk hk hv=>by
  rcases TX.o.own k hk with e | e
  ·cases e
  have:=H0.o.ow.lt k hv;omega)
 have HUP:=jM (u4.ownBlock≠some p) (λhk=>by
  rcases TX.o.own p hk with e | e
  ·cases e
  omega)
 have c0:wr.cell? (p,0)=some v:=H1.o.bx.cell 0;have hp1:p<wr.heap.size:=H1.o.lt;obtain ⟨A4,cap4,e4⟩:=znw OX.o;subst e4;have HB0:=Hd (WTo.refl p W v |>.below (TX.o.old jy (by simp[Value.ownBlock])));obtain ⟨n,hn⟩:=jN x.length;rw[hn] at hx8 OX HUV HUP TX ⊢;have HN:=Hd hn;clear hn;go_wp2_with (at_builtin;refine ju ?_);refine Hd ?_;refine zbu rfl _ _ 59 rfl i0 rfl hi0 hz0 hz1 hz2 v l rfl (H1.o.ow.alloc _) wr.heap.size (n:Int) rfl (by omega) (by omega) (World.cell?_alloc_at _ _ _ _ rfl) (by omega) ?_;intro v1 w1 o1 t1;obtain ⟨A1,n1,cap1,e1⟩:=zh1 o1;subst e1;have T1:=Hd (((OutTo.refl wr v).alloc (.cells #[.int .u8 n] 5)).trans t1);have O1:=Hd o1;have fz:w1.frozen? (p,0)=false:=(H1.o.bx.outTo T1.o H1.o.ne).frozen 0;have c1:w1.cell? (p,0)=some v:=(H1.o.bx.outTo T1.o H1.o.ne).cell 0;clear o1 t1 c0;have HP:=Hd (H1.o.put O1.o T1.o);have OU:=Hd ((OX.o.outTo T1.o HUV.o).far (p:=⟨p,0,none⟩) HUP.o (.slice A1 n1 cap1));have HV1:=jM (∀k,(Value.slice A4 n cap4).ownBlock=some k->(Value.slice A1 n1 cap1).ownBlock≠some k) (λk hk hv=>by
  rcases T1.o.own k hv with e | e
  ·exact HUV.o k hk e
  have:=OX.o.lt k hk;omega)
 go_wp2;obtain ⟨V,hV⟩:=jN (w1.setCell (p,0) (.slice A1 n1 cap1));rw[hV] at HP OU ⊢;clear hV fz c1;have HP1:=Hd (HB0.o.trans HP.o.2);have HA1:=Hd HP.o.1;clear HP;go_loopw [5] (λi wr2=>∃(r:Nat) (v2:Value),r<=n/\i=.int .i64 ((r:Int)-1)/\WrAt wr2 p v2 (l++UInt8.ofNat n::x.reverse.take (n-r))/\WTo p W v wr2 v2/\Out wr2 (.slice A4 n cap4) x/\(∀k,(Value.slice A4 n cap4).ownBlock=some k->v2.ownBlock≠some k)) (λi _=>(intOf i+1).toNat)
 case atStart=>exact ⟨n,_,by omega,rfl,by simpa using HA1.o,HP1.o,OU.o,HV1.o⟩
 obtain ⟨r,v2,hr,rfl,ha,hp,hu,hv⟩:=hrel;have HA:=Hd ha;have HPW:=Hd hp;have HU:=Hd hu;have HV:=Hd hv;clear ha hp hu hv
 cases r with
 | zero=>
  go_wp2;refine bE ?_;refine ⟨rfl,v2,?_,HPW.o⟩;have e:numI (m:Int)=UInt8.ofNat n::List.take (n-0) x.reverse:=by rw[hN.o,numB,HX.o,List.length_reverse,HN.o,jK (by rw[List.length_reverse,HN.o];omega)]
  rw[e];exact HA.o
 | succ r=>
  rw[show (((r+1:Nat):Int)-1)=(r:Int) by omega];have hr0:(0:Int)<=(r:Int):=by omega
  have hr1:(r:Int)<(n:Int):=by omega
  have hrx:r<x.length:=by rw[HN.o];omega
  obtain ⟨b,hb⟩:=jN (x[r]);have hxr:x[r]?=some b:=by rw[jz hrx,hb]
  obtain ⟨g,rfl⟩:=z2w HU.o (by omega);have HTK:=Hd (show x.reverse.take (n-r)=x.reverse.take (n-(r+1))++ [b] by
   rw[show n-r=(n-(r+1))+1 by omega,jC (by rw[List.length_reverse,HN.o];omega),List.getElem_reverse,<- hb]
   congr 3
   rw[HN.o];omega)
  have hb256:=b.toNat_lt;have C0:=Hd (out_at HU.o r hxr);have hgv:=HV.o g rfl;have hgl:=HU.o.lt g rfl;clear hb hxr hrx;have HO1:=jM (Out (wr.alloc (.cells #[.int .u8 b.toNat] 5)).drew v2 _) ((HA.o.ow.alloc _).drew);have P0:=jM (Blk wr.drew p 65 #[v2]) HA.o.bx.drew;have P1:=jM (Blk (wr.alloc (.cells #[.int .u8 b.toNat] 5)).drew p 65 #[v2]) ((HA.o.bx.alloc _).drew);have C1:=jM ((wr.alloc (.cells #[.int .u8 b.toNat] 5)).drew.cell? (g,r)=some (.int .u8 b.toNat)) ((World.cell?_alloc_old _ _ _ (Nat.ne_of_lt hgl)).trans C0.o);have hlen2:(l++UInt8.ofNat n::List.take (n-(r+1)) x.reverse).length<=1000000000000:=by rw[jH,jk,List.length_take];omega
  go_wp2_with fail;refine wp_region_noPanic ?_;refine zaw (λW'=>Blk W' p 65 #[v2]/\W'.cell? ⟨g,r,none⟩=some (.int .u8 b.toNat)) 13 (by kernel_rfl) ?_;have hHeld:(λW'=>Blk W' p 65 #[v2]/\W'.cell? (g,r)=some (.int .u8 b.toNat)) _:=⟨P0.o,C0.o⟩;refine tU 0 (.pointer (some ⟨p,0,none⟩)) (λ_=>hHeld) ?_
  try go_frame
  refine tU 1 (.pointer (some ⟨p,0,none⟩)) (λ_=>hHeld) ?_
  try go_frame
  refine tU 2 (.pointer (some ⟨p,0,none⟩)) (λ_=>hHeld) ?_
  try go_frame
  refine tU 3 (.pointer (some ⟨p,0,none⟩)) (λ_=>hHeld) ?_
  try go_frame
  refine tV 4 v2 rfl hHeld (Or.inl ⟨by rfl,by intro W hW;have hc:W.cell? ⟨p,0,none⟩=some (v2):=hW.1.cell 0;go_simp⟩) ?_
  try go_frame
  refine tU 5 (.slice (some ⟨g,0,none⟩) n cap4) (λ_=>hHeld) ?_
  try go_frame
  refine tU 6 (.int .i64 (r:Int)) (λ_=>hHeld) ?_
  try go_frame
  refine tU 7 (.pointer (some ⟨g,r,none⟩)) (λ_=>hHeld) ?_
  try go_frame
  refine tV 8 (.int .u8 b.toNat) rfl hHeld (Or.inl ⟨by rfl,by intro W hW;have hc:W.cell? ⟨g,r,none⟩=some (.int .u8 b.toNat):=hW.2;go_simp⟩) ?_
  try go_frame
  refine tS 9 rfl λK hK=>?_;go_simp;refine hK.out _ _ (λ_=>⟨P1.o,C1.o⟩) ?_;have hHeld:(λW'=>Blk W' p 65 #[v2]/\W'.cell? (g,r)=some (.int .u8 b.toNat)) _:=⟨P1.o,C1.o⟩;clear hK K
  try go_frame
  obtain ⟨v9,w9,hr9,o9,t9⟩:=zqk (P:=prog) (w:=(wr.alloc (.cells #[.int .u8 b.toNat] 5)).drew) 59 59 i0 underlying59 hi0 hz0 hz1 hz2 v2 _ HO1.o wr.heap.size b.toNat (by omega) (by omega) (World.cell?_alloc_at _ _ _ _ rfl) hlen2;obtain ⟨A9,n9,c9,hv9⟩:=zh1 o9;subst hv9;have hB9:=P1.o.outTo t9 HA.o.ne;have hC9:w9.cell? (g,r)=some (.int .u8 b.toNat):=(t9.cell (p:=(g,r)) (by simp;omega) hgv).trans C1.o;refine tS 10 rfl λK hK=>?_;refine zbl (.tmp 39) (.tmp 44) _ _ rfl _ _ _ _ rfl rfl hr9 ?_;refine hK.out _ _ (λ_=>⟨hB9,hC9⟩) ?_;have hHeld:(λW'=>Blk W' p 65 #[v2]/\W'.cell? (g,r)=some (.int .u8 b.toNat)) _:=⟨hB9,hC9⟩;clear hK K
  try go_frame
  refine tU 11 (.pointer (some ⟨p,0,none⟩)) (λ_=>hHeld) ?_
  try go_frame
  refine tU 12 (.pointer (some ⟨p,0,none⟩)) (λ_=>hHeld) ?_
  try go_frame
  refine tS 13 rfl λK hK=>?_;have kc:w9.cell? (p,0)=some v2:=hB9.cell 0;have kf:=hB9.frozen 0;go_simp;refine hK.out _ _ (λh=>absurd h (by decide)) ?_;clear hK K
  try go_frame
  refine zax (by kernel_rfl) ?_;refine NoPanic.normal ?_;have HF:=Hd ((HA.o.put (W1:=w9) o9 ⟨(Chg.of_below (show Below wr wr (wr.alloc (.cells #[.int .u8 b.toNat] 5)).drew by go_grown) _ (λk hk _=>hk)).trans t9.chg,λk hk=>(t9.own k hk).elim .inl (λe=>.inr (by simp at e;omega))⟩));have HU9:=Hd ((((HU.o.alloc (.cells #[.int .u8 b.toNat] 5)).drew).outTo t9 (λq hq=>HV.o q hq)).far (p:=⟨p,0,none⟩) HUP.o (.slice A9 n9 c9));have HV9:=jM (∀k,(Value.slice (some (g,0)) n cap4).ownBlock=some k->(Value.slice A9 n9 c9).ownBlock≠some k) (λk hk hv=>(t9.own k hv).elim (HV.o k hk) (λe=>by have:=HU.o.lt k hk;simp at e;omega));clear hHeld hB9 hC9 o9 t9 hr9;go_wp2;refine ⟨⟨r,_,by omega,rfl,?_,HPW.o.trans HF.o.2,HU9.o,HV9.o⟩,by simp[intOf]⟩;rw[HTK.o];simpa using HF.o.1
theorem WTo.ne (t:WTo p W v W1 v1) (hg:g<W.heap.size) (h:v.ownBlock≠some g):v1.ownBlock≠some g:=λe=>by
 rcases t.own g e with e | e
 ·exact h e
 omega
theorem WTo.before (t:WTo p W0 v W1 v1) (hb:Below W W W0):WTo p W v W1 v1:=
 ⟨(Chg.of_below hb _ (λ_k hk _=>hk)).trans t.chg,λk hk=>(t.own k hk).elim .inl (λe=>.inr (jx hb.size e))⟩
structure WS (W0:World) (p:Nat) (v0:Value) (g:Nat) (T:TypeId) (cs:Array Value) (W:World) (v:Value) (l:zaa):Prop where
 wr:WrAt W p v l
 to_:WTo p W0 v0 W v
 kb:Blk W g T cs
 ne:v.ownBlock≠some g
 gp:g≠p
section
variable {W0 W W1:World} {p g:Nat} {v0 v v1:Value} {T:TypeId} {cs:Array Value} {l l1:zaa}
theorem WS.next (h:WS W0 p v0 g T cs W v l) (h1:WrAt W1 p v1 l1) (t:WTo p W v W1 v1):WS W0 p v0 g T cs W1 v1 l1:=
 ⟨h1,h.to_.trans t,t.blk h.kb h.gp h.ne,t.ne h.kb.lt h.ne,h.gp⟩
theorem WS.start (h:WrAt W p v l) (T:TypeId) (cs:Array Value):WS W p v W.heap.size T cs (W.alloc (.cells cs T)) v l:=
 ⟨h.below (by go_grown),(WTo.refl p W v).below (by go_grown),je W T cs,λe=>by have:=h.ow.lt _ e;omega,by have:=h.lt;omega⟩
end
theorem zb2 (p:Nat) (v:Value) (l:zaa) (n:Int) (W:World) (h:WrAt W p v l) (hl:l.length<=100000000000):
 Calls prog 29 #[(aA p),.int .i64 n] W λu W'=>u=.returned (.tuple #[])/\∃v',WrAt W' p v' (l++numI n)/\WTo p W v W' v':=by
 have HC:=Hd (zef p v l (IntKind.u64.wrap n) W (by rw[IntKind.wrap_u64];omega) (by rw[IntKind.wrap_u64];omega) h hl);have HE:=jM (numI (IntKind.u64.wrap n)=numI n) (by unfold numI;rw[IntKind.wrap_u64];congr 1;omega);rw[HE.o] at HC;clear h;go_enter func29,ntmps29;go_wp2_with fail;refine HC.o.mono ?_;rintro u w1 ⟨rfl,hk⟩;have HK:=Hd hk;clear hk;go_wp2;refine bE ?_;exact ⟨rfl,HK.o⟩
theorem zus (p:Nat) (v:Value) (l:zaa) (b:Bool) (W:World) (h:WrAt W p v l) (hl:l.length<=100000000000):
 Calls prog 108 #[(aA p),.bool b] W λu W'=>u=.returned (.tuple #[])/\∃v',WrAt W' p v' (l++zh7 b)/\WTo p W v W' v':=by
 cases b;rotate_left
 ·have HC:=jM (_) (zef p v l 1 W (by omega) (by omega) h hl);have HE:=jM (zh7 true=numI 1) rfl;rw[HE.o];clear h;go_enter func108,ntmps108;go_wp2_with fail;refine HC.o.mono ?_;rintro u w1 ⟨rfl,hk⟩;have HK:=Hd hk;clear hk;go_wp2;refine bE ?_;exact ⟨rfl,HK.o⟩
 have HC:=jM (_) (zef p v l 0 W (by omega) (by omega) h hl);have HE:=jM (zh7 false=numI 0) rfl;rw[HE.o];clear h;go_enter func108,ntmps108;go_wp2_with fail;refine HC.o.mono ?_;rintro u w1 ⟨rfl,hk⟩;have HK:=Hd hk;clear hk;go_wp2;refine bE ?_;exact ⟨rfl,HK.o⟩
theorem zur (p:Nat) (v:Value) (l:zaa) (s:zaa) (W:World) (h:WrAt W p v l) (hl:l.length<=10000000000) (hs:s.length<=10000000000):
 Calls prog 104 #[(aA p),str s] W λu W'=>u=.returned (.tuple #[])/\∃v',WrAt W' p v' (l++zcv s)/\WTo p W v W' v':=by
 obtain ⟨i0,hi0,hz0,hz1,hz2⟩:=info_parts (show (prog.info? 5).map (λi=>(i.zero,i.size,i.bytes))=some (some (.int .u8 0),1,1) by kernel_rfl);have HC:=Hd (zb2 p v l s.length W h (by omega));have HE:=jM (l++zcv s=(l++numI s.length)++s) (by unfold zcv;rw[jJ]);have HL:=jM ((l++numI s.length).length<=1000000000000) (by rw[jH];have:=zab s.length;omega);rw[HE.o];generalize l++numI s.length=l1 at *;clear h;go_enter func104,ntmps104;go_wp2_with fail;refine HC.o.mono ?_;rintro u w1 ⟨rfl,v1,h1,t1⟩;have H1:=Hd h1;have T1:=Hd t1;have c0:w1.cell? (p,0)=some v1:=h1.bx.cell 0;have hlt:=h1.lt;clear h1 t1;go_wp2_with (at_builtin;refine ju ?_);refine Hd ?_;refine zfv rfl _ _ 59 9 rfl i0 underlying59 underlying9 hi0 hz0 hz1 hz2 v1 l1 s rfl H1.o.ow rfl HL.o (by omega) ?_;intro v2 w2 o2 t2;obtain ⟨A2,n2,cap2,e2⟩:=zh1 o2;subst e2;have HP:=Hd (H1.o.put o2 t2);have fz:w2.frozen? (p,0)=false:=(H1.o.bx.outTo t2 H1.o.ne).frozen 0;have c1:w2.cell? (p,0)=some v1:=(H1.o.bx.outTo t2 H1.o.ne).cell 0;clear o2 t2 c0;go_wp2;refine bE ?_;exact ⟨rfl,_,HP.o.1,T1.o.trans HP.o.2⟩
theorem zjc (p:Nat) (v:Value) (l:zaa) (x:Rct) (W:World) (h:WrAt W p v l) (hl:l.length<=10000000000):
 Calls prog 105 #[(aA p),.agg x] W λu W'=>u=.returned (.tuple #[])/\∃v',WrAt W' p v' (l++za7 x)/\WTo p W v W' v':=by
 have HS0:=Hd (WS.start h 43 #[.int .i64 x.c1,.int .i64 x.r1,.int .i64 x.c2,.int .i64 x.r2]);have hL0:=Hd hl;clear h hl;go_enter func105,ntmps105;have c0:World.cell? _ (W,0)=some (.int .i64 x.c1):=HS0.o.kb.cell 0;have g0:=HS0.o.kb.lt;go_wp2_with fail;refine (zb2 p _ (l) x.c1 _ HS0.o.wr (by have:=hL0.o;omega)).mono ?_;rintro u W1 ⟨rfl,v1,h1,t1⟩;have HS1:=Hd (HS0.o.next h1 t1);have hL1:=jM ((l++numI x.c1).length<=10000000000+9) (by rw[jH];have:=zab x.c1;have:=hL0.o;omega);clear h1 t1 c0 g0;have c1:World.cell? _ (W,1)=some (.int .i64 x.r1):=HS1.o.kb.cell 1;have g1:=HS1.o.kb.lt;go_wp2_with fail;refine (zb2 p _ (l++numI x.c1) x.r1 _ HS1.o.wr (by have:=hL1.o;omega)).mono ?_;rintro u W2 ⟨rfl,v2,h2,t2⟩;have HS2:=Hd (HS1.o.next h2 t2);have hL2:=jM ((l++numI x.c1++numI x.r1).length<=10000000000+18) (by rw[jH];have:=zab x.r1;have:=hL1.o;omega);clear h2 t2 c1 g1;have c2:World.cell? _ (W,2)=some (.int .i64 x.c2):=HS2.o.kb.cell 2;have g2:=HS2.o.kb.lt;go_wp2_with fail;refine (zb2 p _ (l++numI x.c1++numI x.r1) x.c2 _ HS2.o.wr (by have:=hL2.o;omega)).mono ?_;rintro u W3 ⟨rfl,v3,h3,t3⟩;have HS3:=Hd (HS2.o.next h3 t3);have hL3:=jM ((l++numI x.c1++numI x.r1++numI x.c2).length<=10000000000+27) (by rw[jH];have:=zab x.c2;have:=hL2.o;omega);clear h3 t3 c2 g2;have c3:World.cell? _ (W,3)=some (.int .i64 x.r2):=HS3.o.kb.cell 3;have g3:=HS3.o.kb.lt;go_wp2_with fail;refine (zb2 p _ (l++numI x.c1++numI x.r1++numI x.c2) x.r2 _ HS3.o.wr (by have:=hL3.o;omega)).mono ?_;rintro u W4 ⟨rfl,v4,h4,t4⟩;have HS4:=Hd (HS3.o.next h4 t4);clear h4 t4 c3 g3;go_wp2;refine bE ?_;refine ⟨rfl,_,?_,HS4.o.to_⟩;have:=HS4.o.wr;simpa [za7,jJ] using this
theorem znc (p:Nat) (v:Value) (l:zaa) (x:Rts) (hu:0<=x.rd/\x.rd<18446744073709551616/\0<=x.wr/\x.wr<18446744073709551616/\0<=x.ow/\x.ow<18446744073709551616) (W:World) (h:WrAt W p v l) (hl:l.length<=10000000000):
 Calls prog 106 #[(aA p),.agg x] W λu W'=>u=.returned (.tuple #[])/\∃v',WrAt W' p v' (l++zce x)/\WTo p W v W' v':=by
 have HS0:=Hd (WS.start h 46 #[.int .u64 x.rd,.int .u64 x.wr,.int .u64 x.ow]);have hL0:=Hd hl;clear h hl;go_enter func106,ntmps106;have c0:World.cell? _ (W,0)=some (.int .u64 x.rd):=HS0.o.kb.cell 0;have g0:=HS0.o.kb.lt;go_wp2_with fail;refine (zef p _ (l) x.rd _ hu.1 hu.2.1 HS0.o.wr (by have:=hL0.o;omega)).mono ?_;rintro u W1 ⟨rfl,v1,h1,t1⟩;have HS1:=Hd (HS0.o.next h1 t1);have hL1:=jM ((l++numI x.rd).length<=10000000000+9) (by rw[jH];have:=zab x.rd;have:=hL0.o;omega);clear h1 t1 c0 g0;have c1:World.cell? _ (W,1)=some (.int .u64 x.wr):=HS1.o.kb.cell 1;have g1:=HS1.o.kb.lt;go_wp2_with fail;refine (zef p _ (l++numI x.rd) x.wr _ hu.2.2.1 hu.2.2.2.1 HS1.o.wr (by have:=hL1.o;omega)).mono ?_;rintro u W2 ⟨rfl,v2,h2,t2⟩;have HS2:=Hd (HS1.o.next h2 t2);have hL2:=jM ((l++numI x.rd++numI x.wr).length<=10000000000+18) (by rw[jH];have:=zab x.wr;have:=hL1.o;omega);clear h2 t2 c1 g1;have c2:World.cell? _ (W,2)=some (.int .u64 x.ow):=HS2.o.kb.cell 2;have g2:=HS2.o.kb.lt;go_wp2_with fail;refine (zef p _ (l++numI x.rd++numI x.wr) x.ow _ hu.2.2.2.2.1 hu.2.2.2.2.2 HS2.o.wr (by have:=hL2.o;omega)).mono ?_;rintro u W3 ⟨rfl,v3,h3,t3⟩;have HS3:=Hd (HS2.o.next h3 t3);clear h3 t3 c2 g2;go_wp2;refine bE ?_;refine ⟨rfl,_,?_,HS3.o.to_⟩;have:=HS3.o.wr;simpa [zce,jJ] using this
def zgu (step:Int) (z:Option Int):Bool:=match z with
 | some z=>decide (step<=z)
 | none=>false
end Go.Proofs.YtamcgggmfghljaaGreatDoor
