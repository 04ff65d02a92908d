/- walk -/
import Derived.Laws.EntriesVeiled
import Derived.Test.YtamcgggmfghljaaGreatDoorE11
set_option maxRecDepth 100000
set_option maxHeartbeats 8000000
open Go.Proofs.Tryz
namespace Go.Proofs.YtamcgggmfghljaaGreatDoor
open Go.RowKit
variable {α:Type}
abbrev Rd:=zaa × Bool
def za2 (n:Int) (r:Rd):zaa × Rd:=if n<0\/(r.1.length:Int)<n then ([],([],true)) else (r.1.take n.toNat,(r.1.drop n.toNat,r.2))
def beN:Nat->zaa->Nat
 | v,[]=>v
 | v,c::t=>beN ((v*256+c.toNat) % 18446744073709551616) t
def numR (r:Rd):Nat × Rd:=
 match r with
 | ([],_)=>(0,([],true))
 | (c::t,b)=>(beN 0 (za2 c.toNat (t,b||decide (8<c.toNat))).1,(za2 c.toNat (t,b||decide (8<c.toNat))).2)
def zaj (n:Nat):Int:=(((n:Int)+9223372036854775808) % 18446744073709551616)-9223372036854775808
def intR (r:Rd):Int × Rd:=(zaj (numR r).1,(numR r).2)
def u64R (r:Rd):Int × Rd:=((numR r).1,(numR r).2)
def u8R (r:Rd):Int × Rd:=(((numR r).1 % 256:Nat),(numR r).2)
def zbr (r:Rd):Rct × Rd:=
 let a:=intR r
 let b:=intR a.2
 let c:=intR b.2
 let d:=intR c.2
 (⟨a.1,b.1,c.1,d.1⟩,d.2)
def zbz (r:Rd):Ref × Rd:=
 let a:=intR r
 let b:=intR a.2
 (⟨a.1,b.1⟩,b.2)
def zd5 (r:Rd):Rts × Rd:=
 let a:=u64R r
 let b:=u64R a.2
 let c:=u64R b.2
 (⟨a.1,b.1,c.1⟩,c.2)
def zdu (r:Rd):zaa × Rd:=za2 (intR r).1 (intR r).2
def zam {α:Type} (one:Rd->α × Rd):Nat->Rd->List α × Rd
 | 0,r=>([],r)
 | n+1,r=>if r.2=true then ([],r) else ((one r).1::(zam one n (one r).2).1,(zam one n (one r).2).2)
def lenR (r:Rd):Int × Rd:=((intR r).1,((intR r).2.1,(intR r).2.2||decide ((intR r).1<0)||decide (((intR r).2.1.length:Int)<(intR r).1)))
def zbk {α:Type} (one:Rd->α × Rd) (r:Rd):List α × Rd:=zam one (lenR r).1.toNat (lenR r).2
def entR (r:Rd):Ent × Rd:=
 let a:=zbz r
 let b:=zdu a.2
 (⟨a.1,b.1⟩,b.2)
def rulR (r:Rd):Rul × Rd:=
 let a:=zbr r
 let b:=zd5 a.2
 (⟨a.1,b.1⟩,b.2)
def oneR (r:Rd):Bool × Rd:=(decide ((intR r).1=1),(intR r).2)
def grtR (r:Rd):Grt × Rd:=
 let a:=zbr r
 let b:=u8R a.2
 let c:=u64R b.2
 let d:=intR c.2
 let e:=oneR d.2
 (⟨a.1,b.1,c.1,d.1,e.1⟩,e.2)
def evtR (r:Rd):Evt × Rd:=
 let a:=intR r
 let b:=intR a.2
 let c:=u8R b.2
 let d:=zbr c.2
 let e:=oneR d.2
 let f:=u64R e.2
 (⟨a.1,b.1,c.1,d.1,e.1,f.1⟩,f.2)
def rlsR (r:Rd):Rls × Rd:=
 let a:=intR r
 let b:=zbz a.2
 let c:=intR b.2
 let d:=u8R c.2
 let e:=zbr d.2
 let f:=intR e.2
 let g:=u64R f.2
 (⟨a.1,b.1,c.1,d.1,e.1,f.1,g.1⟩,g.2)
def bitR (m:Nat) (i:Nat):Bool:=decide (m / 2 ^ i % 2=1)
def ifR {α:Type} (b:Bool) (z:α) (f:Rd->α × Rd) (r:Rd):α × Rd:=if b=true then f r else (z,r)
def oprR (r:Rd):Opr × Rd:=
 let k:=u8R r
 let m:=numR k.2
 let a:=ifR (bitR m.1 0) 0 intR m.2
 let b:=ifR (bitR m.1 1) ⟨0,0,0,0⟩ zbr a.2
 let c:=ifR (bitR m.1 2) [] zdu b.2
 let d:=ifR (bitR m.1 3) ⟨0,0,0⟩ zd5 c.2
 let e:=ifR (bitR m.1 4) 0 u8R d.2
 let f:=ifR (bitR m.1 5) 0 u64R e.2
 let g:=ifR (bitR m.1 6) 0 intR f.2
 (⟨k.1,a.1,b.1,c.1,d.1,e.1,f.1,g.1⟩,g.2)
def scpR (r:Rd):Scp × Rd:=
 let u:=intR r
 let e:=zbk entR u.2
 let l:=zbk rulR e.2
 let g:=zbk grtR l.2
 let v:=zbk evtR g.2
 let x:=zbk rlsR v.2
 let t:=intR x.2
 let o:=zbk oprR t.2
 (⟨⟨u.1,e.1,l.1,g.1,v.1,x.1,t.1⟩,o.1⟩,o.2)
def Back {α:Type} (f:α->zaa) (g:Rd->α × Rd) (x:α):Prop:=∀(t:zaa),g (f x++t,false)=(x,(t,false))
theorem zp4:∀(l:zaa) (v:Nat) (c:UInt8),beN v (l++ [c])=(beN v l*256+c.toNat) % 18446744073709551616
 | [],_,_=>rfl
 | _::l,_,c=>zp4 l _ c
theorem z34:∀(n:Nat),n<18446744073709551616->beN 0 (beB n)=n:=by
 intro n
 induction n using Nat.strongRecOn with
 | _ n ih=>
  intro h;by_cases h0:n=0
  ·subst h0;rw[zey];rfl
  rw[zmv h0,zp4,ih (n / 256) (by omega) (by omega),UInt8.toNat_ofNat'];omega
def I64 (n:Int):Prop:= -9223372036854775808<=n/\n<=9223372036854775807
def U64 (n:Int):Prop:=0<=n/\n<18446744073709551616
def U8 (n:Int):Prop:=0<=n/\n<256
theorem zr5 (n:Int) (h:I64 n):zaj (n % 18446744073709551616).toNat=n:=by
 obtain ⟨h0,h1⟩:=h;unfold zaj;rw[Int.toNat_of_nonneg (by omega)];omega
structure OkRct (x:Rct):Prop where
 c1:I64 x.c1
 r1:I64 x.r1
 c2:I64 x.c2
 r2:I64 x.r2
structure OkRef (x:Ref):Prop where
 col:I64 x.col
 row:I64 x.row
structure OkRts (x:Rts):Prop where
 rd:U64 x.rd
 wr:U64 x.wr
 ow:U64 x.ow
def zp6 (s:zaa):Prop:=s.length<=9223372036854775807
structure OkEnt (x:Ent):Prop where
 at_:OkRef x.at_
 input:zp6 x.input
structure OkRul (x:Rul):Prop where
 rect:OkRct x.rect
 rights:OkRts x.rights
structure OkGrt (x:Grt):Prop where
 rect:OkRct x.rect
 fns:U8 x.fns
 to_:U64 x.to_
 by_:I64 x.by_
structure OkEvt (x:Evt):Prop where
 step:I64 x.step
 user:I64 x.user
 kind:U8 x.kind
 rect:OkRct x.rect
 to_:U64 x.to_
structure OkRls (x:Rls):Prop where
 step:I64 x.step
 at_:OkRef x.at_
 node:I64 x.node
 fn:U8 x.fn
 rect:OkRct x.rect
 grant:I64 x.grant
 to_:U64 x.to_
structure OkOpr (x:Opr):Prop where
 kind:U8 x.kind
 user:I64 x.user
 rect:OkRct x.rect
 input:zp6 x.input
 rights:OkRts x.rights
 fns:U8 x.fns
 to_:U64 x.to_
 index:I64 x.index
structure OkBok (b:Bok):Prop where
 users:I64 b.users
 entries:∀x∈b.entries,OkEnt x
 rules:∀x∈b.rules,OkRul x
 grants:∀x∈b.grants,OkGrt x
 log:∀x∈b.log,OkEvt x
 releases:∀x∈b.releases,OkRls x
 step:I64 b.step
 lens:b.entries.length<=9223372036854775807/\b.rules.length<=9223372036854775807/\b.grants.length<=9223372036854775807/\b.log.length<=9223372036854775807/\b.releases.length<=9223372036854775807
structure OkScp (s:Scp):Prop where
 book:OkBok s.book
 ops:∀x∈s.ops,OkOpr x
 len:s.ops.length<=9223372036854775807
theorem zg2 (n:Int):1<=(numI n).length:=by unfold numI numB;simp
theorem zwy (f:α->zaa) (hf:∀x,1<=(f x).length):∀(l:List α),l.length<=(l.flatMap f).length
 | []=>by simp
 | x::l=>by
  have:=zwy f hf l;have:=hf x;rw[List.flatMap_cons,jH,jk];omega
theorem zk4 (f:α->zaa) (g:Rd->α × Rd):∀(l:List α) (t:zaa),(∀x∈l,Back f g x)->zam g l.length (l.flatMap f++t,false)=(l,(t,false))
 | [],t,_=>rfl
 | x::l,t,h=>by
  rw[jk,List.flatMap_cons,jJ];unfold zam;rw[ja (by simp),h x (by simp) _,zk4 f g l t (λy hy=>h y (by simp[hy]))]
theorem z3w (x:Ent):1<=(entB x).length:=by have:=zg2 x.at_.col;unfold entB zb0;simp only[jH];omega
theorem z18 (x:Rul):1<=(rulB x).length:=by have:=zg2 x.rect.c1;unfold rulB za7;simp only[jH];omega
theorem z3l (x:Grt):1<=(grtB x).length:=by have:=zg2 x.rect.c1;unfold grtB za7;simp only[jH];omega
theorem z3u (x:Evt):1<=(evtB x).length:=by have:=zg2 x.step;unfold evtB;simp only[jH];omega
theorem z2h (x:Rls):1<=(rlsB x).length:=by have:=zg2 x.step;unfold rlsB;simp only[jH];omega
theorem z2y (x:Opr):1<=(oprB x).length:=by have:=zg2 x.kind;unfold oprB;simp only[jH];omega
theorem zfo (f:α->zaa) (g:Rd->α × Rd) (x z:α) (b:Bool) (hz:b=false->x=z) (h:Back f g x) (t:zaa):ifR b z g ((if b=true then f x else [])++t,false)=(x,(t,false)):=by
 unfold ifR;cases b
 ·simp[hz rfl]
 simpa using h t
def zfb (a b c d e f g:Bool):Nat:=a.toNat+2*(b.toNat+2*(c.toNat+2*(d.toNat+2*(e.toNat+2*(f.toNat+2*g.toNat)))))
theorem ztf:∀a b c d e f g:Bool,bitR (zfb a b c d e f g) 0=a/\bitR (zfb a b c d e f g) 1=b/\bitR (zfb a b c d e f g) 2=c/\bitR (zfb a b c d e f g) 3=d/\bitR (zfb a b c d e f g) 4=e/\bitR (zfb a b c d e f g) 5=f/\bitR (zfb a b c d e f g) 6=g/\zfb a b c d e f g<128:=by decide
def opsS:Array Value:=#[str [60,62],str [60,61],str [62,61],str [43],str [45],str [42],str [47],str [94],str [38],str [61],str [60],str [62],str [37]]
def opsI:Array Value:=#[.int .i64 8,.int .i64 10,.int .i64 12,.int .i64 1,.int .i64 2,.int .i64 3,.int .i64 4,.int .i64 5,.int .i64 6,.int .i64 7,.int .i64 9,.int .i64 11,.int .i64 13]
theorem z3g (w:World):
 Calls prog 282 #[] w λu w'=>u=.returned (.tuple #[.slice (some (w,0)) 13 13,.slice (some (w.heap.size+1,0)) 13 13])/\w'=(w.alloc (.cells opsS 9)).alloc (.cells opsI 2):=by
 go_enter func282,ntmps282;go_wp2;go_ret2;exact ⟨rfl,rfl⟩
theorem ops_at (k:Nat) (h:k<13):∃x n,opsW.drop k=(x,n)::opsW.drop (k+1)/\opsS[k]?=some (str x)/\opsI[k]?=some (.int .i64 n)/\x.length<=2/\1<=x.length:=by
 rcases (by omega:k=0\/k=1\/k=2\/k=3\/k=4\/k=5\/k=6\/k=7\/k=8\/k=9\/k=10\/k=11\/k=12) with rfl|rfl|rfl|rfl|rfl|rfl|rfl|rfl|rfl|rfl|rfl|rfl|rfl <;> exact ⟨_,_,rfl,rfl,rfl,by decide,by decide⟩
theorem zz2 (g:Nat) (s:zaa) (i:Nat) (w:World) (hs:s.length<=1000000) (hi:i<s.length) (hg:Blk w g 263 #[str s]):
 Calls prog 250 #[(aA g),.int .i64 i] w λu w'=>u=.returned (.tuple #[.agg (cTok (zdl s i).1).toArray,.int .i64 (zdl s i).2])/\Below w w w':=by
 have hgl:=hg.lt;have hG:=((hg.alloc (.cells aT 239)).alloc (.cells opsS 9)).alloc (.cells opsI 2);have hZ:=((je w 239 aT).alloc (.cells opsS 9)).alloc (.cells opsI 2);have hS:=(je (w.alloc (.cells aT 239)) 9 opsS).alloc (.cells opsI 2);have hI:=je ((w.alloc (.cells aT 239)).alloc (.cells opsS 9)) 2 opsI;have hB:Below w w (((w.alloc (.cells aT 239)).alloc (.cells opsS 9)).alloc (.cells opsI 2)):=by go_grown
 clear hg;have hi0:(0:Int)<=(i:Int):=jw _;have hi1:(i:Int)<(s.length:Int):=by omega
 have hx0:=za3 s i (by rw[zae];exact hi);have HU:=jM (ub s i=(s.getD i 0).toNat) rfl;generalize s.getD i 0=c0 at *;simp only[World.size_alloc] at hS hI;have HG':=Hd hG;have HZ':=Hd hZ;have HS':=Hd hS;have HI':=Hd hI;have HB':=Hd hB;clear hG hZ hS hI hB;go_enter func250,ntmps250;go_wp2_with fail;refine (z3g _).mono ?_;rintro u w1 ⟨rfl,hw1⟩;obtain ⟨W1,hW1⟩:=jN (((w.alloc (.cells aT 239)).alloc (.cells opsS 9)).alloc (.cells opsI 2));rw[hW1] at HG' HZ' HS' HI' HB';have e1:w1=W1:=hw1.trans hW1;subst e1;clear hw1 hW1;simp only[World.size_alloc];go_wp2_with fail;go_loopw [16] (λv wr=>∃k:Nat,k<=13/\v=.int .i64 k/\opsL s i opsW=opsL s i (opsW.drop k)/\wr=w1) (λv _=>13-(intOf v).toNat)
 case atStart=>exact ⟨0,by omega,rfl,rfl,rfl⟩
 obtain ⟨k,hk,rfl,hdr,rfl⟩:=hrel;have HD:=Hd hdr;clear hdr;have k0:(0:Int)<=(k:Int):=by omega
 by_cases hk13:k<13
 ·have hk1:(k:Int)<13:=by omega
  obtain ⟨x,n,hn,hx,hxi,hx2,hx1⟩:=ops_at k hk13;have HN:=Hd hn;clear hn;have cS:wr.cell? (w.heap.size+1,k)=some (str x):=(HS'.o.cell k).trans hx;have cI:wr.cell? (w.heap.size+1+1,k)=some (.int .i64 n):=(HI'.o.cell k).trans hxi;have cG:wr.cell? (g,0)=some (str s):=HG'.o.cell 0;go_wp2_with fail;rw[zev _ _ _ rfl];refine (ztq (s.drop i) x _ (by simp;omega) (by omega)).mono ?_;rintro u w2 ⟨rfl,rfl⟩;by_cases hp:x.isPrefixOf (s.drop i)=true
  ·have HE:=jM (zdl s i=(⟨8,n,[],z4,i⟩,x.length)) (by unfold zdl;rw[HD.o,HN.o];unfold opsL;rw[jb hp]);rw[hp];clear hp hx hxi HD HN;obtain ⟨q0,q1,q2,q3,q4,q5,q6,q7,qf⟩:=zad HZ'.o;have hx3:(x.length:Int)<=2:=by omega
   go_wp2;refine jO results250 (v:=.tuple #[.agg (cTok ⟨8,n,[],z4,i⟩).toArray,.int .i64 x.length]) ?_ (by simp (maxDischargeDepth:=9) [jQ,go_sem,q0,q1,q2,q3,q4,q5,q6,q7,cTok,z4]);rw[HE.o];exact ⟨rfl,zan HB'.o jy _ _ _ _ _ _ _ _⟩
  have HE:=Hd (show opsL s i opsW=opsL s i (opsW.drop (k+1)) by
   rw[HD.o,HN.o];conv=>lhs;unfold opsL
   rw[ja hp])
  rw[eq_false_of_ne_true hp];clear hp hx hxi HD HN;go_wp2;exact ⟨⟨k+1,by omega,by go_num,HE.o,trivial⟩,by simp[intOf];omega⟩
 have hk1:¬(k:Int)<13:=by omega
 have HN:=jM (opsL s i opsW=none) (by rw[HD.o,show k=13 by omega];rfl);have cG:wr.cell? (g,0)=some (str s):=HG'.o.cell 0;clear HD;obtain ⟨q0,q1,q2,q3,q4,q5,q6,q7,qf⟩:=zad HZ'.o;by_cases e40:c0.toNat=40
 ·have HE:=jM (zdl s i=(⟨9,0,[],z4,i⟩,1)) (by unfold zdl;rw[HN.o,HU.o];exact jb e40);have b40:((c0.toNat:Int)==40)=true:=by rw[e40];rfl
  clear e40;go_wp2;refine jO results250 (v:=.tuple #[.agg (cTok ⟨9,0,[],z4,i⟩).toArray,.int .i64 1]) ?_ (by simp (maxDischargeDepth:=9) [jQ,go_sem,q0,q1,q2,q3,q4,q5,q6,q7,cTok,z4]);rw[HE.o];exact ⟨rfl,zan HB'.o jy _ _ _ _ _ _ _ _⟩
 have b40:((c0.toNat:Int)==40)=false:=by simp;omega
 by_cases e41:c0.toNat=41
 ·have HE:=jM (zdl s i=(⟨10,0,[],z4,i⟩,1)) (by unfold zdl;rw[HN.o,HU.o];exact (ja e40).trans (jb e41));have b41:((c0.toNat:Int)==41)=true:=by rw[e41];rfl
  clear e40 e41;go_wp2;refine jO results250 (v:=.tuple #[.agg (cTok ⟨10,0,[],z4,i⟩).toArray,.int .i64 1]) ?_ (by simp (maxDischargeDepth:=9) [jQ,go_sem,q0,q1,q2,q3,q4,q5,q6,q7,cTok,z4]);rw[HE.o];exact ⟨rfl,zan HB'.o jy _ _ _ _ _ _ _ _⟩
 have b41:((c0.toNat:Int)==41)=false:=by simp;omega
 by_cases e44:c0.toNat=44
 ·have HE:=jM (zdl s i=(⟨11,0,[],z4,i⟩,1)) (by unfold zdl;rw[HN.o,HU.o];exact (ja e40).trans ((ja e41).trans (jb e44)));have b44:((c0.toNat:Int)==44)=true:=by rw[e44];rfl
  clear e40 e41 e44;go_wp2;refine jO results250 (v:=.tuple #[.agg (cTok ⟨11,0,[],z4,i⟩).toArray,.int .i64 1]) ?_ (by simp (maxDischargeDepth:=9) [jQ,go_sem,q0,q1,q2,q3,q4,q5,q6,q7,cTok,z4]);rw[HE.o];exact ⟨rfl,zan HB'.o jy _ _ _ _ _ _ _ _⟩
 have b44:((c0.toNat:Int)==44)=false:=by simp;omega
 have HE:=jM (zdl s i=(tok0,0)) (by unfold zdl;rw[HN.o,HU.o];exact (ja e40).trans ((ja e41).trans (ja e44)));clear e40 e41 e44;go_wp2;refine jO results250 (v:=.tuple #[.agg (cTok tok0).toArray,.int .i64 0]) ?_ (by simp (maxDischargeDepth:=9) [jQ,go_sem,q0,q1,q2,q3,q4,q5,q6,q7,cTok,z4,tok0]);rw[HE.o];exact ⟨rfl,zan HB'.o jy _ _ _ _ _ _ _ _⟩
theorem zpm (c:Nat) (w:World) (h1:1<=c) (h7:c<=7):
 Calls prog 280 #[.int .i64 c] w λu w'=>u=.returned (.bool (decide (c<=5)))/\w=w':=by
 have e1:1<=(c:Int):=by omega
 by_cases h:c<=5
 ·have e2:(c:Int)<=5:=by omega
  have HD:=jM (decide (c<=5)=true) (by simpa using h);clear h;go_enter func280,ntmps280;go_wp2;go_ret;exact ⟨by rw[HD.o];rfl,rfl⟩
 have e2:¬(c:Int)<=5:=by omega
 have HD:=jM (decide (c<=5)=false) (by simpa using h);clear h;go_enter func280,ntmps280;go_wp2;go_ret;exact ⟨by rw[HD.o];rfl,rfl⟩
theorem z3r (c:Nat) (h1:1<=c) (h5:c<=5):∃x,zi2[c]?=some x/\zhn.drop (c-1)=x::zhn.drop c/\x.length<=7:=by
 rcases (by omega:c=1\/c=2\/c=3\/c=4\/c=5) with rfl|rfl|rfl|rfl|rfl <;> exact ⟨_,rfl,rfl,by decide⟩
theorem zz4 (g:Nat) (s:zaa) (i:Nat) (w:World) (hs:s.length<=1000000) (hi:i<=s.length) (hg:Blk w g 263 #[str s]) (hw:Words w):
 Calls prog 249 #[(aA g),.int .i64 i] w λu w'=>u=.returned (.tuple #[.agg (cTok (zdo s i).1).toArray,.int .i64 (zdo s i).2])/\Below w w w':=by
 have HW:=Hd hw;clear hw;have HG0:=Hd (hg.alloc (.cells aT 239));have hgl:=hg.lt;clear hg;have hi0:(0:Int)<=(i:Int):=jw _;have hi1:(i:Int)<=(s.length:Int):=by omega
 have KZ0:=jM (TokZ _ w.heap.size) (je w 239 aT);have HB0:=jM (Below w w (w.alloc (.cells aT 239))) (by go_grown);go_enter func249,ntmps249;go_wp2_with fail;go_loopw [6] (λv wr=>∃c:Nat,1<=c/\c<=6/\v=.int .i64 c/\zdo s i=zd0 s i c (zhn.drop (c-1))/\Blk wr g 263 #[str s]/\TokZ wr w.heap.size/\Below w w wr) (λv _=>7-(intOf v).toNat)
 case atStart=>exact ⟨1,by omega,by omega,rfl,rfl,HG0.o,KZ0.o,HB0.o⟩
 obtain ⟨c,hc1,hc6,rfl,hfl,hgw,hkz,hbw⟩:=hrel;have HFL:=Hd hfl;have HGW:=Hd hgw;have HKZ:=Hd hkz;have HBW:=Hd hbw;clear hfl hgw hkz hbw;have c0:(0:Int)<=(c:Int):=by omega
 have c7:(c:Int)<=7:=by omega
 go_wp2_with fail;refine (zpm c _ hc1 (by omega)).mono ?_;rintro u w1 ⟨rfl,rfl⟩;by_cases h5:c<=5;rotate_left
 ·have hd:decide (c<=5)=false:=by simpa using h5
  have HE:=jM (zdo s i=(tok0,0)) (by rw[HFL.o,show c=6 by omega];rfl);rw[hd];obtain ⟨q0,q1,q2,q3,q4,q5,q6,q7,qf⟩:=zad HKZ.o;go_wp2;refine jO results249 (v:=.tuple #[.agg (cTok tok0).toArray,.int .i64 0]) ?_ (by simp (maxDischargeDepth:=9) [jQ,go_sem,q0,q1,q2,q3,q4,q5,q6,q7,cTok,z4,tok0]);rw[HE.o];exact ⟨rfl,zan HBW.o jy _ _ _ _ _ _ _ _⟩
 have hd:decide (c<=5)=true:=by simpa using h5
 rw[hd];obtain ⟨x,hx,hdr,hxl⟩:=z3r c hc1 h5;have HDR:=Hd hdr;have HX:=Hd hx;clear hd hdr hx;go_wp2_with fail;refine (zw1 c _ (by omega) (by omega)).mono ?_;rintro u w1 ⟨rfl,hb⟩;have HB1:=jM (Below w w w1) (jd HBW.o hb HBW.o.size);have HG1:=Hd (HGW.o.below_ hb);have KZ1:=Hd (HKZ.o.below_ hb);clear hb;go_wp2_with fail;refine (zyh c x _ hc1 h5 HX.o (HW.o.below HB1.o)).mono ?_;rintro u w2 ⟨rfl,hb⟩;have HB2:=jM (Below w w w2) (jd HB1.o hb HB1.o.size);have HG2:=Hd (HG1.o.below_ hb);have KZ2:=Hd (KZ1.o.below_ hb);clear hb;have hgc:=HG2.o.cell 0;have hx7:(x.length:Int)<=7:=by omega
 by_cases hfit:i+x.length<=s.length;rotate_left
 ·have hf1:¬(i:Int)+(x.length:Int)<=(s.length:Int):=by omega
  have HN:=Hd (show zdo s i=zd0 s i ((c+1:Nat):Int) (zhn.drop (c+1-1)) by
   rw[HFL.o,HDR.o]
   conv=>lhs;unfold zd0
   rw[ja (λh=>hfit h.1)];rfl)
  go_wp2;exact ⟨⟨c+1,by omega,by omega,by go_num,HN.o,HG2.o,KZ2.o,HB2.o⟩,by simp[intOf];omega⟩
 have hf1:(i:Int)+(x.length:Int)<=(s.length:Int):=by omega
 have hf2:(i:Int)<=(i:Int)+(x.length:Int):=by omega
 go_wp2_with fail;rw[zdc];refine (ze5 _ _ (by simp;omega)).mono ?_;rintro u w3 ⟨rfl,hb⟩;have HB3:=jM (Below w w w3) (jd HB2.o hb HB2.o.size);have HG3:=Hd (HG2.o.below_ hb);have KZ3:=Hd (KZ2.o.below_ hb);clear hb hgc;rw[show upB ((s.drop i).take x.length)=((s.drop i).take x.length).map upU from rfl];by_cases heq:((s.drop i).take x.length).map upU=x
 ·have HE:=jM (zdo s i=(⟨4,c,[],z4,i⟩,x.length)) (by rw[HFL.o,HDR.o];unfold zd0;rw[jb ⟨hfit,heq⟩]);have heq2:(((s.drop i).take x.length).map upU==x)=true:=by simpa using heq
  generalize ((s.drop i).take x.length).map upU=y at heq2 ⊢;clear heq;obtain ⟨q0,q1,q2,q3,q4,q5,q6,q7,qf⟩:=zad KZ3.o;go_wp2;refine jO results249 (v:=.tuple #[.agg (cTok ⟨4,c,[],z4,i⟩).toArray,.int .i64 x.length]) ?_ (by simp (maxDischargeDepth:=9) [jQ,go_sem,q0,q1,q2,q3,q4,q5,q6,q7,cTok,z4]);rw[HE.o];exact ⟨rfl,zan HB3.o jy _ _ _ _ _ _ _ _⟩
 have HN:=Hd (show zdo s i=zd0 s i ((c+1:Nat):Int) (zhn.drop (c+1-1)) by
  rw[HFL.o,HDR.o]
  conv=>lhs;unfold zd0
  rw[ja (λh=>heq h.2)];rfl)
 have heq2:(((s.drop i).take x.length).map upU==x)=false:=by simpa using heq
 generalize ((s.drop i).take x.length).map upU=y at heq2 ⊢;clear heq;go_wp2;exact ⟨⟨c+1,by omega,by omega,by go_num,HN.o,HG3.o,KZ3.o,HB3.o⟩,by simp[intOf];omega⟩
def tryS (s:zaa) (i:Nat):Nat->Tok × Nat
 | 0=>zaq s i
 | 1=>zdk s i
 | 2=>zbq s i
 | 3=>zdo s i
 | _=>zdl s i
theorem zp0 (s:zaa):∀f k r,endQ s f k=some r->r<s.length
 | 0,_,_,h=>by simp[endQ] at h
 | f+1,k,r,h=>by
  unfold endQ at h;split at h
  ·cases h
  split at h
  ·exact zp0 s f _ r h
  split at h
  ·exact zp0 s f _ r h
  cases h;omega
theorem zrq (s:zaa) (i:Nat):∀(l:List zaa) (c:Int),(zd0 s i c l).2<=s.length
 | [],c=>by simp[zd0]
 | x::l,c=>by
  unfold zd0;split
  ·rename_i h;simp;omega
  exact zrq s i l _
theorem zvr (s:zaa) (i:Nat):∀(l:List (zaa × Int)) r,opsL s i l=some r->r.2<=s.length
 | [],r,h=>by simp[opsL] at h
 | (x,n)::l,r,h=>by
  unfold opsL at h;split at h
  ·rename_i hp;cases h;have:=(List.isPrefixOf_iff_prefix.1 hp).length_le;simp at this ⊢;omega
  exact zvr s i l r h
theorem zgw (s:zaa) (i k:Nat):(tryS s i k).2<=2*s.length+1:=by
 have hl:∀p j,lenB p s j<=s.length:=λp j=>jx (zg4 p s j) (by omega);have hp:∀j,(zag s j).length<=s.length:=λj=>by unfold zag;simp;omega
 unfold tryS;split
 ·have h1:=hl digB i;have h2:=hl digB (i+lenB digB s i+1);unfold zaq
  repeat' split
  all_goals try (simp;done)
  simp only[zbj];split <;> omega
 ·unfold zdk;split
  ·simp
  split
  ·simp
  rename_i k h;have:=zp0 s _ _ _ h;split
  ·simp
  simp;omega
 ·have h1:=hp i;have h2:=hp (i+(zag s i).length+1);unfold zbq
  repeat' split
  all_goals simp only[]
  all_goals omega
 ·unfold zdo;have:=zrq s i zhn 1;omega
 unfold zdl;split
 ·rename_i r h;have:=zvr s i _ r h;omega
 repeat' split
 all_goals simp
theorem z16 (s:zaa) (i k:Nat) (h:k<5) (h0:∀j,j<k->(tryS s i j).2=0) (h1:0<(tryS s i k).2):zc4 s i=tryS s i k:=by
 unfold zc4;rcases (by omega:k=0\/k=1\/k=2\/k=3\/k=4) with rfl|rfl|rfl|rfl|rfl
 ·rw[jb (show 0<(zaq s i).2 from h1)];rfl
 ·have a0:(zaq s i).2=0:=h0 0 (by omega);rw[jS,jb (show 0<(zdk s i).2 from h1)];rfl
 ·have a0:(zaq s i).2=0:=h0 0 (by omega);have a1:(zdk s i).2=0:=h0 1 (by omega);rw[jS,jS,jb (show 0<(zbq s i).2 from h1)];rfl
 ·have a0:(zaq s i).2=0:=h0 0 (by omega);have a1:(zdk s i).2=0:=h0 1 (by omega);have a2:(zbq s i).2=0:=h0 2 (by omega);rw[jS,jS,jS,jb (show 0<(zdo s i).2 from h1)];rfl
 have a0:(zaq s i).2=0:=h0 0 (by omega);have a1:(zdk s i).2=0:=h0 1 (by omega);have a2:(zbq s i).2=0:=h0 2 (by omega);have a3:(zdo s i).2=0:=h0 3 (by omega);rw[jS,jS,jS,jS];rfl
theorem zuu (s:zaa) (i:Nat) (h0:∀j,j<5->(tryS s i j).2=0):(zc4 s i).2=0:=by
 have a0:(zaq s i).2=0:=h0 0 (by omega);have a1:(zdk s i).2=0:=h0 1 (by omega);have a2:(zbq s i).2=0:=h0 2 (by omega);have a3:(zdo s i).2=0:=h0 3 (by omega);unfold zc4;rw[jS,jS,jS,jS];exact h0 4 (by omega)
theorem zfx (s:zaa):∀f f' i,s.length<i+f->0<f->s.length<i+f'->0<f'->ze0 s f i=ze0 s f' i
 | 0,_,_,_,h,_,_=>by omega
 | f+1,0,_,_,_,_,h=>by omega
 | f+1,f'+1,i,h1,_,h2,_=>by
  unfold ze0;by_cases hi:s.length<=i
  ·rw[jb hi,jb hi]
  rw[ja hi,ja hi,zfx s f f' (i+1) (by omega) (by omega) (by omega) (by omega)];by_cases hn:(zc4 s i).2=0
  ·rw[jb hn,jb hn]
  rw[ja hn,ja hn,zfx s f f' (i+(zc4 s i).2) (by omega) (by omega) (by omega) (by omega)]
def zd2 (s:zaa) (i:Nat):Option (List Tok):=ze0 s (s.length+1) i
theorem zqb (s:zaa) (i:Nat) (h:s.length<=i):zd2 s i=some []:=by
 unfold zd2 ze0;rw[jb h]
theorem zkl (s:zaa) (i:Nat) (h:i<s.length) (hc:ub s i=32):zd2 s i=zd2 s (i+1):=by
 unfold zd2
 conv=>lhs;unfold ze0
 rw[jS,jb hc];exact zfx s _ _ _ (by omega) (by omega) (by omega) (by omega)
theorem zue (s:zaa) (i:Nat) (h:i<s.length) (hc:ub s i≠32) (h0:∀j,j<5->(tryS s i j).2=0):zd2 s i=none:=by
 unfold zd2
 conv=>lhs;unfold ze0
 rw[jS,ja hc,jb (zuu s i h0)]
theorem zfw (s:zaa) (i k:Nat) (h:i<s.length) (hc:ub s i≠32) (hk:k<5) (h0:∀j,j<k->(tryS s i j).2=0) (h1:0<(tryS s i k).2):
 zd2 s i=(zd2 s (i+(tryS s i k).2)).map ((tryS s i k).1::·):=by
 have hr:=z16 s i k hk h0 h1;unfold zd2
 conv=>lhs;unfold ze0
 rw[jS,ja hc,hr,jS];rw[zfx s s.length (s.length+1) (i+(tryS s i k).2) (by omega) (by omega) (by omega) (by omega)]
theorem zi8 (s:zaa) (h:s.length<=256) (hp:pltB s=true) {l:List Tok} (ht:zd2 s 0=some l):zaf s=(l,0):=by
 unfold zd2 at ht;unfold zaf;rw[jS,ja (by simp[hp]),ht]
theorem zi9 (s:zaa) (h:s.length<=256) (hp:pltB s=true) (ht:zd2 s 0=none):zaf s=([],4):=by
 unfold zd2 at ht;unfold zaf;rw[jS,ja (by simp[hp]),ht]
theorem zgg (o:List Tok) (c:Tok) (x:Option (List Tok)):(x.map (c::·)).map (o++·)=x.map ((o++ [c])++·):=by cases x <;> simp
theorem zju (g:Nat) (s:zaa) (i:Nat) (w:World) (hs:s.length<=1000000) (hi:i<s.length) (hg:Blk w g 263 #[str s]) (hw:Words w) (k:Nat) (f:Nat)
 (hf:(k,f)∈ [(0,246),(1,247),(2,248),(3,249),(4,250)]):
 Calls prog f #[.pointer (some (g,0)),.int .i64 i] w λu w'=>u=.returned (.tuple #[.agg (cTok (tryS s i k).1).toArray,.int .i64 (tryS s i k).2])/\Below w w w':=by
 simp only[List.mem_cons,List.not_mem_nil,or_false,Prod.mk.injEq] at hf;rcases hf with ⟨rfl,rfl⟩ | ⟨rfl,rfl⟩ | ⟨rfl,rfl⟩ | ⟨rfl,rfl⟩ | ⟨rfl,rfl⟩
 ·exact zti g s i w hs (by omega) hg
 ·exact zz1 g s i w hs hi hg
 ·exact zz0 g s i w hs hi hg
 ·exact zz4 g s i w hs (by omega) hg hw
 exact zz2 g s i w hs hi hg
theorem zqw (s:zaa) (k:Nat) (h:k<s.length) (hc:¬(32<=ub s k/\ub s k<=126)):pltB s=false:=by
 have:¬pltB s=true:=λhp=>by
  unfold pltB at hp;rw[List.all_eq_true] at hp;have:=hp (s.getD k 0) (by rw[jL,jz h];simp);simp at this;exact hc this
 exact eq_false_of_ne_true this
theorem zl5 (s:zaa) (h:∀j,j<s.length->32<=ub s j/\ub s j<=126):pltB s=true:=by
 unfold pltB;rw[List.all_eq_true];intro c hc;obtain ⟨j,hj,rfl⟩:=List.getElem_of_mem hc;have:=h j hj;unfold ub at this;rw[jL,jz hj] at this;simpa using this
theorem zrd:∃i,prog.info? 239=some i/\i.zero=some (.agg aU)/\i.size=8/\i.bytes=72:=
 info_parts (show (prog.info? 239).map (λi=>(i.zero,i.size,i.bytes))=some (some (.agg aU),8,72) by kernel_rfl)
theorem zgn (x:Tok):∀u∈cTok x,u.oneCell'=true:=by
 intro u hu;simp only[cTok,List.mem_cons,List.not_mem_nil,or_false] at hu;rcases hu with rfl|rfl|rfl|rfl|rfl|rfl|rfl|rfl <;> rfl
theorem zkn (s:zaa) (h:s.length<=256) (hp:pltB s=false):zaf s=([],4):=by
 unfold zaf;rw[jS,jb hp]
def rulA (g:Nat):Array Value:=#[.func (.func 246) #[.pointer (some (g,0))] #[],.func (.func 247) #[.pointer (some (g,0))] #[],.func (.func 248) #[.pointer (some (g,0))] #[],.func (.func 249) #[.pointer (some (g,0))] #[],.func (.func 250) #[.pointer (some (g,0))] #[]]
theorem ztg (s:zaa) (w:World) (hs:s.length<=1000000) (hw:Words w):
 Calls prog 222 #[str s] w λu w'=>∃v,∃p:Int,u=.returned (.tuple #[v,.int .i64 p,.int .i64 (zaf s).2])/\Sls cTok w' w'.heap.size v (zaf s).1/\Below w w w'/\∀q,v.ownBlock=some q->w.heap.size<=q:=by
 have HW:=Hd hw;obtain ⟨it,ti0,ti1,ti2,ti3⟩:=zrd;clear hw;by_cases h256:256<s.length
 ·have h256':(256:Int)<s.length:=by omega
  have HE:=jM (zaf s=([],5)) (by unfold zaf;rw[jb h256]);go_enter func222,ntmps222;go_wp2;go_step3;go_wp2
  try rw[Exit.noGoto_ret]
  go_ret3;exact ⟨_,_,by rw[HE.o];rfl,by rw[HE.o];exact Sls.nil _ _ _ _ _,by go_grown,λq hq=>by simp[Value.ownBlock] at hq⟩
 have h256':¬(256:Int)<s.length:=by omega
 have h256n:s.length<=256:=by omega
 go_enter func222,ntmps222;go_wp2_with fail;go_step3;go_wp2_with fail;go_loopw [2,18] (λr v wr=>r=.slice none 0 0/\∃k:Nat,k<=s.length/\v=.int .i64 k/\(∀j,j<k->32<=ub s j/\ub s j<=126)/\w=wr) (λ_ v _=>s.length-(intOf v).toNat)
 case atStart=>exact ⟨rfl,0,by omega,rfl,λj hj=>by omega,rfl⟩
 obtain ⟨rfl,k,hk,rfl,hall,rfl⟩:=hrel;have HA:=Hd hall;clear hall;have k0:(0:Int)<=(k:Int):=by omega
 by_cases hkn:k<s.length
 ·have hk1:(k:Int)<(s.length:Int):=by omega
  have hx:=za3 s k (by rw[zae];exact hkn);have HU:=jM (ub s k=(s.getD k 0).toNat) rfl;generalize s.getD k 0=c at hx HU;by_cases hc:32<=c.toNat/\c.toNat<=126
  ·have c1:¬(c.toNat:Int)<32:=by omega
   have c2:¬126<(c.toNat:Int):=by omega
   have HA2:=jM (∀j,j<k+1->32<=ub s j/\ub s j<=126) (λj hj=>by
    rcases Nat.lt_or_ge j k with h | h
    ·exact HA.o j h
    obtain rfl:j=k:=by omega
    rw[HU.o];exact hc)
   clear hc;go_wp2;exact ⟨⟨rfl,k+1,by omega,by go_num,HA2.o,trivial⟩,by simp[intOf];omega⟩
  have HE:=Hd (zkn s h256n (zqw s k hkn (by rw[HU.o];exact hc)));by_cases c1:c.toNat<32
  ·have c1':(c.toNat:Int)<32:=by omega
   clear hc;go_wp2
   try rw[Exit.noGoto_ret]
   go_ret3;exact ⟨_,_,by rw[HE.o];rfl,by rw[HE.o];exact Sls.nil _ _ _ _ _,by go_grown,λq hq=>by simp[Value.ownBlock] at hq⟩
  have c1':¬(c.toNat:Int)<32:=by omega
  have c2':126<(c.toNat:Int):=by omega
  clear hc;go_wp2
  try rw[Exit.noGoto_ret]
  go_ret3;exact ⟨_,_,by rw[HE.o];rfl,by rw[HE.o];exact Sls.nil _ _ _ _ _,by go_grown,λq hq=>by simp[Value.ownBlock] at hq⟩
 have hk1:¬(k:Int)<(s.length:Int):=by omega
 have HP:=Hd (zl5 s (λj hj=>HA.o j (by omega)));clear HA;go_wp2_with fail;have kA:=(je w 263 #[str s]).alloc (.cells (rulA w.heap.size) 265);have kB:Blk ((w.alloc (.cells #[str s] 263)).alloc (.cells (rulA w.heap.size) 265)) (w.heap.size+1) 265 (rulA w.heap.size):=by have:=je (w.alloc (.cells #[str s] 263)) 265 (rulA w.heap.size);simpa using this
 have bb:Below w w ((w.alloc (.cells #[str s] 263)).alloc (.cells (rulA w.heap.size) 265)):=by go_grown
 obtain ⟨W2,hW2⟩:=jN ((w.alloc (.cells #[str s] 263)).alloc (.cells (rulA w.heap.size) 265));have sz:W2.heap.size=w.heap.size+1+1:=by rw[<- hW2];simp
 rw[hW2] at kA kB bb;unfold rulA at hW2;rw[hW2];have KA:=Hd kA;have KB:=Hd kB;have BB:=Hd bb;have SZ:=Hd sz;have WW:=Hd (HW.o.below bb);clear hW2 kA kB bb sz HW;go_step3;go_wp2_with fail;go_loopw [2,8] (λv iv w3=>∃(i:Nat) (l:List Tok),i<=2000/\iv=.int .i64 i/\l.length<=i/\Own cTok 239 8 w3 v l/\OutTo W2 (.slice none 0 0) w3 v/\zd2 s 0=(zd2 s i).map (l++·)) (λ_ iv _=>2000-(intOf iv).toNat)
 case atStart=>exact ⟨0,[],by omega,rfl,by simp,Own.nil _ _ _ _,OutTo.refl _ _,by cases zd2 s 0 <;> simp⟩
 obtain ⟨i,l,hi2,rfl,hll,hown,hot,htk⟩:=hrel;have HO:=Hd hown;have HT:=Hd hot;have HK:=Hd htk;clear hown hot htk;have i0:(0:Int)<=(i:Int):=by omega
 have i2:(i:Int)<=2000:=by omega
 by_cases hin:i<s.length;rotate_left
 ·have hi1:¬(i:Int)<(s.length:Int):=by omega
  have HE:=Hd (zi8 s h256n HP.o (l:=l) (by rw[HK.o,zqb s i (by omega)];simp));have hHK:=HO.o.sls (by unfold maxLen;omega);obtain ⟨A,cap,hv, -⟩:=id hHK;generalize hL9:l.length=L9 at hv;have HL9:=Hd hL9;clear hL9;have HS:=Hd hHK;have HBE:=Hd (BB.o.trans ((HT.o.old jy (λk hk=>by simp[Value.ownBlock] at hk)).mono (by have:=BB.o.size;omega)));clear hHK;subst hv;go_wp2
  try rw[Exit.noGoto_ret]
  go_ret3;exact ⟨_,_,by rw[HE.o];rfl,by rw[HE.o];exact HS.o,HBE.o,λq hq=>by
   rcases HT.o.own q hq with e | e
   ·simp[Value.ownBlock] at e
   exact jx BB.o.size e⟩
 have hi1:(i:Int)<(s.length:Int):=by omega
 have hx:=za3 s i (by rw[zae];exact hin);have HU:=jM (ub s i=(s.getD i 0).toNat) rfl;generalize s.getD i 0=c at hx HU;by_cases h32:c.toNat=32
 ·have HE:=Hd (zkl s i hin (HU.o.trans h32));have b32:((c.toNat:Int)==32)=true:=by rw[h32];rfl
  clear h32;go_wp2;exact ⟨⟨i+1,l,by omega,by go_num,by omega,HO.o,HT.o,by rw[HK.o,HE.o]⟩,by simp[intOf];omega⟩
 have HE:=jM (ub s i≠32) (by rw[HU.o];exact h32);have b32:((c.toNat:Int)==32)=false:=by simp;omega
 clear h32;have kb:=KB.o.outTo HT.o (by simp[Value.ownBlock]);have f0:wr.cell? (w.heap.size+1,0)=some (.func (.func 246) #[.pointer (some (w,0))] #[]):=kb.cell 0;have f1:wr.cell? (w.heap.size+1,1)=some (.func (.func 247) #[.pointer (some (w,0))] #[]):=kb.cell 1;have f2:wr.cell? (w.heap.size+1,2)=some (.func (.func 248) #[.pointer (some (w,0))] #[]):=kb.cell 2;have f3:wr.cell? (w.heap.size+1,3)=some (.func (.func 249) #[.pointer (some (w,0))] #[]):=kb.cell 3;have f4:wr.cell? (w.heap.size+1,4)=some (.func (.func 250) #[.pointer (some (w,0))] #[]):=kb.cell 4;clear kb;have HA:=Hd (KA.o.outTo HT.o (by simp[Value.ownBlock]));have HWR:=Hd (HT.o.old jy (λk hk=>by simp[Value.ownBlock] at hk));go_wp2_with fail;obtain ⟨W3,hW3⟩:∃W3,W3=wr:=⟨_,rfl⟩;subst hW3;obtain ⟨sv,hsv⟩:∃sv,sv=u2:=⟨_,rfl⟩;subst hsv;go_loopw [2,8,58] (λsv' iv v w4=>sv'=sv/\iv=.int .i64 i/\∃k:Nat,k<=5/\v=.int .i64 k/\(∀j,j<k->(tryS s i j).2=0)/\Below W3 W3 w4) (λ_ _ v _=>5-(intOf v).toNat)
 case atStart=>exact ⟨rfl,rfl,0,by omega,rfl,λj hj=>by omega,jg _ _⟩
 obtain ⟨rfl,rfl,k,hk5,rfl,hz,hbk⟩:=hrel;have HZ:=Hd hz;have HBK:=Hd hbk;clear hz hbk;rcases (by omega:k=0\/k=1\/k=2\/k=3\/k=4\/k=5) with rfl|rfl|rfl|rfl|rfl|rfl
 ·have hbl:=HBK.o;have HG:=Hd (HA.o.below_ hbl);have HWK:=Hd ((WW.o.below HWR.o).below hbl);clear hbl;have hc:=zju w.heap.size s i wr hs hin HG.o HWK.o 0 246 (by decide);have hle:=zgw s i 0;have HC:=Hd hc;clear hc;generalize hr:tryS s i 0=r at HC hle;have HR:=Hd hr;clear hr;obtain ⟨tk,n⟩:=r;simp only at HC hle;have hix:∀W:World,(Instr.index 265 (.agg #[.func (.func 246) #[.pointer (some (w,0))] #[],.func (.func 247) #[.pointer (some (w,0))] #[],.func (.func 248) #[.pointer (some (w,0))] #[],.func (.func 249) #[.pointer (some (w,0))] #[],.func (.func 250) #[.pointer (some (w,0))] #[]]) (.int .i64 0)).run prog W=.ok (.func (.func 246) #[.pointer (some (w,0))] #[]) W:=λW=>by rfl
  go_wp2_with fail;refine HC.o.mono ?_;rintro u w5 ⟨rfl,hb5⟩;have HB5:=Hd (jd HBK.o hb5 HBK.o.size);clear hb5 HC;have n1:(n:Int)<=513:=by omega
  by_cases hn:0<n
  ·have hn':(0:Int)<(n:Int):=by omega
   have HT5:=jM (OutTo W2 (.slice none 0 0) (w5.alloc (.cells (cTok tk).toArray 239)) u2) ((HT.o.below HB5.o).alloc _);rw[show (cTok tk).toArray=#[.int .u8 tk.kind,.int .i64 tk.num,str tk.text,.int .i64 tk.rect.c1,.int .i64 tk.rect.r1,.int .i64 tk.rect.c2,.int .i64 tk.rect.r2,.int .i64 tk.at_] from rfl];have KN:=Hd (show Blk ((w5.alloc (.cells (cTok tk).toArray 239)).alloc (.cells (cTok tk).toArray 239)) (w5.heap.size+1) 239 (cTok tk).toArray by
    have:=je (w5.alloc (.cells (cTok tk).toArray 239)) 239 (cTok tk).toArray;simpa using this)
   have HO5:=Hd (((HO.o.below HB5.o).alloc (.cells (cTok tk).toArray 239)).alloc (.cells (cTok tk).toArray 239));go_wp2_with (at_builtin;refine ju ?_);refine Hd ?_;refine zal cTok rfl _ _ 230 rfl 239 it _ 8 72 underlying230 ti0 ti1 ti2 ti3 rfl (by omega) u2 l rfl HO5.o _ _ [tk] rfl (Sls.one (x:=tk) KN.o rfl) zd7 zgn (by simp;omega) (by omega) ?_;intro v9 w9 o9 t9;have O9:=Hd o9;have T9:=Hd ((HT5.o.alloc (.cells (cTok tk).toArray 239)).trans t9);clear o9 t9 KN;go_wp2;exact ⟨⟨i+n,l++ [tk],by omega,by go_num,by simp;omega,O9.o,T9.o,by rw[HK.o,zfw s i 0 hin HE.o (by omega) HZ.o (by rw[HR.o];exact hn),HR.o];exact zgg _ _ _⟩,by simp[intOf];omega⟩
  have hn':¬(0:Int)<(n:Int):=by omega
  have HZ2:=jM (∀j,j<0+1->(tryS s i j).2=0) (λj hj=>by
   rcases Nat.lt_or_ge j 0 with h | h
   ·exact HZ.o j h
   obtain rfl:j=0:=by omega
   rw[HR.o];show n=0;omega)
  have HB6:=Hd (HB5.o.alloc HB5.o.size (.cells (cTok tk).toArray 239));rw[show (cTok tk).toArray=#[.int .u8 tk.kind,.int .i64 tk.num,str tk.text,.int .i64 tk.rect.c1,.int .i64 tk.rect.r1,.int .i64 tk.rect.c2,.int .i64 tk.rect.r2,.int .i64 tk.at_] from rfl];go_wp2;exact ⟨⟨rfl,rfl,0+1,by omega,by go_num,HZ2.o,HB6.o⟩,by simp[intOf]⟩
 ·have hbl:=HBK.o;have HG:=Hd (HA.o.below_ hbl);have HWK:=Hd ((WW.o.below HWR.o).below hbl);clear hbl;have hc:=zju w.heap.size s i wr hs hin HG.o HWK.o 1 247 (by decide);have hle:=zgw s i 1;have HC:=Hd hc;clear hc;generalize hr:tryS s i 1=r at HC hle;have HR:=Hd hr;clear hr;obtain ⟨tk,n⟩:=r;simp only at HC hle;have hix:∀W:World,(Instr.index 265 (.agg #[.func (.func 246) #[.pointer (some (w,0))] #[],.func (.func 247) #[.pointer (some (w,0))] #[],.func (.func 248) #[.pointer (some (w,0))] #[],.func (.func 249) #[.pointer (some (w,0))] #[],.func (.func 250) #[.pointer (some (w,0))] #[]]) (.int .i64 1)).run prog W=.ok (.func (.func 247) #[.pointer (some (w,0))] #[]) W:=λW=>by rfl
  go_wp2_with fail;refine HC.o.mono ?_;rintro u w5 ⟨rfl,hb5⟩;have HB5:=Hd (jd HBK.o hb5 HBK.o.size);clear hb5 HC;have n1:(n:Int)<=513:=by omega
  by_cases hn:0<n
  ·have hn':(0:Int)<(n:Int):=by omega
   have HT5:=jM (OutTo W2 (.slice none 0 0) (w5.alloc (.cells (cTok tk).toArray 239)) u2) ((HT.o.below HB5.o).alloc _);rw[show (cTok tk).toArray=#[.int .u8 tk.kind,.int .i64 tk.num,str tk.text,.int .i64 tk.rect.c1,.int .i64 tk.rect.r1,.int .i64 tk.rect.c2,.int .i64 tk.rect.r2,.int .i64 tk.at_] from rfl];have KN:=Hd (show Blk ((w5.alloc (.cells (cTok tk).toArray 239)).alloc (.cells (cTok tk).toArray 239)) (w5.heap.size+1) 239 (cTok tk).toArray by
    have:=je (w5.alloc (.cells (cTok tk).toArray 239)) 239 (cTok tk).toArray;simpa using this)
   have HO5:=Hd (((HO.o.below HB5.o).alloc (.cells (cTok tk).toArray 239)).alloc (.cells (cTok tk).toArray 239));go_wp2_with (at_builtin;refine ju ?_);refine Hd ?_;refine zal cTok rfl _ _ 230 rfl 239 it _ 8 72 underlying230 ti0 ti1 ti2 ti3 rfl (by omega) u2 l rfl HO5.o _ _ [tk] rfl (Sls.one (x:=tk) KN.o rfl) zd7 zgn (by simp;omega) (by omega) ?_;intro v9 w9 o9 t9;have O9:=Hd o9;have T9:=Hd ((HT5.o.alloc (.cells (cTok tk).toArray 239)).trans t9);clear o9 t9 KN;go_wp2;exact ⟨⟨i+n,l++ [tk],by omega,by go_num,by simp;omega,O9.o,T9.o,by rw[HK.o,zfw s i 1 hin HE.o (by omega) HZ.o (by rw[HR.o];exact hn),HR.o];exact zgg _ _ _⟩,by simp[intOf];omega⟩
  have hn':¬(0:Int)<(n:Int):=by omega
  have HZ2:=jM (∀j,j<1+1->(tryS s i j).2=0) (λj hj=>by
   rcases Nat.lt_or_ge j 1 with h | h
   ·exact HZ.o j h
   obtain rfl:j=1:=by omega
   rw[HR.o];show n=0;omega)
  have HB6:=Hd (HB5.o.alloc HB5.o.size (.cells (cTok tk).toArray 239));rw[show (cTok tk).toArray=#[.int .u8 tk.kind,.int .i64 tk.num,str tk.text,.int .i64 tk.rect.c1,.int .i64 tk.rect.r1,.int .i64 tk.rect.c2,.int .i64 tk.rect.r2,.int .i64 tk.at_] from rfl];go_wp2;exact ⟨⟨rfl,rfl,1+1,by omega,by go_num,HZ2.o,HB6.o⟩,by simp[intOf]⟩
 ·have hbl:=HBK.o;have HG:=Hd (HA.o.below_ hbl);have HWK:=Hd ((WW.o.below HWR.o).below hbl);clear hbl;have hc:=zju w.heap.size s i wr hs hin HG.o HWK.o 2 248 (by decide);have hle:=zgw s i 2;have HC:=Hd hc;clear hc;generalize hr:tryS s i 2=r at HC hle;have HR:=Hd hr;clear hr;obtain ⟨tk,n⟩:=r;simp only at HC hle;have hix:∀W:World,(Instr.index 265 (.agg #[.func (.func 246) #[.pointer (some (w,0))] #[],.func (.func 247) #[.pointer (some (w,0))] #[],.func (.func 248) #[.pointer (some (w,0))] #[],.func (.func 249) #[.pointer (some (w,0))] #[],.func (.func 250) #[.pointer (some (w,0))] #[]]) (.int .i64 2)).run prog W=.ok (.func (.func 248) #[.pointer (some (w,0))] #[]) W:=λW=>by rfl
  go_wp2_with fail;refine HC.o.mono ?_;rintro u w5 ⟨rfl,hb5⟩;have HB5:=Hd (jd HBK.o hb5 HBK.o.size);clear hb5 HC;have n1:(n:Int)<=513:=by omega
  by_cases hn:0<n
  ·have hn':(0:Int)<(n:Int):=by omega
   have HT5:=jM (OutTo W2 (.slice none 0 0) (w5.alloc (.cells (cTok tk).toArray 239)) u2) ((HT.o.below HB5.o).alloc _);rw[show (cTok tk).toArray=#[.int .u8 tk.kind,.int .i64 tk.num,str tk.text,.int .i64 tk.rect.c1,.int .i64 tk.rect.r1,.int .i64 tk.rect.c2,.int .i64 tk.rect.r2,.int .i64 tk.at_] from rfl];have KN:=Hd (show Blk ((w5.alloc (.cells (cTok tk).toArray 239)).alloc (.cells (cTok tk).toArray 239)) (w5.heap.size+1) 239 (cTok tk).toArray by
    have:=je (w5.alloc (.cells (cTok tk).toArray 239)) 239 (cTok tk).toArray;simpa using this)
   have HO5:=Hd (((HO.o.below HB5.o).alloc (.cells (cTok tk).toArray 239)).alloc (.cells (cTok tk).toArray 239));go_wp2_with (at_builtin;refine ju ?_);refine Hd ?_;refine zal cTok rfl _ _ 230 rfl 239 it _ 8 72 underlying230 ti0 ti1 ti2 ti3 rfl (by omega) u2 l rfl HO5.o _ _ [tk] rfl (Sls.one (x:=tk) KN.o rfl) zd7 zgn (by simp;omega) (by omega) ?_;intro v9 w9 o9 t9;have O9:=Hd o9;have T9:=Hd ((HT5.o.alloc (.cells (cTok tk).toArray 239)).trans t9);clear o9 t9 KN;go_wp2;exact ⟨⟨i+n,l++ [tk],by omega,by go_num,by simp;omega,O9.o,T9.o,by rw[HK.o,zfw s i 2 hin HE.o (by omega) HZ.o (by rw[HR.o];exact hn),HR.o];exact zgg _ _ _⟩,by simp[intOf];omega⟩
  have hn':¬(0:Int)<(n:Int):=by omega
  have HZ2:=jM (∀j,j<2+1->(tryS s i j).2=0) (λj hj=>by
   rcases Nat.lt_or_ge j 2 with h | h
   ·exact HZ.o j h
   obtain rfl:j=2:=by omega
   rw[HR.o];show n=0;omega)
  have HB6:=Hd (HB5.o.alloc HB5.o.size (.cells (cTok tk).toArray 239));rw[show (cTok tk).toArray=#[.int .u8 tk.kind,.int .i64 tk.num,str tk.text,.int .i64 tk.rect.c1,.int .i64 tk.rect.r1,.int .i64 tk.rect.c2,.int .i64 tk.rect.r2,.int .i64 tk.at_] from rfl];go_wp2;exact ⟨⟨rfl,rfl,2+1,by omega,by go_num,HZ2.o,HB6.o⟩,by simp[intOf]⟩
 ·have hbl:=HBK.o;have HG:=Hd (HA.o.below_ hbl);have HWK:=Hd ((WW.o.below HWR.o).below hbl);clear hbl;have hc:=zju w.heap.size s i wr hs hin HG.o HWK.o 3 249 (by decide);have hle:=zgw s i 3;have HC:=Hd hc;clear hc;generalize hr:tryS s i 3=r at HC hle;have HR:=Hd hr;clear hr;obtain ⟨tk,n⟩:=r;simp only at HC hle;have hix:∀W:World,(Instr.index 265 (.agg #[.func (.func 246) #[.pointer (some (w,0))] #[],.func (.func 247) #[.pointer (some (w,0))] #[],.func (.func 248) #[.pointer (some (w,0))] #[],.func (.func 249) #[.pointer (some (w,0))] #[],.func (.func 250) #[.pointer (some (w,0))] #[]]) (.int .i64 3)).run prog W=.ok (.func (.func 249) #[.pointer (some (w,0))] #[]) W:=λW=>by rfl
  go_wp2_with fail;refine HC.o.mono ?_;rintro u w5 ⟨rfl,hb5⟩;have HB5:=Hd (jd HBK.o hb5 HBK.o.size);clear hb5 HC;have n1:(n:Int)<=513:=by omega
  by_cases hn:0<n
  ·have hn':(0:Int)<(n:Int):=by omega
   have HT5:=jM (OutTo W2 (.slice none 0 0) (w5.alloc (.cells (cTok tk).toArray 239)) u2) ((HT.o.below HB5.o).alloc _);rw[show (cTok tk).toArray=#[.int .u8 tk.kind,.int .i64 tk.num,str tk.text,.int .i64 tk.rect.c1,.int .i64 tk.rect.r1,.int .i64 tk.rect.c2,.int .i64 tk.rect.r2,.int .i64 tk.at_] from rfl];have KN:=Hd (show Blk ((w5.alloc (.cells (cTok tk).toArray 239)).alloc (.cells (cTok tk).toArray 239)) (w5.heap.size+1) 239 (cTok tk).toArray by
    have:=je (w5.alloc (.cells (cTok tk).toArray 239)) 239 (cTok tk).toArray;simpa using this)
   have HO5:=Hd (((HO.o.below HB5.o).alloc (.cells (cTok tk).toArray 239)).alloc (.cells (cTok tk).toArray 239));go_wp2_with (at_builtin;refine ju ?_);refine Hd ?_;refine zal cTok rfl _ _ 230 rfl 239 it _ 8 72 underlying230 ti0 ti1 ti2 ti3 rfl (by omega) u2 l rfl HO5.o _ _ [tk] rfl (Sls.one (x:=tk) KN.o rfl) zd7 zgn (by simp;omega) (by omega) ?_;intro v9 w9 o9 t9;have O9:=Hd o9;have T9:=Hd ((HT5.o.alloc (.cells (cTok tk).toArray 239)).trans t9);clear o9 t9 KN;go_wp2;exact ⟨⟨i+n,l++ [tk],by omega,by go_num,by simp;omega,O9.o,T9.o,by rw[HK.o,zfw s i 3 hin HE.o (by omega) HZ.o (by rw[HR.o];exact hn),HR.o];exact zgg _ _ _⟩,by simp[intOf];omega⟩
  have hn':¬(0:Int)<(n:Int):=by omega
  have HZ2:=jM (∀j,j<3+1->(tryS s i j).2=0) (λj hj=>by
   rcases Nat.lt_or_ge j 3 with h | h
   ·exact HZ.o j h
   obtain rfl:j=3:=by omega
   rw[HR.o];show n=0;omega)
  have HB6:=Hd (HB5.o.alloc HB5.o.size (.cells (cTok tk).toArray 239));rw[show (cTok tk).toArray=#[.int .u8 tk.kind,.int .i64 tk.num,str tk.text,.int .i64 tk.rect.c1,.int .i64 tk.rect.r1,.int .i64 tk.rect.c2,.int .i64 tk.rect.r2,.int .i64 tk.at_] from rfl];go_wp2;exact ⟨⟨rfl,rfl,3+1,by omega,by go_num,HZ2.o,HB6.o⟩,by simp[intOf]⟩
 ·have hbl:=HBK.o;have HG:=Hd (HA.o.below_ hbl);have HWK:=Hd ((WW.o.below HWR.o).below hbl);clear hbl;have hc:=zju w.heap.size s i wr hs hin HG.o HWK.o 4 250 (by decide);have hle:=zgw s i 4;have HC:=Hd hc;clear hc;generalize hr:tryS s i 4=r at HC hle;have HR:=Hd hr;clear hr;obtain ⟨tk,n⟩:=r;simp only at HC hle;have hix:∀W:World,(Instr.index 265 (.agg #[.func (.func 246) #[.pointer (some (w,0))] #[],.func (.func 247) #[.pointer (some (w,0))] #[],.func (.func 248) #[.pointer (some (w,0))] #[],.func (.func 249) #[.pointer (some (w,0))] #[],.func (.func 250) #[.pointer (some (w,0))] #[]]) (.int .i64 4)).run prog W=.ok (.func (.func 250) #[.pointer (some (w,0))] #[]) W:=λW=>by rfl
  go_wp2_with fail;refine HC.o.mono ?_;rintro u w5 ⟨rfl,hb5⟩;have HB5:=Hd (jd HBK.o hb5 HBK.o.size);clear hb5 HC;have n1:(n:Int)<=513:=by omega
  by_cases hn:0<n
  ·have hn':(0:Int)<(n:Int):=by omega
   have HT5:=jM (OutTo W2 (.slice none 0 0) (w5.alloc (.cells (cTok tk).toArray 239)) u2) ((HT.o.below HB5.o).alloc _);rw[show (cTok tk).toArray=#[.int .u8 tk.kind,.int .i64 tk.num,str tk.text,.int .i64 tk.rect.c1,.int .i64 tk.rect.r1,.int .i64 tk.rect.c2,.int .i64 tk.rect.r2,.int .i64 tk.at_] from rfl];have KN:=Hd (show Blk ((w5.alloc (.cells (cTok tk).toArray 239)).alloc (.cells (cTok tk).toArray 239)) (w5.heap.size+1) 239 (cTok tk).toArray by
    have:=je (w5.alloc (.cells (cTok tk).toArray 239)) 239 (cTok tk).toArray;simpa using this)
   have HO5:=Hd (((HO.o.below HB5.o).alloc (.cells (cTok tk).toArray 239)).alloc (.cells (cTok tk).toArray 239));go_wp2_with (at_builtin;refine ju ?_);refine Hd ?_;refine zal cTok rfl _ _ 230 rfl 239 it _ 8 72 underlying230 ti0 ti1 ti2 ti3 rfl (by omega) u2 l rfl HO5.o _ _ [tk] rfl (Sls.one (x:=tk) KN.o rfl) zd7 zgn (by simp;omega) (by omega) ?_;intro v9 w9 o9 t9;have O9:=Hd o9;have T9:=Hd ((HT5.o.alloc (.cells (cTok tk).toArray 239)).trans t9);clear o9 t9 KN;go_wp2;exact ⟨⟨i+n,l++ [tk],by omega,by go_num,by simp;omega,O9.o,T9.o,by rw[HK.o,zfw s i 4 hin HE.o (by omega) HZ.o (by rw[HR.o];exact hn),HR.o];exact zgg _ _ _⟩,by simp[intOf];omega⟩
  have hn':¬(0:Int)<(n:Int):=by omega
  have HZ2:=jM (∀j,j<4+1->(tryS s i j).2=0) (λj hj=>by
   rcases Nat.lt_or_ge j 4 with h | h
   ·exact HZ.o j h
   obtain rfl:j=4:=by omega
   rw[HR.o];show n=0;omega)
  have HB6:=Hd (HB5.o.alloc HB5.o.size (.cells (cTok tk).toArray 239));rw[show (cTok tk).toArray=#[.int .u8 tk.kind,.int .i64 tk.num,str tk.text,.int .i64 tk.rect.c1,.int .i64 tk.rect.r1,.int .i64 tk.rect.c2,.int .i64 tk.rect.r2,.int .i64 tk.at_] from rfl];go_wp2;exact ⟨⟨rfl,rfl,4+1,by omega,by go_num,HZ2.o,HB6.o⟩,by simp[intOf]⟩
 ·have HE2:=Hd (zi9 s h256n HP.o (by rw[HK.o,zue s i hin HE.o HZ.o];rfl));have HBE:=Hd (BB.o.trans (((HT.o.old jy (λk hk=>by simp[Value.ownBlock] at hk)).trans (HBK.o.mono (by have:=HT.o.chg.size;omega))).mono (by have:=BB.o.size;omega)));go_wp2
  try rw[Exit.noGoto_ret]
  go_ret3;exact ⟨_,_,by rw[HE2.o];rfl,by rw[HE2.o];exact Sls.nil _ _ _ _ _,HBE.o,λq hq=>by simp[Value.ownBlock] at hq⟩
theorem zdz (s:zaa) (i:Nat) (h:s.length<=i):s.getD i 0=0:=by rw[jL,List.getElem?_eq_none h];rfl
theorem zf2 (s:zaa) (i:Nat) (w:World):
 Calls prog 311 #[str s,.int .i64 i] w λu w'=>u=.returned (.bool (digB (s.getD i 0)))/\w=w':=by
 have hi0:(0:Int)<=(i:Int):=jw _;by_cases hlt:i<s.length;rotate_left
 ·have hi1:¬(i:Int)<(s.length:Int):=by omega
  rw[zdz s i (by omega)];go_enter func311,ntmps311;go_wp2;go_ret;exact ⟨rfl,rfl⟩
 have hi1:(i:Int)<(s.length:Int):=by omega
 have hx:=za3 s i (by rw[zae];exact hlt);have HE:=jM (digB (s.getD i 0)=(decide (48<=(s.getD i 0).toNat)&&decide ((s.getD i 0).toNat<=57))) rfl;generalize digB (s.getD i 0)=r at *;generalize s.getD i 0=c at *;by_cases h1:48<=c.toNat
 ·have e1:(48:Int)<=(c.toNat:Int):=by omega
  by_cases h2:c.toNat<=57
  ·have e2:(c.toNat:Int)<=57:=by omega
   have HR:=jM (r=true) (by rw[HE.o];simp[h1,h2]);clear HE;go_enter func311,ntmps311;go_wp2;go_ret;exact ⟨by rw[HR.o];rfl,rfl⟩
  have e2:¬(c.toNat:Int)<=57:=by omega
  have HR:=jM (r=false) (by rw[HE.o];simp[h2]);clear HE;go_enter func311,ntmps311;go_wp2;go_ret;exact ⟨by rw[HR.o];rfl,rfl⟩
 have e1:¬(48:Int)<=(c.toNat:Int):=by omega
 have HR:=jM (r=false) (by rw[HE.o];simp[h1]);clear HE;go_enter func311,ntmps311;go_wp2;go_ret;exact ⟨by rw[HR.o];rfl,rfl⟩
theorem zf1 (s:zaa) (i:Nat) (w:World):
 Calls prog 314 #[str s,.int .i64 i] w λu w'=>u=.returned (.bool (letB (s.getD i 0)))/\w=w':=by
 have hi0:(0:Int)<=(i:Int):=jw _;by_cases hlt:i<s.length;rotate_left
 ·have hi1:¬(i:Int)<(s.length:Int):=by omega
  rw[zdz s i (by omega)];go_enter func314,ntmps314;go_wp2;go_ret;exact ⟨rfl,rfl⟩
 have hi1:(i:Int)<(s.length:Int):=by omega
 have hx:=za3 s i (by rw[zae];exact hlt);have HE:=jM (letB (s.getD i 0)=((decide (65<=(s.getD i 0).toNat)&&decide ((s.getD i 0).toNat<=90))||(decide (97<=(s.getD i 0).toNat)&&decide ((s.getD i 0).toNat<=122)))) rfl;generalize letB (s.getD i 0)=r at *;generalize s.getD i 0=c at *;by_cases h1:65<=c.toNat;rotate_left
 ·have e1:¬(65:Int)<=(c.toNat:Int):=by omega
  have e3:¬(97:Int)<=(c.toNat:Int):=by omega
  have HR:=jM (r=false) (by rw[HE.o];simp[h1];omega);clear HE;go_enter func314,ntmps314;go_wp2;go_ret;exact ⟨by rw[HR.o];rfl,rfl⟩
 have e1:(65:Int)<=(c.toNat:Int):=by omega
 by_cases h2:c.toNat<=90
 ·have e2:(c.toNat:Int)<=90:=by omega
  have HR:=jM (r=true) (by rw[HE.o];simp[h1,h2]);clear HE;go_enter func314,ntmps314;go_wp2;go_ret;exact ⟨by rw[HR.o];rfl,rfl⟩
 have e2:¬(c.toNat:Int)<=90:=by omega
 by_cases h3:97<=c.toNat
 ·have e3:(97:Int)<=(c.toNat:Int):=by omega
  by_cases h4:c.toNat<=122
  ·have e4:(c.toNat:Int)<=122:=by omega
   have HR:=jM (r=true) (by rw[HE.o];simp[h3,h4]);clear HE;go_enter func314,ntmps314;go_wp2;go_ret;exact ⟨by rw[HR.o];rfl,rfl⟩
  have e4:¬(c.toNat:Int)<=122:=by omega
  have HR:=jM (r=false) (by rw[HE.o];simp[h2,h4]);clear HE;go_enter func314,ntmps314;go_wp2;go_ret;exact ⟨by rw[HR.o];rfl,rfl⟩
 have e3:¬(97:Int)<=(c.toNat:Int):=by omega
 have HR:=jM (r=false) (by rw[HE.o];simp[h2,h3]);clear HE;go_enter func314,ntmps314;go_wp2;go_ret;exact ⟨by rw[HR.o];rfl,rfl⟩
theorem zdx (p:UInt8->Bool) (s:zaa) (i:Nat) (h:i<s.length):lenB p s i=if p (s.getD i 0) then lenB p s (i+1)+1 else 0:=by
 rw[zdy,zh5 s i h,zdy p s (i+1)];generalize s.getD i 0=c;by_cases hc:p c=true
 ·simp[lenB,hc]
 simp[lenB,hc]
theorem ziv (p:UInt8->Bool) (s:zaa) (i:Nat) (h:s.length<=i):lenB p s i=0:=by have:=zgk p s i;omega
theorem zjf (s:zaa) (i:Nat) (w:World) (hs:s.length<=1000000) (hi:i<=s.length):
 Calls prog 329 #[str s,.int .i64 i] w λu w'=>u=.returned (.int .i64 (i+lenB alnB s i:Nat))/\w=w':=by
 have hlim:=zgk alnB s i;go_enter func329,ntmps329;go_wp2;go_loopw [1] (λv wr=>∃k:Nat,k<=s.length/\v=.int .i64 k/\i+lenB alnB s i=k+lenB alnB s k/\w=wr) (λv _=>s.length-(intOf v).toNat)
 case atStart=>exact ⟨i,hi,rfl,rfl,rfl⟩
 obtain ⟨k,hk,rfl,he,rfl⟩:=hrel;have HE:=Hd he;have HL:=Hd (zf1 s k);have HD:=Hd (zf2 s k);clear he;by_cases hlt:k<s.length;rotate_left
 ·have hp:=zdz s k (by omega);rw[hp] at HL HD;have hz:=ziv alnB s k (by omega);have HZ:=Hd hz;clear hp hz;go_wp2_with fail;refine (HL.o _).mono ?_;rintro u w1 ⟨rfl,rfl⟩;rw[show letB 0=false from rfl];go_wp2_with fail;refine (HD.o _).mono ?_;rintro u w2 ⟨rfl,rfl⟩;rw[show digB 0=false from rfl];go_wp2;go_ret;have h1:=HE.o;have h2:=HZ.o;exact ⟨by rw[h1,h2];rfl,by first | rfl | trivial⟩
 have hst:=zdx alnB s k hlt;have ha:alnB (s.getD k 0)=(letB (s.getD k 0)||digB (s.getD k 0)):=rfl;rw[ha] at hst;generalize letB (s.getD k 0)=a at *;generalize digB (s.getD k 0)=b at *;have HST:=Hd hst;clear hst ha;cases a
 ·cases b
  ·go_wp2_with fail;refine (HL.o _).mono ?_;rintro u w1 ⟨rfl,rfl⟩;go_wp2_with fail;refine (HD.o _).mono ?_;rintro u w2 ⟨rfl,rfl⟩;go_wp2;go_ret;have h1:=HE.o;have h2:=HST.o;simp only[Bool.or_self,Bool.false_eq_true,if_false] at h2;exact ⟨by rw[h1,h2];rfl,by first | rfl | trivial⟩
  go_wp2_with fail;refine (HL.o _).mono ?_;rintro u w1 ⟨rfl,rfl⟩;go_wp2_with fail;refine (HD.o _).mono ?_;rintro u w2 ⟨rfl,rfl⟩;go_wp2;refine ⟨⟨k+1,by omega,by go_num,?_,by trivial⟩,by simp[intOf];omega⟩;have h1:=HE.o;have h2:=HST.o;simp only[Bool.or_true,if_true] at h2;omega
 go_wp2_with fail;refine (HL.o _).mono ?_;rintro u w1 ⟨rfl,rfl⟩;go_wp2;refine ⟨⟨k+1,by omega,by go_num,?_,by trivial⟩,by simp[intOf];omega⟩;have h1:=HE.o;have h2:=HST.o;simp only[Bool.true_or,if_true] at h2;omega
end Go.Proofs.YtamcgggmfghljaaGreatDoor
