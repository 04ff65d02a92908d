/- walk -/
import Derived.Test.YtamcgggmfghljaaGreatDoorE16
set_option maxRecDepth 100000
set_option maxHeartbeats 8000000
open Go.Proofs.Tryz
namespace Go.Proofs.YtamcgggmfghljaaGreatDoor
open Go.RowKit
variable {z0 z6:Int} {r r0:Rd} {S:Scp} {α:Type} {g k:Nat} {e:TypeId} {v:Value} {w:World}
def noS:Scp:=⟨⟨0,[],[],[],[],[],0⟩,[]⟩
def numF (r:Rd):Nat × Rd:=
 match r with
 | ([],_)=>(0,([],true))
 | (c::t,b)=>if 8<c.toNat\/t.length<c.toNat then (0,([],true)) else (beN 0 (t.take c.toNat),(t.drop c.toNat,b))
def intF (r:Rd):Int × Rd:=(zaj (numF r).1,(numF r).2)
def u64F (r:Rd):Int × Rd:=((numF r).1,(numF r).2)
def u8F (r:Rd):Int × Rd:=(((numF r).1 % 256:Nat),if 255<(numF r).1 then ([],true) else (numF r).2)
def cntF (r:Rd):Nat × Rd:=if (numF r).2.1.length<(numF r).1 then (0,([],true)) else numF r
def zdv (r:Rd):zaa × Rd:=((cntF r).2.1.take (cntF r).1,((cntF r).2.1.drop (cntF r).1,(cntF r).2.2))
def zb7 {α:Type} (one:Rd->α × Rd) (r:Rd):List α × Rd:=zam one (cntF r).1 (cntF r).2
def oneF (r:Rd):Bool × Rd:=(decide ((numF r).1=1),(numF r).2)
def zbw (r:Rd):Rct × Rd:=
 let a:=intF r
 let b:=intF a.2
 let c:=intF b.2
 let d:=intF c.2
 (⟨a.1,b.1,c.1,d.1⟩,d.2)
def zcy (r:Rd):Ref × Rd:=
 let a:=intF r
 let b:=intF a.2
 (⟨a.1,b.1⟩,b.2)
def zdg (r:Rd):Rts × Rd:=
 let a:=u64F r
 let b:=u64F a.2
 let c:=u64F b.2
 (⟨a.1,b.1,c.1⟩,c.2)
def entF (r:Rd):Ent × Rd:=
 let a:=zcy r
 let b:=zdv a.2
 (⟨a.1,b.1⟩,b.2)
def rulF (r:Rd):Rul × Rd:=
 let a:=zbw r
 let b:=zdg a.2
 (⟨a.1,b.1⟩,b.2)
def grtF (r:Rd):Grt × Rd:=
 let a:=zbw r
 let b:=u8F a.2
 let c:=u64F b.2
 let d:=intF c.2
 let e:=oneF d.2
 (⟨a.1,b.1,c.1,d.1,e.1⟩,e.2)
def evtF (r:Rd):Evt × Rd:=
 let a:=intF r
 let b:=intF a.2
 let c:=u8F b.2
 let d:=zbw c.2
 let e:=oneF d.2
 let f:=u64F e.2
 (⟨a.1,b.1,c.1,d.1,e.1,f.1⟩,f.2)
def rlsF (r:Rd):Rls × Rd:=
 let a:=intF r
 let b:=zcy a.2
 let c:=intF b.2
 let d:=u8F c.2
 let e:=zbw d.2
 let f:=intF e.2
 let g:=u64F f.2
 (⟨a.1,b.1,c.1,d.1,e.1,f.1,g.1⟩,g.2)
def oprG (r:Rd):Opr × Rd:=
 let k:=u8F r
 let m:=numF k.2
 let a:=ifR (bitR m.1 0) 0 intF m.2
 let b:=ifR (bitR m.1 1) ⟨0,0,0,0⟩ zbw a.2
 let c:=ifR (bitR m.1 2) [] zdv b.2
 let d:=ifR (bitR m.1 3) ⟨0,0,0⟩ zdg c.2
 let e:=ifR (bitR m.1 4) 0 u8F d.2
 let f:=ifR (bitR m.1 5) 0 u64F e.2
 let g:=ifR (bitR m.1 6) 0 intF f.2
 (⟨k.1,a.1,b.1,c.1,d.1,e.1,f.1,g.1⟩,g.2)
def scpF (r:Rd):Scp × Rd:=
 let u:=intF r
 let e:=zb7 entF u.2
 let l:=zb7 rulF e.2
 let g:=zb7 grtF l.2
 let v:=zb7 evtF g.2
 let x:=zb7 rlsF v.2
 let t:=intF x.2
 let o:=zb7 oprG t.2
 (⟨⟨u.1,e.1,l.1,g.1,v.1,x.1,t.1⟩,o.1⟩,o.2)
theorem zvz (n:Nat) (h:n<18446744073709551616) (t:zaa):numF (numB n++t,false)=(n,(t,false)):=by
 have h8:=zib h;have e:(UInt8.ofNat (beB n).length).toNat=(beB n).length:=by rw[UInt8.toNat_ofNat'];omega
 unfold numB;rw[List.cons_append];unfold numF;simp only[e];rw[ja (by rw[jH];omega),List.take_left' rfl,List.drop_left' rfl,z34 n h]
theorem zea (n:Int) (t:zaa):numF (numI n++t,false)=((n % 18446744073709551616).toNat,(t,false)):=zvz _ (by omega) t
theorem zbh (n:Int) (h:I64 n):Back numI intF n:=λt=>by
 unfold intF;rw[zea,zr5 n h]
theorem zed (n:Int) (h:U64 n):Back numI u64F n:=λt=>by
 obtain ⟨h0,h1⟩:=h;unfold u64F;rw[zea];simp only[Prod.mk.injEq,and_true];omega
theorem zg9 (n:Int) (h:U8 n):Back numI u8F n:=λt=>by
 obtain ⟨h0,h1⟩:=h;unfold u8F;rw[zea];simp only;rw[jS];simp only[Prod.mk.injEq,and_true];omega
theorem zou (n:Nat) (h:n<18446744073709551616) (t:zaa) (ht:n<=t.length):cntF (numI n++t,false)=(n,(t,false)):=by
 unfold cntF;rw[zea];simp only;rw[show ((n:Int) % 18446744073709551616).toNat=n by omega,jS]
theorem zfd (x:Rct) (h:OkRct x):Back za7 zbw x:=λt=>by
 unfold zbw za7;simp only[jJ];rw[zbh _ h.c1,zbh _ h.r1,zbh _ h.c2,zbh _ h.r2]
theorem zjl (x:Ref) (h:OkRef x):Back zb0 zcy x:=λt=>by
 unfold zcy zb0;simp only[jJ];rw[zbh _ h.col,zbh _ h.row]
theorem zkq (x:Rts) (h:OkRts x):Back zce zdg x:=λt=>by
 unfold zdg zce;simp only[jJ];rw[zed _ h.rd,zed _ h.wr,zed _ h.ow]
theorem zko (s:zaa) (h:zp6 s):Back zcv zdv s:=λt=>by
 unfold zdv zcv;simp only[jJ];unfold zp6 at h;rw[zou s.length (by omega) (s++t) (by simp)];simp only;rw[List.take_left' rfl,List.drop_left' rfl]
theorem zny (b:Bool):Back zh7 oneF b:=λt=>by
 unfold oneF zh7;rw[zea];cases b <;> simp
theorem zw6 (x:Ent) (h:OkEnt x):Back entB entF x:=λt=>by
 unfold entF entB;simp only[jJ];rw[zjl _ h.at_,zko _ h.input]
theorem zuw (x:Rul) (h:OkRul x):Back rulB rulF x:=λt=>by
 unfold rulF rulB;simp only[jJ];rw[zfd _ h.rect,zkq _ h.rights]
theorem zwu (x:Grt) (h:OkGrt x):Back grtB grtF x:=λt=>by
 unfold grtF grtB;simp only[jJ];rw[zfd _ h.rect,zg9 _ h.fns,zed _ h.to_,zbh _ h.by_,zny]
theorem zw4 (x:Evt) (h:OkEvt x):Back evtB evtF x:=λt=>by
 unfold evtF evtB;simp only[jJ];rw[zbh _ h.step,zbh _ h.user,zg9 _ h.kind,zfd _ h.rect,zny,zed _ h.to_]
theorem zu4 (x:Rls) (h:OkRls x):Back rlsB rlsF x:=λt=>by
 unfold rlsF rlsB;simp only[jJ];rw[zbh _ h.step,zjl _ h.at_,zbh _ h.node,zg9 _ h.fn,zfd _ h.rect,zbh _ h.grant,zed _ h.to_]
theorem zeb (f:α->zaa) (hf:∀x,1<=(f x).length) (g:Rd->α × Rd) (l:List α) (hl:l.length<=9223372036854775807) (h:∀x∈l,Back f g x):Back (zar f) (zb7 g) l:=λt=>by
 have hge:=zwy f hf l;unfold zb7 zar;rw[jJ,zou l.length (by omega) (l.flatMap f++t) (by rw[jH];omega)];exact zk4 f g l t h
theorem zvs (x:Opr) (h:OkOpr x):Back oprB oprG x:=λt=>by
 have hm:∀a b c d e f g:Bool,∀A B C D E F G:zaa,zdh [(a,A),(b,B),(c,C),(d,D),(e,E),(f,F),(g,G)]=(zfb a b c d e f g:Nat):=by intro a b c d e f g A B C D E F G;simp only[zdh,zfb];cases a <;> cases b <;> cases c <;> cases d <;> cases e <;> cases f <;> cases g <;> rfl
 unfold oprG oprB oprF;rw[hm];obtain ⟨b0,b1,b2,b3,b4,b5,b6,hlt⟩:=ztf (decide (x.user≠0)) (decide (x.rect≠⟨0,0,0,0⟩)) (decide (x.input≠ [])) (decide (x.rights≠⟨0,0,0⟩)) (decide (x.fns≠0)) (decide (x.to_≠0)) (decide (x.index≠0));generalize zfb (decide (x.user≠0)) (decide (x.rect≠⟨0,0,0,0⟩)) (decide (x.input≠ [])) (decide (x.rights≠⟨0,0,0⟩)) (decide (x.fns≠0)) (decide (x.to_≠0)) (decide (x.index≠0))=m at b0 b1 b2 b3 b4 b5 b6 hlt ⊢;simp only[jJ,List.flatMap_cons,List.flatMap_nil,List.nil_append];rw[zg9 _ h.kind];simp only;rw[zea];rw[show ((m:Int) % 18446744073709551616).toNat=m by omega];simp only[b0,b1,b2,b3,b4,b5,b6];rw[zfo numI intF x.user 0 _ (by simp) (zbh _ h.user),zfo za7 zbw x.rect _ _ (by simp) (zfd _ h.rect),zfo zcv zdv x.input _ _ (by simp) (zko _ h.input),zfo zce zdg x.rights _ _ (by simp) (zkq _ h.rights),zfo numI u8F x.fns 0 _ (by simp) (zg9 _ h.fns),zfo numI u64F x.to_ 0 _ (by simp) (zed _ h.to_),zfo numI intF x.index 0 _ (by simp) (zbh _ h.index)]
theorem zuq (s:Scp) (h:OkScp s):Back scpB scpF s:=λt=>by
 have hl:=h.book.lens;unfold scpF scpB;simp only[jJ];rw[zbh _ h.book.users,zeb entB z3w entF _ hl.1 (λx hx=>zw6 x (h.book.entries x hx)),zeb rulB z18 rulF _ hl.2.1 (λx hx=>zuw x (h.book.rules x hx)),
  zeb grtB z3l grtF _ hl.2.2.1 (λx hx=>zwu x (h.book.grants x hx)),zeb evtB z3u evtF _ hl.2.2.2.1 (λx hx=>zw4 x (h.book.log x hx)),
  zeb rlsB z2h rlsF _ hl.2.2.2.2 (λx hx=>zu4 x (h.book.releases x hx)),zbh _ h.book.step,zeb oprB z2y oprG _ h.len (λx hx=>zvs x (h.ops x hx))]
def zer {α:Type} (g h:Rd->α × Rd):Prop:=∀r:Rd,r.1.length<=4611686018427387904->(g r).2.2=false->r.2=false/\(g r).2.1.length<=r.1.length/\h r=g r
theorem zfg:zer numF numR:=by
 rintro ⟨l,b⟩ hl hg
 cases l with
 | nil=>simp[numF] at hg
 | cons c t=>
  unfold numF at hg ⊢;simp only at hg ⊢;by_cases h:8<c.toNat\/t.length<c.toNat
  ·rw[jb h] at hg;cases hg
  rw[ja h] at hg ⊢;simp only at hg ⊢;subst hg;refine ⟨rfl,by simp only[jp,jk];omega,?_⟩;unfold numR za2;simp only;rw[jS,show decide (8<c.toNat)=false by simp;omega];simp
theorem zvx (r:Rd):(numF r).1<18446744073709551616:=by
 have hb:∀(l:zaa) (v:Nat),v<18446744073709551616->beN v l<18446744073709551616:=by
  intro l
  induction l with
  | nil=>intro v h;exact h
  | cons c l ih=>intro v h;exact ih _ (Nat.mod_lt _ (by decide))
 obtain ⟨l,b⟩:=r
 cases l with
 | nil=>simp[numF]
 | cons c t=>
  unfold numF;simp only;split
  ·simp
  exact hb _ 0 (by decide)
theorem zbi:zer intF intR:=λr hl hg=>by
 obtain ⟨h1,h2,h3⟩:=zfg r hl hg;exact ⟨h1,h2,by unfold intR intF;rw[h3]⟩
theorem zeo:zer u64F u64R:=λr hl hg=>by
 obtain ⟨h1,h2,h3⟩:=zfg r hl hg;exact ⟨h1,h2,by unfold u64R u64F;rw[h3]⟩
theorem zhu:zer u8F u8R:=λr hl hg=>by
 unfold u8F at hg ⊢;simp only at hg ⊢;by_cases h:255<(numF r).1
 ·rw[jb h] at hg;cases hg
 rw[ja h] at hg ⊢;obtain ⟨h1,h2,h3⟩:=zfg r hl hg;exact ⟨h1,h2,by unfold u8R;rw[h3]⟩
theorem zow:zer oneF oneR:=λr hl hg=>by
 obtain ⟨h1,h2,h3⟩:=zfg r hl hg;refine ⟨h1,h2,?_⟩;have:=zvx r;unfold oneR oneF intR;rw[h3];simp only[Prod.mk.injEq,and_true,decide_eq_decide];unfold zaj;omega
theorem zox (r:Rd) (hl:r.1.length<=4611686018427387904) (hg:(cntF r).2.2=false):r.2=false/\(cntF r).2.1.length<=r.1.length/\(cntF r).1<=(cntF r).2.1.length/\intR r=(((cntF r).1:Int),(cntF r).2)/\lenR r=(((cntF r).1:Int),(cntF r).2):=by
 unfold cntF at hg ⊢;by_cases h:(numF r).2.1.length<(numF r).1
 ·rw[jb h] at hg;cases hg
 rw[ja h] at hg ⊢;obtain ⟨h1,h2,h3⟩:=zfg r hl hg;have e:intR r=(((numF r).1:Int),(numF r).2):=by unfold intR;rw[h3];simp only[Prod.mk.injEq,and_true];unfold zaj;omega
 refine ⟨h1,h2,by omega,e,?_⟩;unfold lenR;rw[e];clear e h1 h2 h3
 revert hg h
 generalize numF r=q;obtain ⟨n,l,b⟩:=q;intro hg h;simp only at hg h ⊢;subst hg;simp only[Bool.false_or,Prod.mk.injEq,true_and];rw[show decide ((n:Int)<0)=false by simp,show decide ((l.length:Int)<(n:Int))=false by simp;omega];rfl
theorem zle:zer zdv zdu:=λr hl hg=>by
 obtain ⟨h1,h2,h3,h4, -⟩:=zox r hl hg;refine ⟨h1,by unfold zdv;simp only[jp];omega,?_⟩;unfold zdu zdv za2;rw[h4];simp only;rw[jS];simp
theorem zlg {g h:Rd->α × Rd} (H:zer g h):∀(n:Nat),zer (zam g n) (zam h n)
 | 0,r,_,hg=>⟨hg,Nat.le_refl _,rfl⟩
 | n+1,r,hl,hg=>by
  unfold zam at hg ⊢;by_cases hr:r.2=true
  ·rw[jb hr] at hg;simp only at hg;rw[hr] at hg;cases hg
  rw[ja hr] at hg ⊢;rw[ja hr];simp only at hg ⊢;have hl2:(g r).2.1.length<=r.1.length->_:=λq=>zlg H n (g r).2 (jx q hl) hg;have hb:(g r).2.2=false:=by
   cases n with
   | zero=>exact hg
   | succ n=>
    unfold zam at hg;by_cases hq:(g r).2.2=true
    ·rw[jb hq] at hg;simp only at hg;exact hg
    simpa using hq
  obtain ⟨a1,a2,a3⟩:=H r hl hb;obtain ⟨b1,b2,b3⟩:=hl2 a2;exact ⟨a1,jx b2 a2,by rw[a3,b3]⟩
theorem zec {g h:Rd->α × Rd} (H:zer g h):zer (zb7 g) (zbk h):=λr hl hg=>by
 have hc:(cntF r).2.2=false:=by
  unfold zb7 at hg
  cases hn:(cntF r).1 with
  | zero=>rw[hn] at hg;exact hg
  | succ n=>
   rw[hn] at hg;unfold zam at hg;by_cases hq:(cntF r).2.2=true
   ·rw[jb hq] at hg;simp only at hg;exact hg
   simpa using hq
 obtain ⟨h1,h2,h3, -,h5⟩:=zox r hl hc;obtain ⟨b1,b2,b3⟩:=zlg H (cntF r).1 (cntF r).2 (jx h2 hl) hg;refine ⟨h1,jx b2 h2,?_⟩;unfold zbk zb7;rw[h5];exact b3
theorem zfs {g h:Rd->α × Rd} (H:zer g h) (b:Bool) (z:α):zer (ifR b z g) (ifR b z h):=λr hl hg=>by
 unfold ifR at hg ⊢;cases b
 ·exact ⟨hg,Nat.le_refl _,rfl⟩
 exact H r hl hg
def zeq {α:Type} (g:Rd->α × Rd):Prop:=∀r:Rd,(g r).2.2=false->r.2=false
theorem zee:zeq numF:=by
 rintro ⟨l,b⟩ hg
 cases l with
 | nil=>simp[numF] at hg
 | cons c t=>
  unfold numF at hg;simp only at hg;by_cases h:8<c.toNat\/t.length<c.toNat
  ·rw[jb h] at hg;cases hg
  rw[ja h] at hg;exact hg
theorem zas:zeq intF:=λr hg=>zee r hg
theorem zby:zeq u64F:=λr hg=>zee r hg
theorem zhd:zeq oneF:=λr hg=>zee r hg
theorem zd4:zeq u8F:=λr hg=>by
 unfold u8F at hg;simp only at hg;by_cases h:255<(numF r).1
 ·rw[jb h] at hg;cases hg
 rw[ja h] at hg;exact zee r hg
theorem znb:zeq cntF:=λr hg=>by
 unfold cntF at hg;by_cases h:(numF r).2.1.length<(numF r).1
 ·rw[jb h] at hg;cases hg
 rw[ja h] at hg;exact zee r hg
theorem zga:zeq zdv:=λr hg=>znb r hg
theorem zsf {g:Rd->α × Rd} (_H:zeq g):∀(n:Nat),zeq (zam g n)
 | 0,_,hg=>hg
 | n+1,r,hg=>by
  unfold zam at hg;by_cases hr:r.2=true
  ·rw[jb hr] at hg;simp only at hg;exact hg
  simpa using hr
theorem zd8 {g:Rd->α × Rd} (H:zeq g):zeq (zb7 g):=λr hg=>znb r (zsf H _ _ hg)
theorem zca {g:Rd->α × Rd} (H:zeq g) (b:Bool) (z:α):zeq (ifR b z g):=λr hg=>by
 unfold ifR at hg;cases b
 ·exact hg
 exact H r hg
theorem zcx:zeq zbw:=λr hg=>by
 obtain ⟨y0,h0⟩:=jN (intF r);obtain ⟨y1,h1⟩:=jN (intF y0.2);obtain ⟨y2,h2⟩:=jN (intF y1.2);obtain ⟨y3,h3⟩:=jN (intF y2.2);unfold zbw at hg;simp only[h0,h1,h2,h3] at hg;have q3:y3.2.2=false:=hg;have q2:y2.2.2=false:=zas y2.2 (by rw[h3];exact q3);have q1:y1.2.2=false:=zas y1.2 (by rw[h2];exact q2);have q0:y0.2.2=false:=zas y0.2 (by rw[h1];exact q1);exact zas r (by rw[h0];exact q0)
theorem zfh:zer zbw zbr:=λr hl hg=>by
 obtain ⟨y0,h0⟩:=jN (intF r);obtain ⟨y1,h1⟩:=jN (intF y0.2);obtain ⟨y2,h2⟩:=jN (intF y1.2);obtain ⟨y3,h3⟩:=jN (intF y2.2);unfold zbw at hg ⊢;unfold zbr;simp only[h0,h1,h2,h3] at hg ⊢;have q3:y3.2.2=false:=hg;have q2:y2.2.2=false:=zas y2.2 (by rw[h3];exact q3);have q1:y1.2.2=false:=zas y1.2 (by rw[h2];exact q2);have q0:y0.2.2=false:=zas y0.2 (by rw[h1];exact q1);obtain ⟨a0,b0,c0⟩:=zbi r (hl) (by rw[h0];exact q0);rw[h0] at b0 c0;have l0:=b0;obtain ⟨a1,b1,c1⟩:=zbi y0.2 (jx l0 hl) (by rw[h1];exact q1);rw[h1] at b1 c1;have l1:=jx b1 l0;obtain ⟨a2,b2,c2⟩:=zbi y1.2 (jx l1 hl) (by rw[h2];exact q2);rw[h2] at b2 c2;have l2:=jx b2 l1;obtain ⟨a3,b3,c3⟩:=zbi y2.2 (jx l2 hl) (by rw[h3];exact q3);rw[h3] at b3 c3;have l3:=jx b3 l2;exact ⟨a0,l3,by simp only[c0,c1,c2,c3]⟩
theorem zg1:zeq zcy:=λr hg=>by
 obtain ⟨y0,h0⟩:=jN (intF r);obtain ⟨y1,h1⟩:=jN (intF y0.2);unfold zcy at hg;simp only[h0,h1] at hg;have q1:y1.2.2=false:=hg;have q0:y0.2.2=false:=zas y0.2 (by rw[h1];exact q1);exact zas r (by rw[h0];exact q0)
theorem zkb:zer zcy zbz:=λr hl hg=>by
 obtain ⟨y0,h0⟩:=jN (intF r);obtain ⟨y1,h1⟩:=jN (intF y0.2);unfold zcy at hg ⊢;unfold zbz;simp only[h0,h1] at hg ⊢;have q1:y1.2.2=false:=hg;have q0:y0.2.2=false:=zas y0.2 (by rw[h1];exact q1);obtain ⟨a0,b0,c0⟩:=zbi r (hl) (by rw[h0];exact q0);rw[h0] at b0 c0;have l0:=b0;obtain ⟨a1,b1,c1⟩:=zbi y0.2 (jx l0 hl) (by rw[h1];exact q1);rw[h1] at b1 c1;have l1:=jx b1 l0;exact ⟨a0,l1,by simp only[c0,c1]⟩
theorem zgb:zeq zdg:=λr hg=>by
 obtain ⟨y0,h0⟩:=jN (u64F r);obtain ⟨y1,h1⟩:=jN (u64F y0.2);obtain ⟨y2,h2⟩:=jN (u64F y1.2);unfold zdg at hg;simp only[h0,h1,h2] at hg;have q2:y2.2.2=false:=hg;have q1:y1.2.2=false:=zby y1.2 (by rw[h2];exact q2);have q0:y0.2.2=false:=zby y0.2 (by rw[h1];exact q1);exact zby r (by rw[h0];exact q0)
theorem zlf:zer zdg zd5:=λr hl hg=>by
 obtain ⟨y0,h0⟩:=jN (u64F r);obtain ⟨y1,h1⟩:=jN (u64F y0.2);obtain ⟨y2,h2⟩:=jN (u64F y1.2);unfold zdg at hg ⊢;unfold zd5;simp only[h0,h1,h2] at hg ⊢;have q2:y2.2.2=false:=hg;have q1:y1.2.2=false:=zby y1.2 (by rw[h2];exact q2);have q0:y0.2.2=false:=zby y0.2 (by rw[h1];exact q1);obtain ⟨a0,b0,c0⟩:=zeo r (hl) (by rw[h0];exact q0);rw[h0] at b0 c0;have l0:=b0;obtain ⟨a1,b1,c1⟩:=zeo y0.2 (jx l0 hl) (by rw[h1];exact q1);rw[h1] at b1 c1;have l1:=jx b1 l0;obtain ⟨a2,b2,c2⟩:=zeo y1.2 (jx l1 hl) (by rw[h2];exact q2);rw[h2] at b2 c2;have l2:=jx b2 l1;exact ⟨a0,l2,by simp only[c0,c1,c2]⟩
theorem zun:zeq entF:=λr hg=>by
 obtain ⟨y0,h0⟩:=jN (zcy r);obtain ⟨y1,h1⟩:=jN (zdv y0.2);unfold entF at hg;simp only[h0,h1] at hg;have q1:y1.2.2=false:=hg;have q0:y0.2.2=false:=zga y0.2 (by rw[h1];exact q1);exact zg1 r (by rw[h0];exact q0)
theorem zxv:zer entF entR:=λr hl hg=>by
 obtain ⟨y0,h0⟩:=jN (zcy r);obtain ⟨y1,h1⟩:=jN (zdv y0.2);unfold entF at hg ⊢;unfold entR;simp only[h0,h1] at hg ⊢;have q1:y1.2.2=false:=hg;have q0:y0.2.2=false:=zga y0.2 (by rw[h1];exact q1);obtain ⟨a0,b0,c0⟩:=zkb r (hl) (by rw[h0];exact q0);rw[h0] at b0 c0;have l0:=b0;obtain ⟨a1,b1,c1⟩:=zle y0.2 (jx l0 hl) (by rw[h1];exact q1);rw[h1] at b1 c1;have l1:=jx b1 l0;exact ⟨a0,l1,by simp only[c0,c1]⟩
theorem zui:zeq rulF:=λr hg=>by
 obtain ⟨y0,h0⟩:=jN (zbw r);obtain ⟨y1,h1⟩:=jN (zdg y0.2);unfold rulF at hg;simp only[h0,h1] at hg;have q1:y1.2.2=false:=hg;have q0:y0.2.2=false:=zgb y0.2 (by rw[h1];exact q1);exact zcx r (by rw[h0];exact q0)
theorem zxq:zer rulF rulR:=λr hl hg=>by
 obtain ⟨y0,h0⟩:=jN (zbw r);obtain ⟨y1,h1⟩:=jN (zdg y0.2);unfold rulF at hg ⊢;unfold rulR;simp only[h0,h1] at hg ⊢;have q1:y1.2.2=false:=hg;have q0:y0.2.2=false:=zgb y0.2 (by rw[h1];exact q1);obtain ⟨a0,b0,c0⟩:=zfh r (hl) (by rw[h0];exact q0);rw[h0] at b0 c0;have l0:=b0;obtain ⟨a1,b1,c1⟩:=zlf y0.2 (jx l0 hl) (by rw[h1];exact q1);rw[h1] at b1 c1;have l1:=jx b1 l0;exact ⟨a0,l1,by simp only[c0,c1]⟩
theorem zul:zeq grtF:=λr hg=>by
 obtain ⟨y0,h0⟩:=jN (zbw r);obtain ⟨y1,h1⟩:=jN (u8F y0.2);obtain ⟨y2,h2⟩:=jN (u64F y1.2);obtain ⟨y3,h3⟩:=jN (intF y2.2);obtain ⟨y4,h4⟩:=jN (oneF y3.2);unfold grtF at hg;simp only[h0,h1,h2,h3,h4] at hg;have q4:y4.2.2=false:=hg;have q3:y3.2.2=false:=zhd y3.2 (by rw[h4];exact q4);have q2:y2.2.2=false:=zas y2.2 (by rw[h3];exact q3);have q1:y1.2.2=false:=zby y1.2 (by rw[h2];exact q2);have q0:y0.2.2=false:=zd4 y0.2 (by rw[h1];exact q1);exact zcx r (by rw[h0];exact q0)
theorem zxt:zer grtF grtR:=λr hl hg=>by
 obtain ⟨y0,h0⟩:=jN (zbw r);obtain ⟨y1,h1⟩:=jN (u8F y0.2);obtain ⟨y2,h2⟩:=jN (u64F y1.2);obtain ⟨y3,h3⟩:=jN (intF y2.2);obtain ⟨y4,h4⟩:=jN (oneF y3.2);unfold grtF at hg ⊢;unfold grtR;simp only[h0,h1,h2,h3,h4] at hg ⊢;have q4:y4.2.2=false:=hg;have q3:y3.2.2=false:=zhd y3.2 (by rw[h4];exact q4);have q2:y2.2.2=false:=zas y2.2 (by rw[h3];exact q3);have q1:y1.2.2=false:=zby y1.2 (by rw[h2];exact q2);have q0:y0.2.2=false:=zd4 y0.2 (by rw[h1];exact q1);obtain ⟨a0,b0,c0⟩:=zfh r (hl) (by rw[h0];exact q0);rw[h0] at b0 c0;have l0:=b0;obtain ⟨a1,b1,c1⟩:=zhu y0.2 (jx l0 hl) (by rw[h1];exact q1);rw[h1] at b1 c1;have l1:=jx b1 l0;obtain ⟨a2,b2,c2⟩:=zeo y1.2 (jx l1 hl) (by rw[h2];exact q2);rw[h2] at b2 c2;have l2:=jx b2 l1;obtain ⟨a3,b3,c3⟩:=zbi y2.2 (jx l2 hl) (by rw[h3];exact q3);rw[h3] at b3 c3;have l3:=jx b3 l2;obtain ⟨a4,b4,c4⟩:=zow y3.2 (jx l3 hl) (by rw[h4];exact q4);rw[h4] at b4 c4;have l4:=jx b4 l3;exact ⟨a0,l4,by simp only[c0,c1,c2,c3,c4]⟩
theorem zum:zeq evtF:=λr hg=>by
 obtain ⟨y0,h0⟩:=jN (intF r);obtain ⟨y1,h1⟩:=jN (intF y0.2);obtain ⟨y2,h2⟩:=jN (u8F y1.2);obtain ⟨y3,h3⟩:=jN (zbw y2.2);obtain ⟨y4,h4⟩:=jN (oneF y3.2);obtain ⟨y5,h5⟩:=jN (u64F y4.2);unfold evtF at hg;simp only[h0,h1,h2,h3,h4,h5] at hg;have q5:y5.2.2=false:=hg;have q4:y4.2.2=false:=zby y4.2 (by rw[h5];exact q5);have q3:y3.2.2=false:=zhd y3.2 (by rw[h4];exact q4);have q2:y2.2.2=false:=zcx y2.2 (by rw[h3];exact q3);have q1:y1.2.2=false:=zd4 y1.2 (by rw[h2];exact q2);have q0:y0.2.2=false:=zas y0.2 (by rw[h1];exact q1);exact zas r (by rw[h0];exact q0)
theorem zxu:zer evtF evtR:=λr hl hg=>by
 obtain ⟨y0,h0⟩:=jN (intF r);obtain ⟨y1,h1⟩:=jN (intF y0.2);obtain ⟨y2,h2⟩:=jN (u8F y1.2);obtain ⟨y3,h3⟩:=jN (zbw y2.2);obtain ⟨y4,h4⟩:=jN (oneF y3.2);obtain ⟨y5,h5⟩:=jN (u64F y4.2);unfold evtF at hg ⊢;unfold evtR;simp only[h0,h1,h2,h3,h4,h5] at hg ⊢;have q5:y5.2.2=false:=hg;have q4:y4.2.2=false:=zby y4.2 (by rw[h5];exact q5);have q3:y3.2.2=false:=zhd y3.2 (by rw[h4];exact q4);have q2:y2.2.2=false:=zcx y2.2 (by rw[h3];exact q3);have q1:y1.2.2=false:=zd4 y1.2 (by rw[h2];exact q2);have q0:y0.2.2=false:=zas y0.2 (by rw[h1];exact q1);obtain ⟨a0,b0,c0⟩:=zbi r (hl) (by rw[h0];exact q0);rw[h0] at b0 c0;have l0:=b0;obtain ⟨a1,b1,c1⟩:=zbi y0.2 (jx l0 hl) (by rw[h1];exact q1);rw[h1] at b1 c1;have l1:=jx b1 l0;obtain ⟨a2,b2,c2⟩:=zhu y1.2 (jx l1 hl) (by rw[h2];exact q2);rw[h2] at b2 c2;have l2:=jx b2 l1;obtain ⟨a3,b3,c3⟩:=zfh y2.2 (jx l2 hl) (by rw[h3];exact q3);rw[h3] at b3 c3;have l3:=jx b3 l2;obtain ⟨a4,b4,c4⟩:=zow y3.2 (jx l3 hl) (by rw[h4];exact q4);rw[h4] at b4 c4;have l4:=jx b4 l3;obtain ⟨a5,b5,c5⟩:=zeo y4.2 (jx l4 hl) (by rw[h5];exact q5);rw[h5] at b5 c5;have l5:=jx b5 l4;exact ⟨a0,l5,by simp only[c0,c1,c2,c3,c4,c5]⟩
theorem zuj:zeq rlsF:=λr hg=>by
 obtain ⟨y0,h0⟩:=jN (intF r);obtain ⟨y1,h1⟩:=jN (zcy y0.2);obtain ⟨y2,h2⟩:=jN (intF y1.2);obtain ⟨y3,h3⟩:=jN (u8F y2.2);obtain ⟨y4,h4⟩:=jN (zbw y3.2);obtain ⟨y5,h5⟩:=jN (intF y4.2);obtain ⟨y6,h6⟩:=jN (u64F y5.2);unfold rlsF at hg;simp only[h0,h1,h2,h3,h4,h5,h6] at hg;have q6:y6.2.2=false:=hg;have q5:y5.2.2=false:=zby y5.2 (by rw[h6];exact q6);have q4:y4.2.2=false:=zas y4.2 (by rw[h5];exact q5);have q3:y3.2.2=false:=zcx y3.2 (by rw[h4];exact q4);have q2:y2.2.2=false:=zd4 y2.2 (by rw[h3];exact q3);have q1:y1.2.2=false:=zas y1.2 (by rw[h2];exact q2);have q0:y0.2.2=false:=zg1 y0.2 (by rw[h1];exact q1);exact zas r (by rw[h0];exact q0)
theorem zxr:zer rlsF rlsR:=λr hl hg=>by
 obtain ⟨y0,h0⟩:=jN (intF r);obtain ⟨y1,h1⟩:=jN (zcy y0.2);obtain ⟨y2,h2⟩:=jN (intF y1.2);obtain ⟨y3,h3⟩:=jN (u8F y2.2);obtain ⟨y4,h4⟩:=jN (zbw y3.2);obtain ⟨y5,h5⟩:=jN (intF y4.2);obtain ⟨y6,h6⟩:=jN (u64F y5.2);unfold rlsF at hg ⊢;unfold rlsR;simp only[h0,h1,h2,h3,h4,h5,h6] at hg ⊢;have q6:y6.2.2=false:=hg;have q5:y5.2.2=false:=zby y5.2 (by rw[h6];exact q6);have q4:y4.2.2=false:=zas y4.2 (by rw[h5];exact q5);have q3:y3.2.2=false:=zcx y3.2 (by rw[h4];exact q4);have q2:y2.2.2=false:=zd4 y2.2 (by rw[h3];exact q3);have q1:y1.2.2=false:=zas y1.2 (by rw[h2];exact q2);have q0:y0.2.2=false:=zg1 y0.2 (by rw[h1];exact q1);obtain ⟨a0,b0,c0⟩:=zbi r (hl) (by rw[h0];exact q0);rw[h0] at b0 c0;have l0:=b0;obtain ⟨a1,b1,c1⟩:=zkb y0.2 (jx l0 hl) (by rw[h1];exact q1);rw[h1] at b1 c1;have l1:=jx b1 l0;obtain ⟨a2,b2,c2⟩:=zbi y1.2 (jx l1 hl) (by rw[h2];exact q2);rw[h2] at b2 c2;have l2:=jx b2 l1;obtain ⟨a3,b3,c3⟩:=zhu y2.2 (jx l2 hl) (by rw[h3];exact q3);rw[h3] at b3 c3;have l3:=jx b3 l2;obtain ⟨a4,b4,c4⟩:=zfh y3.2 (jx l3 hl) (by rw[h4];exact q4);rw[h4] at b4 c4;have l4:=jx b4 l3;obtain ⟨a5,b5,c5⟩:=zbi y4.2 (jx l4 hl) (by rw[h5];exact q5);rw[h5] at b5 c5;have l5:=jx b5 l4;obtain ⟨a6,b6,c6⟩:=zeo y5.2 (jx l5 hl) (by rw[h6];exact q6);rw[h6] at b6 c6;have l6:=jx b6 l5;exact ⟨a0,l6,by simp only[c0,c1,c2,c3,c4,c5,c6]⟩
theorem zuk:zeq oprG:=λr hg=>by
 obtain ⟨y0,h0⟩:=jN (u8F r);obtain ⟨y1,h1⟩:=jN (numF y0.2);obtain ⟨y2,h2⟩:=jN (ifR (bitR y1.1 0) 0 intF y1.2);obtain ⟨y3,h3⟩:=jN (ifR (bitR y1.1 1) ⟨0,0,0,0⟩ zbw y2.2);obtain ⟨y4,h4⟩:=jN (ifR (bitR y1.1 2) [] zdv y3.2);obtain ⟨y5,h5⟩:=jN (ifR (bitR y1.1 3) ⟨0,0,0⟩ zdg y4.2);obtain ⟨y6,h6⟩:=jN (ifR (bitR y1.1 4) 0 u8F y5.2);obtain ⟨y7,h7⟩:=jN (ifR (bitR y1.1 5) 0 u64F y6.2);obtain ⟨y8,h8⟩:=jN (ifR (bitR y1.1 6) 0 intF y7.2);unfold oprG at hg;simp only[h0,h1,h2,h3,h4,h5,h6,h7,h8] at hg;have q8:y8.2.2=false:=hg;have q7:y7.2.2=false:=(zca zas (bitR y1.1 6) 0) y7.2 (by rw[h8];exact q8);have q6:y6.2.2=false:=(zca zby (bitR y1.1 5) 0) y6.2 (by rw[h7];exact q7);have q5:y5.2.2=false:=(zca zd4 (bitR y1.1 4) 0) y5.2 (by rw[h6];exact q6);have q4:y4.2.2=false:=(zca zgb (bitR y1.1 3) ⟨0,0,0⟩) y4.2 (by rw[h5];exact q5);have q3:y3.2.2=false:=(zca zga (bitR y1.1 2) []) y3.2 (by rw[h4];exact q4);have q2:y2.2.2=false:=(zca zcx (bitR y1.1 1) ⟨0,0,0,0⟩) y2.2 (by rw[h3];exact q3);have q1:y1.2.2=false:=(zca zas (bitR y1.1 0) 0) y1.2 (by rw[h2];exact q2);have q0:y0.2.2=false:=zee y0.2 (by rw[h1];exact q1);exact zd4 r (by rw[h0];exact q0)
theorem zxs:zer oprG oprR:=λr hl hg=>by
 obtain ⟨y0,h0⟩:=jN (u8F r);obtain ⟨y1,h1⟩:=jN (numF y0.2);obtain ⟨y2,h2⟩:=jN (ifR (bitR y1.1 0) 0 intF y1.2);obtain ⟨y3,h3⟩:=jN (ifR (bitR y1.1 1) ⟨0,0,0,0⟩ zbw y2.2);obtain ⟨y4,h4⟩:=jN (ifR (bitR y1.1 2) [] zdv y3.2);obtain ⟨y5,h5⟩:=jN (ifR (bitR y1.1 3) ⟨0,0,0⟩ zdg y4.2);obtain ⟨y6,h6⟩:=jN (ifR (bitR y1.1 4) 0 u8F y5.2);obtain ⟨y7,h7⟩:=jN (ifR (bitR y1.1 5) 0 u64F y6.2);obtain ⟨y8,h8⟩:=jN (ifR (bitR y1.1 6) 0 intF y7.2);unfold oprG at hg ⊢;unfold oprR;simp only[h0,h1,h2,h3,h4,h5,h6,h7,h8] at hg ⊢;have q8:y8.2.2=false:=hg;have q7:y7.2.2=false:=(zca zas (bitR y1.1 6) 0) y7.2 (by rw[h8];exact q8);have q6:y6.2.2=false:=(zca zby (bitR y1.1 5) 0) y6.2 (by rw[h7];exact q7);have q5:y5.2.2=false:=(zca zd4 (bitR y1.1 4) 0) y5.2 (by rw[h6];exact q6);have q4:y4.2.2=false:=(zca zgb (bitR y1.1 3) ⟨0,0,0⟩) y4.2 (by rw[h5];exact q5);have q3:y3.2.2=false:=(zca zga (bitR y1.1 2) []) y3.2 (by rw[h4];exact q4);have q2:y2.2.2=false:=(zca zcx (bitR y1.1 1) ⟨0,0,0,0⟩) y2.2 (by rw[h3];exact q3);have q1:y1.2.2=false:=(zca zas (bitR y1.1 0) 0) y1.2 (by rw[h2];exact q2);have q0:y0.2.2=false:=zee y0.2 (by rw[h1];exact q1);obtain ⟨a0,b0,c0⟩:=zhu r (hl) (by rw[h0];exact q0);rw[h0] at b0 c0;have l0:=b0;obtain ⟨a1,b1,c1⟩:=zfg y0.2 (jx l0 hl) (by rw[h1];exact q1);rw[h1] at b1 c1;have l1:=jx b1 l0;obtain ⟨a2,b2,c2⟩:=(zfs zbi (bitR y1.1 0) 0) y1.2 (jx l1 hl) (by rw[h2];exact q2);rw[h2] at b2 c2;have l2:=jx b2 l1;obtain ⟨a3,b3,c3⟩:=(zfs zfh (bitR y1.1 1) ⟨0,0,0,0⟩) y2.2 (jx l2 hl) (by rw[h3];exact q3);rw[h3] at b3 c3;have l3:=jx b3 l2;obtain ⟨a4,b4,c4⟩:=(zfs zle (bitR y1.1 2) []) y3.2 (jx l3 hl) (by rw[h4];exact q4);rw[h4] at b4 c4;have l4:=jx b4 l3;obtain ⟨a5,b5,c5⟩:=(zfs zlf (bitR y1.1 3) ⟨0,0,0⟩) y4.2 (jx l4 hl) (by rw[h5];exact q5);rw[h5] at b5 c5;have l5:=jx b5 l4;obtain ⟨a6,b6,c6⟩:=(zfs zhu (bitR y1.1 4) 0) y5.2 (jx l5 hl) (by rw[h6];exact q6);rw[h6] at b6 c6;have l6:=jx b6 l5;obtain ⟨a7,b7,c7⟩:=(zfs zeo (bitR y1.1 5) 0) y6.2 (jx l6 hl) (by rw[h7];exact q7);rw[h7] at b7 c7;have l7:=jx b7 l6;obtain ⟨a8,b8,c8⟩:=(zfs zbi (bitR y1.1 6) 0) y7.2 (jx l7 hl) (by rw[h8];exact q8);rw[h8] at b8 c8;have l8:=jx b8 l7;exact ⟨a0,l8,by simp only[c0,c1,c2,c3,c4,c5,c6,c7,c8]⟩
theorem zov:zer scpF scpR:=λr hl hg=>by
 obtain ⟨y0,h0⟩:=jN (intF r);obtain ⟨y1,h1⟩:=jN (zb7 entF y0.2);obtain ⟨y2,h2⟩:=jN (zb7 rulF y1.2);obtain ⟨y3,h3⟩:=jN (zb7 grtF y2.2);obtain ⟨y4,h4⟩:=jN (zb7 evtF y3.2);obtain ⟨y5,h5⟩:=jN (zb7 rlsF y4.2);obtain ⟨y6,h6⟩:=jN (intF y5.2);obtain ⟨y7,h7⟩:=jN (zb7 oprG y6.2);unfold scpF at hg ⊢;unfold scpR;simp only[h0,h1,h2,h3,h4,h5,h6,h7] at hg ⊢;have q7:y7.2.2=false:=hg;have q6:y6.2.2=false:=(zd8 zuk) y6.2 (by rw[h7];exact q7);have q5:y5.2.2=false:=zas y5.2 (by rw[h6];exact q6);have q4:y4.2.2=false:=(zd8 zuj) y4.2 (by rw[h5];exact q5);have q3:y3.2.2=false:=(zd8 zum) y3.2 (by rw[h4];exact q4);have q2:y2.2.2=false:=(zd8 zul) y2.2 (by rw[h3];exact q3);have q1:y1.2.2=false:=(zd8 zui) y1.2 (by rw[h2];exact q2);have q0:y0.2.2=false:=(zd8 zun) y0.2 (by rw[h1];exact q1);obtain ⟨a0,b0,c0⟩:=zbi r (hl) (by rw[h0];exact q0);rw[h0] at b0 c0;have l0:=b0;obtain ⟨a1,b1,c1⟩:=(zec zxv) y0.2 (jx l0 hl) (by rw[h1];exact q1);rw[h1] at b1 c1;have l1:=jx b1 l0;obtain ⟨a2,b2,c2⟩:=(zec zxq) y1.2 (jx l1 hl) (by rw[h2];exact q2);rw[h2] at b2 c2;have l2:=jx b2 l1;obtain ⟨a3,b3,c3⟩:=(zec zxt) y2.2 (jx l2 hl) (by rw[h3];exact q3);rw[h3] at b3 c3;have l3:=jx b3 l2;obtain ⟨a4,b4,c4⟩:=(zec zxu) y3.2 (jx l3 hl) (by rw[h4];exact q4);rw[h4] at b4 c4;have l4:=jx b4 l3;obtain ⟨a5,b5,c5⟩:=(zec zxr) y4.2 (jx l4 hl) (by rw[h5];exact q5);rw[h5] at b5 c5;have l5:=jx b5 l4;obtain ⟨a6,b6,c6⟩:=zbi y5.2 (jx l5 hl) (by rw[h6];exact q6);rw[h6] at b6 c6;have l6:=jx b6 l5;obtain ⟨a7,b7,c7⟩:=(zec zxs) y6.2 (jx l6 hl) (by rw[h7];exact q7);rw[h7] at b7 c7;have l7:=jx b7 l6;exact ⟨a0,l7,by simp only[c0,c1,c2,c3,c4,c5,c6,c7]⟩
theorem za9 {c:α->List Value} {l:List α} (h:Own c e k w v l):∃A cap,v=.slice A l.length cap/\l.length<=maxLen:=by
 rcases h.2 with ⟨rfl,he⟩ | ⟨g,cap,cur,rfl,_,_,h1,h2,_⟩
 ·exact ⟨none,0,by rw[he],by omega⟩
 exact ⟨_,cap,rfl,jx h1 h2⟩
theorem Own.set {c:α->List Value} {l:List α} (h:Own c e k w v l) (hg:v.ownBlock≠some g) (i:Nat) (u:Value):Own c e k (w.setCell (g,i) u) v l:=
 h.chg (S:=λk=>k=g) ((Chg.refl (λk=>k=g) w).setCell (p:=⟨g,i,none⟩) (.inl rfl) u) (λq hq e=>by subst e;exact hg hq)
theorem Own.sets {c:α->List Value} {l:List α} (h:Own c e k w v l) (hg:v.ownBlock≠some g) (u0 u1 u2 u3 u4 u5 u6 u7:Value):
 Own c e k ((((((((w.setCell ⟨g,0,none⟩ u0).setCell ⟨g,1,none⟩ u1).setCell ⟨g,2,none⟩ u2).setCell ⟨g,3,none⟩ u3).setCell ⟨g,4,none⟩ u4).setCell ⟨g,5,none⟩ u5).setCell ⟨g,6,none⟩ u6).setCell ⟨g,7,none⟩ u7) v l:=
 (((((((h.set hg 0 u0).set hg 1 u1).set hg 2 u2).set hg 3 u3).set hg 4 u4).set hg 5 u5).set hg 6 u6).set hg 7 u7
theorem zn8 (w:World) (B:Nat):RdScp w B noS (.slice none 0 0) (.slice none 0 0) (.slice none 0 0) (.slice none 0 0) (.slice none 0 0) (.slice none 0 0):=by
 have h:∀{α:Type} (c:α->List Value),Sls c w B (.slice none 0 0) ([]:List α):=λc=>⟨none,0,rfl,Nat.le_refl _,by simp[maxLen],λh=>by simp at h⟩;exact ⟨⟨h _,h _,h _,h _,h _⟩,h _⟩
end Go.Proofs.YtamcgggmfghljaaGreatDoor
