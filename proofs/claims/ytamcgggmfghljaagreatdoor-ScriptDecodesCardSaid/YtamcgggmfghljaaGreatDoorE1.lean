/- walk -/
import Derived.WalkKit
import Derived.WalkSpells
import Derived.WalkLawsBesides
import Derived.Handy
import Derived.Lib.Hide
import Derived.Deep.MidRow
import Derived.Deep.AppendLies
import Derived.Below
import Derived.Test.YtamcgggmfghljaaGreatDoorProg
import Derived.Laws.StructEq
import Derived.Deep.RegionHeld3
import Derived.Maps.AppendAt
import Derived.OwnWalk
import Derived.Lib.AppendStr
set_option maxRecDepth 100000
set_option maxHeartbeats 8000000
open Go.Proofs.Tryz
namespace Go.Proofs.YtamcgggmfghljaaGreatDoor
open Go.RowKit
variable {p:Addr} {k:IntKind} {B B' b base cap g i n:Nat} {P:Program} {α:Type} {e t:TypeId} {v v' v1 v2:Value} {a c w w' w0 w1 w2:World}
structure Chg (S:Nat->Prop) (w w':World):Prop where
 os:w'.os=w.os
 tape:w'.tape=w.tape
 output:w'.output=w.output
 size:w.heap.size<=w'.heap.size
 block:∀k,k<w.heap.size->¬S k->w'.heap[k]?=w.heap[k]?
theorem Chg.refl (S:Nat->Prop) (w:World):Chg S w w:=⟨rfl,rfl,rfl,Nat.le_refl _,λ_ _ _=>rfl⟩
theorem Chg.trans {S:Nat->Prop} {b:World} (h:Chg S a b) (k:Chg S b c):Chg S a c:=
 ⟨k.os.trans h.os,k.tape.trans h.tape,k.output.trans h.output,Nat.le_trans h.size k.size,λi hi hs=>(k.block i (Nat.lt_of_lt_of_le hi h.size) hs).trans (h.block i hi hs)⟩
theorem Chg.mono {S T:Nat->Prop} {b:World} (h:Chg S a b) (hs:∀k,k<a.heap.size->S k->T k):Chg T a b:=⟨h.os,h.tape,h.output,h.size,λi hi ht=>h.block i hi λs=>ht (hs i hi s)⟩
theorem Chg.drew {S:Nat->Prop} (h:Chg S a w):Chg S a w.drew:=⟨h.os,h.tape,h.output,h.size,h.block⟩
theorem Chg.drewN {S:Nat->Prop} (h:Chg S a w) (n:Nat):Chg S a (w.drewN n):=⟨h.os,h.tape,h.output,h.size,h.block⟩
theorem Chg.alloc {S:Nat->Prop} (h:Chg S a w) (o:Obj):Chg S a (w.alloc o):=
 h.trans ⟨rfl,rfl,rfl,by simp,λk hk _=>Below.heap_alloc _ _ _ hk⟩
theorem Chg.setCell {S:Nat->Prop} (h:Chg S a w) (hp:S p.block\/a.heap.size<=p.block) (u:Value):Chg S a (w.setCell p u):=
 ⟨h.os,h.tape,h.output,by have:=h.size;simpa [World.setCell] using this,λk hk hs=>(Below.heap_setCell _ _ _ _ (by rintro rfl;exact hp.elim hs (λh=>by omega))).trans (h.block k hk hs)⟩
theorem Chg.grown {S:Nat->Prop} {row:Option Nat} (h:Chg S a w) (hg:w.grownBy w' row) (hr:∀k,row=some k->S k\/a.heap.size<=k):Chg S a w':=
 ⟨hg.os.trans h.os,hg.tape.trans h.tape,hg.output.trans h.output,Nat.le_trans h.size hg.size,λk hk hs=>(hg.block k (Nat.lt_of_lt_of_le hk h.size) (λe=>(hr k e.symm).elim hs (λh=>by omega))).trans (h.block k hk hs)⟩
theorem Chg.of_below (h:Below B w w') (S:Nat->Prop) (hB:∀k,k<w.heap.size->¬S k->k<B):Chg S w w':=⟨h.os,h.tape,h.output,h.size,λk hk hs=>h.block k (hB k hk hs)⟩
theorem Chg.below {S:Nat->Prop} (h:Chg S w0 w) (hb:Below w.heap.size w w'):Chg S w0 w':=
 ⟨hb.os.trans h.os,hb.tape.trans h.tape,hb.output.trans h.output,Nat.le_trans h.size hb.size,λk hk hs=>(hb.block k (Nat.lt_of_lt_of_le hk h.size)).trans (h.block k hk hs)⟩
theorem Chg.to_below {S:Nat->Prop} (h:Chg S w w') (hB:B<=w.heap.size) (hs:∀k,k<B->¬S k):Below B w w':=⟨h.os,h.tape,h.output,h.size,λk hk=>h.block k (by omega) (hs k hk)⟩
theorem Chg.cell {S:Nat->Prop} (h:Chg S w w') (hp:p.block<w.heap.size) (hs:¬S p.block):w'.cell? p=w.cell? p:=World.cell?_of_block (w:=w) (h.block p.block hp hs)
theorem Chg.frozen {S:Nat->Prop} (h:Chg S w w') (hp:p.block<w.heap.size) (hs:¬S p.block):w'.frozen? p=w.frozen? p:=World.frozen?_of_block (w:=w) (h.block p.block hp hs)
structure Same (w w':World):Prop where
 heap:w'.heap=w.heap
 os:w'.os=w.os
 tape:w'.tape=w.tape
 output:w'.output=w.output
theorem Same.refl (w:World):Same w w:=⟨rfl,rfl,rfl,rfl⟩
theorem Same.trans {b:World} (h:Same a b) (k:Same b c):Same a c:=⟨k.heap.trans h.heap,k.os.trans h.os,k.tape.trans h.tape,k.output.trans h.output⟩
theorem Same.drew (h:Same w w'):Same w w'.drew:=⟨h.heap,h.os,h.tape,h.output⟩
theorem Same.drewN (h:Same w w') (n:Nat):Same w (w'.drewN n):=⟨h.heap,h.os,h.tape,h.output⟩
theorem Same.cell (h:Same w w') (a:Addr):w'.cell? a=w.cell? a:=by unfold World.cell?;rw[h.heap]
theorem Same.below (h:Same w w') (B:Nat):Below B w w':=⟨h.os,h.tape,h.output,by rw[h.heap];exact Nat.le_refl _,λk _=>by rw[h.heap]⟩
theorem Below.drewN_ (h:Below B a w) (n:Nat):Below B a (w.drewN n):=⟨h.os,h.tape,h.output,h.size,h.block⟩
theorem Below.next {b:World} (h:Below B a b) (k:Below b.heap.size b c) (hB:B<=b.heap.size):Below B a c:=h.trans (k.mono hB)
theorem Below.next_ {b:World} (h:Below a.heap.size a b) (k:Below b.heap.size b c):Below a.heap.size a c:=h.trans (k.mono h.size)
def Blk (w:World) (g:Nat) (t:TypeId) (cs:Array Value):Prop:=w.heap[g]?=some (.cells cs t (0,0))
section
variable {w w':World} {g:Nat} {t:TypeId} {cs:Array Value}
theorem Blk.lt (h:Blk w g t cs):g<w.heap.size:=by
 rcases Nat.lt_or_ge g w.heap.size with hlt | hge
 ·exact hlt
 unfold Blk at h;rw[Array.getElem?_eq_none hge] at h;cases h
theorem Blk.cell (h:Blk w g t cs) (i:Nat):w.cell? ⟨g,i,none⟩=cs[i]?:=cell_of_row w g i cs t (0,0) h
theorem Blk.frozen (h:Blk w g t cs) (i:Nat):w.frozen? ⟨g,i,none⟩=false:=by
 unfold Blk at h;simp[World.frozen?,h]
theorem Blk.new (w:World) (t:TypeId) (cs:Array Value):Blk (w.alloc (.cells cs t)) w.heap.size t cs:=heap_alloc_new w _
theorem Blk.drew (h:Blk w g t cs):Blk w.drew g t cs:=h
theorem Blk.drewN (h:Blk w g t cs) (n:Nat):Blk (w.drewN n) g t cs:=h
theorem Blk.alloc (h:Blk w g t cs) (o:Obj):Blk (w.alloc o) g t cs:=(Below.heap_alloc w o g h.lt).trans h
theorem Blk.set_ (h:Blk w g t cs) (i:Nat) (u:Value):Blk (w.setCell ⟨g,i,none⟩ u) g t (cs.setIfInBounds i u):=by
 unfold Blk at h ⊢;simp[World.setCell,Array.getElem?_modify,h]
theorem Blk.far (h:Blk w g t cs) (hp:g≠p.block) (u:Value):Blk (w.setCell p u) g t cs:=(Below.heap_setCell w p u g hp).trans h
theorem Blk.chg {S:Nat->Prop} (h:Blk w g t cs) (hb:Chg S w w') (hg:¬S g):Blk w' g t cs:=(hb.block g h.lt hg).trans h
theorem Blk.below (h:Blk w g t cs) (hb:Below B w w') (hg:g<B):Blk w' g t cs:=(hb.block g hg).trans h
theorem Blk.below_ (h:Blk w g t cs) (hb:Below w.heap.size w w'):Blk w' g t cs:=h.below hb h.lt
theorem Blk.same (h:Blk w g t cs) (hb:Same w w'):Blk w' g t cs:=by unfold Blk;rw[hb.heap];exact h
theorem Blk.grown {row:Option Nat} (h:Blk w g t cs) (hb:w.grownBy w' row) (hg:some g≠row):Blk w' g t cs:=(hb.block g h.lt hg).trans h
theorem Blk.range (h:Blk w g t cs) {o:Nat} {l:List Value} (hl:∀j v,l[j]?=some v->cs[o+j]?=some v):w.rangeAt g o l:=λj v hv=>(h.cell _).trans (hl j v hv)
end
theorem zkr (w:World) (cs cs':Array Value) (t:TypeId):(w.alloc (.cells cs t)).setRow w.heap.size cs'=w.alloc (.cells cs' t):=by
 have h:((w.heap.push (Obj.cells cs t)).modify w.heap.size fun
  | .cells _ elem frozen=>Obj.cells cs' elem frozen
  | o=>o)=w.heap.push (.cells cs' t):=by
  apply Array.ext
  ·simp
  intro i h1 h2;rw[Array.getElem_modify];by_cases e:w.heap.size=i
  ·subst e;simp
  rw[if_neg e,Array.getElem_push,Array.getElem_push];have:i<w.heap.size:=by simp at h2;omega
  simp[this]
 show World.mk _ _ _ _ _=World.mk _ _ _ _ _;exact congrArg (λH=>World.mk H w.tape w.drawn w.os w.output) h
theorem zji {o:Nat} {cs:List Value} (h:w.rangeAt b o cs) (hb:Below B w w') (hlt:b<B):w'.rangeAt b o cs:=λj v hv=>(hb.cell (p:=⟨b,o+j,none⟩) hlt).trans (h j v hv)
theorem zvj {S:Nat->Prop} {o:Nat} {cs:List Value} (h:w.rangeAt b o cs) (hb:Chg S w w') (hlt:b<w.heap.size) (hs:¬S b):w'.rangeAt b o cs:=λj v hv=>(hb.cell (p:=⟨b,o+j,none⟩) hlt hs).trans (h j v hv)
theorem zs1 {o:Nat} {cs:List Value} (h:w.rangeAt b o cs) (hb:Same w w'):w'.rangeAt b o cs:=λj v hv=>(hb.cell _).trans (h j v hv)
theorem zh0 {o:Nat} {cs l:List Value} (k:Nat) (h:w.rangeAt b o cs) (hl:∀j v,l[j]?=some v->cs[k+j]?=some v):w.rangeAt b (o+k) l:=λj v hv=>by
 have:=h (k+j) v (hl j v hv)
 rwa [<- Nat.add_assoc] at this
def Sl (w:World) (B:Nat) (v:Value) (n:Nat) (xs:List Value):Prop:=
 ∃A cap,v=.slice A n cap/\n<=cap/\n<=maxLen/\(0<n->∃b o,A=some ⟨b,o,none⟩/\b<B/\w.rangeAt b o xs)
theorem Sl.below {xs:List Value} (h:Sl w B v n xs) (hb:Below B w w'):Sl w' B v n xs:=by
 obtain ⟨A,cap,rfl,h1,hm,h2⟩:=h;exact ⟨A,cap,rfl,h1,hm,λhn=>by obtain ⟨b,o,e,hlt,hr⟩:=h2 hn;exact ⟨b,o,e,hlt,zji hr hb hlt⟩⟩
theorem Sl.more {xs:List Value} (h:Sl w B v n xs) (hB:B<=B'):Sl w B' v n xs:=by
 obtain ⟨A,cap,rfl,h1,hm,h2⟩:=h;exact ⟨A,cap,rfl,h1,hm,λhn=>by obtain ⟨b,o,e,hlt,hr⟩:=h2 hn;exact ⟨b,o,e,by omega,hr⟩⟩
theorem Sl.same {xs:List Value} (h:Sl w B v n xs) (hb:Same w w'):Sl w' B v n xs:=by
 obtain ⟨A,cap,rfl,h1,hm,h2⟩:=h;exact ⟨A,cap,rfl,h1,hm,λhn=>by obtain ⟨b,o,e,hlt,hr⟩:=h2 hn;exact ⟨b,o,e,hlt,zs1 hr hb⟩⟩
theorem Sl.chg {S:Nat->Prop} {xs:List Value} (h:Sl w B v n xs) (hb:Chg S w w') (hB:B<=w.heap.size) (hs:∀k,k<B->¬S k):Sl w' B v n xs:=h.below (hb.to_below hB hs)
def Sls {α:Type} (c:α->List Value) (w:World) (B:Nat) (v:Value) (l:List α):Prop:=Sl w B v l.length (l.flatMap c)
theorem zj2 (c:α->List Value) (k:Nat) (hk:∀x,(c x).length=k):∀(l:List α) (i:Nat) (x:α),l[i]?=some x->∀j v,(c x)[j]?=some v->(l.flatMap c)[i*k+j]?=some v
 | [],i,x,h=>by simp at h
 | y::l,0,x,h=>by
  intro j v hj;simp at h;subst h;have:=(List.getElem?_eq_some_iff.1 hj).1;rw[List.flatMap_cons,Nat.zero_mul,Nat.zero_add,List.getElem?_append_left this];exact hj
 | y::l,i+1,x,h=>by
  intro j v hj;simp at h;have ih:=zj2 c k hk l i x h j v hj;rw[List.flatMap_cons,List.getElem?_append_right (by rw[hk,Nat.add_mul];omega),hk];rw[show (i+1)*k+j-k=i*k+j by rw[Nat.add_mul];omega];exact ih
theorem zgy (c:α->List Value) (k:Nat) (hk:∀x,(c x).length=k) (l:List α):(l.flatMap c).length=l.length*k:=by
 induction l with
 | nil=>simp
 | cons x l ih=>rw[List.flatMap_cons,List.length_append,ih,hk,List.length_cons,Nat.add_mul];omega
theorem Sls.get {c:α->List Value} {A:Option Addr} {l:List α} (h:Sls c w B (.slice A n cap) l) (k:Nat) (hk:∀x,(c x).length=k) {x:α} (hi:l[i]?=some x):
 ∃b o,A=some ⟨b,o,none⟩/\b<B/\w.rangeAt b (o+i*k) (c x):=by
 obtain ⟨A',cap',e,h1,hm,h2⟩:=h;have hl:=(List.getElem?_eq_some_iff.1 hi).1;obtain ⟨b,o,eA,hlt,hr⟩:=h2 (by omega);injection e with e1 e2 e3
 exact ⟨b,o,e1.trans eA,hlt,zh0 (i*k) hr (zj2 c k hk l i x hi)⟩
theorem Sls.len {c:α->List Value} {A:Option Addr} {l:List α} (h:Sls c w B (.slice A n cap) l):n=l.length/\n<=cap/\n<=maxLen:=by
 obtain ⟨A',cap',e,h1,hm,h2⟩:=h;injection e with e1 e2 e3
 exact ⟨e2,by omega,by omega⟩
theorem Sls.below {c:α->List Value} {l:List α} (h:Sls c w B v l) (hb:Below B w w'):Sls c w' B v l:=Sl.below h hb
theorem Sls.more {c:α->List Value} {l:List α} (h:Sls c w B v l) (hB:B<=B'):Sls c w B' v l:=Sl.more h hB
theorem Sls.same {c:α->List Value} {l:List α} (h:Sls c w B v l) (hb:Same w w'):Sls c w' B v l:=Sl.same h hb
theorem Sls.nil (c:α->List Value) (w:World) (B:Nat) (A:Option Addr) (cap:Nat):Sls c w B (.slice A 0 cap) []:=⟨A,cap,rfl,by simp,by simp,λh=>by simp at h⟩
theorem Sls.of_own {c:α->List Value} {size:Nat} {l:List α} (h:w.ownsRow base e size v l.length (l.flatMap c)) (hm:l.length<=maxLen):Sls c w w.heap.size v l:=by
 by_cases hn:0<l.length
 ·obtain ⟨g,cap,rfl,_,hlt⟩:=h.form hn;have hc:l.length<=cap:=by
   obtain ⟨_,h2⟩:=h;rcases h2 with ⟨e,_⟩ | ⟨g',cap',cur,e,_,_,hcap,_⟩
   ·injection e with e1 e2 e3;omega
   injection e with e1 e2 e3;omega
  exact ⟨_,cap,rfl,hc,hm,λ_=>⟨g,0,rfl,hlt,λj u hu=>by have:=(h.cells (g:=g) rfl) j u hu;rw[Addr.add_mid] at this;exact this⟩⟩
 have h0:l.length=0:=by omega
 obtain ⟨_,h2⟩:=h;rcases h2 with ⟨e,_⟩ | ⟨g',cap',cur,e,_⟩
 ·exact ⟨none,0,by rw[e,h0],by omega,by omega,λhp=>absurd hp hn⟩
 exact ⟨_,cap',e,by omega,by omega,λhp=>absurd hp hn⟩
abbrev zaa:=List UInt8
structure Ref where
 col:Int
 row:Int
 deriving DecidableEq
structure Rct where
 c1:Int
 r1:Int
 c2:Int
 r2:Int
 deriving DecidableEq
structure Rts where
 rd:Int
 wr:Int
 ow:Int
 deriving DecidableEq
structure Ent where
 at_:Ref
 input:zaa
 deriving DecidableEq
structure Rul where
 rect:Rct
 rights:Rts
 deriving DecidableEq
structure Grt where
 rect:Rct
 fns:Int
 to_:Int
 by_:Int
 revoked:Bool
 deriving DecidableEq
structure Evt where
 step:Int
 user:Int
 kind:Int
 rect:Rct
 done_:Bool
 to_:Int
 deriving DecidableEq
structure Rls where
 step:Int
 at_:Ref
 node:Int
 fn:Int
 rect:Rct
 grant:Int
 to_:Int
 deriving DecidableEq
structure Bok where
 users:Int
 entries:List Ent
 rules:List Rul
 grants:List Grt
 log:List Evt
 releases:List Rls
 step:Int
 deriving DecidableEq
structure Opr where
 kind:Int
 user:Int
 rect:Rct
 input:zaa
 rights:Rts
 fns:Int
 to_:Int
 index:Int
 deriving DecidableEq
structure Scp where
 book:Bok
 ops:List Opr
 deriving DecidableEq
def dig (n:Nat):UInt8:=.ofNat (48+n % 10)
def zrt:Nat->zaa
 | n=>if _h:n<10 then [dig n] else zrt (n / 10)++ [dig n]
termination_by n=>n
decreasing_by omega
def zpn:Nat->zaa
 | 0=>[]
 | n+1=>zpn (n / 26)++ [.ofNat (65+n % 26)]
termination_by n=>n
decreasing_by omega
def za6 (c r:Int):Bool:=decide (1<=c)&&decide (c<=1024)&&decide (1<=r)&&decide (r<=1024)
def rctB (x:Rct):Bool:=za6 x.c1 x.r1&&za6 x.c2 x.r2&&decide (x.c1<=x.c2)&&decide (x.r1<=x.r2)
def zh3 (a b:Ref):Bool:=decide (a.row<b.row)||decide (a.row=b.row)&&decide (a.col<b.col)
def take (n:Int):zaa->Int × zaa
 | []=>(0,[])
 | c::t=>((c.toNat:Int) % n,t)
def spot (s:zaa):Ref × zaa:=(⟨1+(take 3 s).1,1+(take 4 (take 3 s).2).1⟩,(take 4 (take 3 s).2).2)
def field (s:zaa):Rct × zaa:=
 let a:=spot s
 let x:=take 2 a.2
 let y:=take 3 x.2
 (⟨a.1.col,a.1.row,a.1.col+x.1,a.1.row+y.1⟩,y.2)
def zh9 (users:Nat) (s:zaa):Int × zaa:=take (2 ^ users) s
def zj5 (users:Nat) (s:zaa):Rts × zaa:=
 let a:=zh9 users s
 let b:=zh9 users a.2
 let c:=zh9 users b.2
 (⟨a.1,b.1,c.1⟩,c.2)
theorem zlq (n:Int) (hn:0<n) (s:zaa):0<=(take n s).1/\(take n s).1<n:=by
 cases s with
 | nil=>simp[take];omega
 | cons c t=>exact ⟨Int.emod_nonneg _ (by omega),Int.emod_lt_of_pos _ hn⟩
theorem chain2 (a b:Prop):(a/\b)\/¬a\/(a/\¬b):=by
 by_cases a <;> by_cases b <;> simp_all
theorem zxd (a b c d:Prop):(a/\b/\c/\d)\/¬a\/(a/\¬b)\/(a/\b/\¬c)\/(a/\b/\c/\¬d):=by
 by_cases a <;> by_cases b <;> by_cases c <;> by_cases d <;> simp_all
theorem zdf (a b:zaa):(⟨a.toArray⟩:ByteArray)++⟨b.toArray⟩=⟨(a++b).toArray⟩:=by
 apply ByteArray.ext;simp
theorem z2n {a b:Int} (h:a=b):Ending.returned (.int k a)=.returned (.int k b):=by rw[h]
abbrev str (l:zaa):Value:=.string ⟨l.toArray⟩
abbrev cRct (x:Rct):List Value:=[.int .i64 x.c1,.int .i64 x.r1,.int .i64 x.c2,.int .i64 x.r2]
def cEnt (x:Ent):List Value:=[.int .i64 x.at_.col,.int .i64 x.at_.row,str x.input]
def cRul (x:Rul):List Value:=[.int .i64 x.rect.c1,.int .i64 x.rect.r1,.int .i64 x.rect.c2,.int .i64 x.rect.r2,.int .u64 x.rights.rd,.int .u64 x.rights.wr,.int .u64 x.rights.ow]
def cGrt (x:Grt):List Value:=[.int .i64 x.rect.c1,.int .i64 x.rect.r1,.int .i64 x.rect.c2,.int .i64 x.rect.r2,.int .u8 x.fns,.int .u64 x.to_,.int .i64 x.by_,.bool x.revoked]
def cEvt (x:Evt):List Value:=[.int .i64 x.step,.int .i64 x.user,.int .u8 x.kind,.int .i64 x.rect.c1,.int .i64 x.rect.r1,.int .i64 x.rect.c2,.int .i64 x.rect.r2,.bool x.done_,.int .u64 x.to_]
def cRls (x:Rls):List Value:=[.int .i64 x.step,.int .i64 x.at_.col,.int .i64 x.at_.row,.int .i64 x.node,.int .u8 x.fn,.int .i64 x.rect.c1,.int .i64 x.rect.r1,.int .i64 x.rect.c2,.int .i64 x.rect.r2,.int .i64 x.grant,.int .u64 x.to_]
def cOpr (x:Opr):List Value:=[.int .u8 x.kind,.int .i64 x.user,.int .i64 x.rect.c1,.int .i64 x.rect.r1,.int .i64 x.rect.c2,.int .i64 x.rect.r2,str x.input,.int .u64 x.rights.rd,.int .u64 x.rights.wr,.int .u64 x.rights.ow,.int .u8 x.fns,.int .u64 x.to_,.int .i64 x.index]
theorem zct (x:Ent):(cEnt x).length=3:=rfl
theorem z3a (x y:Ent) (w:World):(binOp .neq 58 (.agg (cEnt x).toArray) (.agg (cEnt y).toArray)).run prog w=.ok (.bool (!decide (x=y))) w:=by
 obtain ⟨⟨a,b⟩,s⟩:=x;obtain ⟨⟨a',b'⟩,s'⟩:=y;simp[go_sem,cEnt];by_cases q0:a=a'
 ·by_cases q1:b=b'
  ·by_cases q2:s=s'
   ·simp[q0,q1,q2]
   simp[q0,q1,q2]
  simp[q0,q1]
 simp[q0]
theorem zdr (x:Rul):(cRul x).length=7:=rfl
theorem z25 (x y:Rul) (w:World):(binOp .neq 79 (.agg (cRul x).toArray) (.agg (cRul y).toArray)).run prog w=.ok (.bool (!decide (x=y))) w:=by
 obtain ⟨⟨a,b,c,d⟩,⟨e,f,g⟩⟩:=x;obtain ⟨⟨a',b',c',d'⟩,⟨e',f',g'⟩⟩:=y;simp[go_sem,cRul];by_cases q0:a=a'
 ·by_cases q1:b=b'
  ·by_cases q2:c=c'
   ·by_cases q3:d=d'
    ·by_cases q4:e=e'
     ·by_cases q5:f=f'
      ·by_cases q6:g=g'
       ·simp[q0,q1,q2,q3,q4,q5,q6]
       simp[q0,q1,q2,q3,q4,q5,q6]
      simp[q0,q1,q2,q3,q4,q5]
     simp[q0,q1,q2,q3,q4]
    simp[q0,q1,q2,q3]
   simp[q0,q1,q2]
  simp[q0,q1]
 simp[q0]
theorem zex (x:Grt):(cGrt x).length=8:=rfl
theorem z28 (x y:Grt) (w:World):(binOp .neq 85 (.agg (cGrt x).toArray) (.agg (cGrt y).toArray)).run prog w=.ok (.bool (!decide (x=y))) w:=by
 obtain ⟨⟨a,b,c,d⟩,e,f,g,h⟩:=x;obtain ⟨⟨a',b',c',d'⟩,e',f',g',h'⟩:=y;simp[go_sem,cGrt];by_cases q0:a=a'
 ·by_cases q1:b=b'
  ·by_cases q2:c=c'
   ·by_cases q3:d=d'
    ·by_cases q4:e=e'
     ·by_cases q5:f=f'
      ·by_cases q6:g=g'
       ·by_cases q7:h=h'
        ·simp[q0,q1,q2,q3,q4,q5,q6,q7]
        simp[q0,q1,q2,q3,q4,q5,q6,q7]
       simp[q0,q1,q2,q3,q4,q5,q6]
      simp[q0,q1,q2,q3,q4,q5]
     simp[q0,q1,q2,q3,q4]
    simp[q0,q1,q2,q3]
   simp[q0,q1,q2]
  simp[q0,q1]
 simp[q0]
theorem zdt (x:Evt):(cEvt x).length=9:=rfl
theorem z29 (x y:Evt) (w:World):(binOp .neq 110 (.agg (cEvt x).toArray) (.agg (cEvt y).toArray)).run prog w=.ok (.bool (!decide (x=y))) w:=by
 obtain ⟨a,b,c,⟨d,e,f,g⟩,h,i⟩:=x;obtain ⟨a',b',c',⟨d',e',f',g'⟩,h',i'⟩:=y;simp[go_sem,cEvt];by_cases q0:a=a';rotate_left
 ·simp[q0]
 by_cases q1:b=b'
 ·by_cases q2:c=c'
  ·by_cases q3:d=d'
   ·by_cases q4:e=e'
    ·by_cases q5:f=f'
     ·by_cases q6:g=g'
      ·by_cases q7:h=h'
       ·by_cases q8:i=i'
        ·simp[q0,q1,q2,q3,q4,q5,q6,q7,q8]
        simp[q0,q1,q2,q3,q4,q5,q6,q7,q8]
       simp[q0,q1,q2,q3,q4,q5,q6,q7]
      simp[q0,q1,q2,q3,q4,q5,q6]
     simp[q0,q1,q2,q3,q4,q5]
    simp[q0,q1,q2,q3,q4]
   simp[q0,q1,q2,q3]
  simp[q0,q1,q2]
 simp[q0,q1]
theorem zds (x:Rls):(cRls x).length=11:=rfl
theorem z26 (x y:Rls) (w:World):(binOp .neq 116 (.agg (cRls x).toArray) (.agg (cRls y).toArray)).run prog w=.ok (.bool (!decide (x=y))) w:=by
 obtain ⟨a,⟨b,c⟩,d,e,⟨f,g,h,i⟩,j,k⟩:=x;obtain ⟨a',⟨b',c'⟩,d',e',⟨f',g',h',i'⟩,j',k'⟩:=y;simp[go_sem,cRls];by_cases q0:a=a';rotate_left
 ·simp[q0]
 by_cases q1:b=b';rotate_left
 ·simp[q0,q1]
 by_cases q2:c=c';rotate_left
 ·simp[q0,q1,q2]
 by_cases q3:d=d'
 ·by_cases q4:e=e'
  ·by_cases q5:f=f'
   ·by_cases q6:g=g'
    ·by_cases q7:h=h'
     ·by_cases q8:i=i'
      ·by_cases q9:j=j'
       ·by_cases q10:k=k'
        ·simp[q0,q1,q2,q3,q4,q5,q6,q7,q8,q9,q10]
        simp[q0,q1,q2,q3,q4,q5,q6,q7,q8,q9,q10]
       simp[q0,q1,q2,q3,q4,q5,q6,q7,q8,q9]
      simp[q0,q1,q2,q3,q4,q5,q6,q7,q8]
     simp[q0,q1,q2,q3,q4,q5,q6,q7]
    simp[q0,q1,q2,q3,q4,q5,q6]
   simp[q0,q1,q2,q3,q4,q5]
  simp[q0,q1,q2,q3,q4]
 simp[q0,q1,q2,q3]
theorem zgo (x:Opr):(cOpr x).length=13:=rfl
theorem z27 (x y:Opr) (w:World):(binOp .neq 48 (.agg (cOpr x).toArray) (.agg (cOpr y).toArray)).run prog w=.ok (.bool (!decide (x=y))) w:=by
 obtain ⟨a,b,⟨c,d,e,f⟩,s,⟨g,h,i⟩,j,k,m⟩:=x;obtain ⟨a',b',⟨c',d',e',f'⟩,s',⟨g',h',i'⟩,j',k',m'⟩:=y;simp[go_sem,cOpr];by_cases q0:a=a';rotate_left
 ·simp[q0]
 by_cases q1:b=b';rotate_left
 ·simp[q0,q1]
 by_cases q2:c=c';rotate_left
 ·simp[q0,q1,q2]
 by_cases q3:d=d';rotate_left
 ·simp[q0,q1,q2,q3]
 by_cases q4:e=e';rotate_left
 ·simp[q0,q1,q2,q3,q4]
 by_cases q5:f=f'
 ·by_cases q6:s=s'
  ·by_cases q7:g=g'
   ·by_cases q8:h=h'
    ·by_cases q9:i=i'
     ·by_cases q10:j=j'
      ·by_cases q11:k=k'
       ·by_cases q12:m=m'
        ·simp[q0,q1,q2,q3,q4,q5,q6,q7,q8,q9,q10,q11,q12]
        simp[q0,q1,q2,q3,q4,q5,q6,q7,q8,q9,q10,q11,q12]
       simp[q0,q1,q2,q3,q4,q5,q6,q7,q8,q9,q10,q11]
      simp[q0,q1,q2,q3,q4,q5,q6,q7,q8,q9,q10]
     simp[q0,q1,q2,q3,q4,q5,q6,q7,q8,q9]
    simp[q0,q1,q2,q3,q4,q5,q6,q7,q8]
   simp[q0,q1,q2,q3,q4,q5,q6,q7]
  simp[q0,q1,q2,q3,q4,q5,q6]
 simp[q0,q1,q2,q3,q4,q5]
instance (a b:Nat):CoeDep (Nat × Nat) (a,b) Addr:=⟨⟨a,b,none⟩⟩
instance (a:World) (b:Nat):CoeDep (World × Nat) (a,b) Addr:=⟨⟨a.heap.size,b,none⟩⟩
instance (a:World):CoeDep World a Nat:=⟨a.heap.size⟩
theorem _root_.Go.RowKit.Hid.o {p:Prop} (h:Hid p):p:=h.out
theorem jM (p:Prop) (h:p):Hid p:=Lib.hid h
theorem jN {α:Sort _} (a:α):∃q,a=q:=⟨_,rfl⟩
abbrev ja:=@if_neg
abbrev jb:=@if_pos
abbrev jc:=@Below.setCell
abbrev jd:=@Below.next
abbrev je:=@Blk.new
abbrev jf:=@Below.drewN_
abbrev jg:=@Below.refl
abbrev jh:=@List.append_nil
abbrev ji:=@Bool.and_eq_true
abbrev jj:=@List.getElem_mem
abbrev jk:=@List.length_cons
abbrev jl:=@Option.some.injEq
abbrev jm:=@List.drop_eq_nil_of_le
abbrev jo:=@List.drop_eq_getElem_cons
abbrev jp:=@List.length_drop
abbrev jr:=@List.take_succ_cons
abbrev js:=@List.eq_nil_of_length_eq_zero
abbrev jt:=@List.take_length
abbrev ju:=@RowKit.Hid.out
theorem jw (k:Nat):(0:Int)<=(k:Int):=Int.natCast_nonneg k
abbrev jx:=@Nat.le_trans
theorem jy:n<=n:=Nat.le_refl n
abbrev jz:=@List.getElem?_eq_getElem
abbrev jA:=@decide_eq_false
abbrev jB:=@decide_eq_true
abbrev jC:=@List.take_succ_eq_append_getElem
abbrev jD:=@bodyPost_ret
abbrev jE:=@List.getElem?_eq_some_iff
abbrev jF:=@Nat.le_of_lt
abbrev jG:=@Nat.lt_of_lt_of_le
abbrev jH:=@List.length_append
abbrev jI:=@beq_eq_false_iff_ne
abbrev jJ:=@List.append_assoc
abbrev jK:=@List.take_of_length_le
abbrev jL:=@List.getD_eq_getElem?_getD
theorem Blk.c2 {cs:Array Value} (h:Blk w g t cs) (i j:Nat):w.cell? ⟨g,i,none⟩=cs[i]?/\w.cell? ⟨g,j,none⟩=cs[j]?:=⟨h.cell i,h.cell j⟩
theorem Blk.c3 {cs:Array Value} (h:Blk w g t cs) (i j k:Nat):w.cell? ⟨g,i,none⟩=cs[i]?/\w.cell? ⟨g,j,none⟩=cs[j]?/\w.cell? ⟨g,k,none⟩=cs[k]?:=⟨h.cell i,h.cell j,h.cell k⟩
theorem Blk.c4 {cs:Array Value} (h:Blk w g t cs) (i j k l:Nat):w.cell? ⟨g,i,none⟩=cs[i]?/\w.cell? ⟨g,j,none⟩=cs[j]?/\w.cell? ⟨g,k,none⟩=cs[k]?/\w.cell? ⟨g,l,none⟩=cs[l]?:=⟨h.cell i,h.cell j,h.cell k,h.cell l⟩
theorem Blk.c5 {cs:Array Value} (h:Blk w g t cs) (i j k l m:Nat):w.cell? ⟨g,i,none⟩=cs[i]?/\w.cell? ⟨g,j,none⟩=cs[j]?/\w.cell? ⟨g,k,none⟩=cs[k]?/\w.cell? ⟨g,l,none⟩=cs[l]?/\w.cell? ⟨g,m,none⟩=cs[m]?:=⟨h.cell i,h.cell j,h.cell k,h.cell l,h.cell m⟩
theorem Blk.c6 {cs:Array Value} (h:Blk w g t cs) (i j k l m n:Nat):w.cell? ⟨g,i,none⟩=cs[i]?/\w.cell? ⟨g,j,none⟩=cs[j]?/\w.cell? ⟨g,k,none⟩=cs[k]?/\w.cell? ⟨g,l,none⟩=cs[l]?/\w.cell? ⟨g,m,none⟩=cs[m]?/\w.cell? ⟨g,n,none⟩=cs[n]?:=⟨h.cell i,h.cell j,h.cell k,h.cell l,h.cell m,h.cell n⟩
theorem rEnt {o:Nat} {x:Ent} (r:w.rangeAt b o (cEnt x)):w.cell? ⟨b,o,none⟩=some (.int .i64 x.at_.col)/\w.cell? ⟨b,o+1,none⟩=some (.int .i64 x.at_.row)/\w.cell? ⟨b,o+2,none⟩=some (str x.input):=⟨r 0 _ rfl,r 1 _ rfl,r 2 _ rfl⟩
theorem rRul {o:Nat} {x:Rul} (r:w.rangeAt b o (cRul x)):w.cell? ⟨b,o,none⟩=some (.int .i64 x.rect.c1)/\w.cell? ⟨b,o+1,none⟩=some (.int .i64 x.rect.r1)/\w.cell? ⟨b,o+2,none⟩=some (.int .i64 x.rect.c2)/\w.cell? ⟨b,o+3,none⟩=some (.int .i64 x.rect.r2)/\w.cell? ⟨b,o+4,none⟩=some (.int .u64 x.rights.rd)/\w.cell? ⟨b,o+5,none⟩=some (.int .u64 x.rights.wr)/\w.cell? ⟨b,o+6,none⟩=some (.int .u64 x.rights.ow):=⟨r 0 _ rfl,r 1 _ rfl,r 2 _ rfl,r 3 _ rfl,r 4 _ rfl,r 5 _ rfl,r 6 _ rfl⟩
theorem rGrt {o:Nat} {x:Grt} (r:w.rangeAt b o (cGrt x)):w.cell? ⟨b,o,none⟩=some (.int .i64 x.rect.c1)/\w.cell? ⟨b,o+1,none⟩=some (.int .i64 x.rect.r1)/\w.cell? ⟨b,o+2,none⟩=some (.int .i64 x.rect.c2)/\w.cell? ⟨b,o+3,none⟩=some (.int .i64 x.rect.r2)/\w.cell? ⟨b,o+4,none⟩=some (.int .u8 x.fns)/\w.cell? ⟨b,o+5,none⟩=some (.int .u64 x.to_)/\w.cell? ⟨b,o+6,none⟩=some (.int .i64 x.by_)/\w.cell? ⟨b,o+7,none⟩=some (.bool x.revoked):=⟨r 0 _ rfl,r 1 _ rfl,r 2 _ rfl,r 3 _ rfl,r 4 _ rfl,r 5 _ rfl,r 6 _ rfl,r 7 _ rfl⟩
theorem rEvt {o:Nat} {x:Evt} (r:w.rangeAt b o (cEvt x)):w.cell? ⟨b,o,none⟩=some (.int .i64 x.step)/\w.cell? ⟨b,o+1,none⟩=some (.int .i64 x.user)/\w.cell? ⟨b,o+2,none⟩=some (.int .u8 x.kind)/\w.cell? ⟨b,o+3,none⟩=some (.int .i64 x.rect.c1)/\w.cell? ⟨b,o+4,none⟩=some (.int .i64 x.rect.r1)/\w.cell? ⟨b,o+5,none⟩=some (.int .i64 x.rect.c2)/\w.cell? ⟨b,o+6,none⟩=some (.int .i64 x.rect.r2)/\w.cell? ⟨b,o+7,none⟩=some (.bool x.done_)/\w.cell? ⟨b,o+8,none⟩=some (.int .u64 x.to_):=⟨r 0 _ rfl,r 1 _ rfl,r 2 _ rfl,r 3 _ rfl,r 4 _ rfl,r 5 _ rfl,r 6 _ rfl,r 7 _ rfl,r 8 _ rfl⟩
theorem rRls {o:Nat} {x:Rls} (r:w.rangeAt b o (cRls x)):w.cell? ⟨b,o,none⟩=some (.int .i64 x.step)/\w.cell? ⟨b,o+1,none⟩=some (.int .i64 x.at_.col)/\w.cell? ⟨b,o+2,none⟩=some (.int .i64 x.at_.row)/\w.cell? ⟨b,o+3,none⟩=some (.int .i64 x.node)/\w.cell? ⟨b,o+4,none⟩=some (.int .u8 x.fn)/\w.cell? ⟨b,o+5,none⟩=some (.int .i64 x.rect.c1)/\w.cell? ⟨b,o+6,none⟩=some (.int .i64 x.rect.r1)/\w.cell? ⟨b,o+7,none⟩=some (.int .i64 x.rect.c2)/\w.cell? ⟨b,o+8,none⟩=some (.int .i64 x.rect.r2)/\w.cell? ⟨b,o+9,none⟩=some (.int .i64 x.grant)/\w.cell? ⟨b,o+10,none⟩=some (.int .u64 x.to_):=⟨r 0 _ rfl,r 1 _ rfl,r 2 _ rfl,r 3 _ rfl,r 4 _ rfl,r 5 _ rfl,r 6 _ rfl,r 7 _ rfl,r 8 _ rfl,r 9 _ rfl,r 10 _ rfl⟩
theorem rOpr {o:Nat} {x:Opr} (r:w.rangeAt b o (cOpr x)):w.cell? ⟨b,o,none⟩=some (.int .u8 x.kind)/\w.cell? ⟨b,o+1,none⟩=some (.int .i64 x.user)/\w.cell? ⟨b,o+2,none⟩=some (.int .i64 x.rect.c1)/\w.cell? ⟨b,o+3,none⟩=some (.int .i64 x.rect.r1)/\w.cell? ⟨b,o+4,none⟩=some (.int .i64 x.rect.c2)/\w.cell? ⟨b,o+5,none⟩=some (.int .i64 x.rect.r2)/\w.cell? ⟨b,o+6,none⟩=some (str x.input)/\w.cell? ⟨b,o+7,none⟩=some (.int .u64 x.rights.rd)/\w.cell? ⟨b,o+8,none⟩=some (.int .u64 x.rights.wr)/\w.cell? ⟨b,o+9,none⟩=some (.int .u64 x.rights.ow)/\w.cell? ⟨b,o+10,none⟩=some (.int .u8 x.fns)/\w.cell? ⟨b,o+11,none⟩=some (.int .u64 x.to_)/\w.cell? ⟨b,o+12,none⟩=some (.int .i64 x.index):=⟨r 0 _ rfl,r 1 _ rfl,r 2 _ rfl,r 3 _ rfl,r 4 _ rfl,r 5 _ rfl,r 6 _ rfl,r 7 _ rfl,r 8 _ rfl,r 9 _ rfl,r 10 _ rfl,r 11 _ rfl,r 12 _ rfl⟩
def jQ (rs:Array ResultVar) (tmps:Array Value):Sem Value:=do
 let vs <- rs.mapM fun
  | .tmp t=>pure (tmps.getD t undef)
  | .cell a t=>do loadVar t (<- asAddr (tmps.getD a undef))
 pure (if h:vs.size=1 then vs[0] else .tuple vs)
theorem jO {fn:Func} {rs:Array ResultVar} {R:Ending->World->Prop} {a:Act} (h:fn.results=rs) (hR:R (.returned v) w)
 (hv:(jQ rs a.tmps).run P w=.ok v w:=by simp (maxDischargeDepth:=9) [jQ,go_sem]) (hd:a.defers=[]:=by rfl):bodyPost P fn R .ret a w:=
 bodyPost_ret (by subst h;exact hv) hd hR
theorem jS {c:Prop} {_:Decidable c} {α:Sort _} {a b:α} (h:¬c:=by omega):(if c then a else b)=b:=if_neg h
theorem jT {c:Prop} {_:Decidable c} {α:Sort _} {a b:α} (h:c:=by omega):(if c then a else b)=a:=if_pos h
def u8s (l:zaa):List Value:=l.map λb=>.int .u8 b.toNat
theorem zt9 (l:zaa):(u8s l).length=l.length:=by simp[u8s]
theorem zo3 (a b:zaa):u8s (a++b)=u8s a++u8s b:=by simp[u8s]
theorem z1r (l:zaa):∀u∈u8s l,u.oneCell'=true:=by
 intro u hu;simp only[u8s,List.mem_map] at hu;obtain ⟨b,_,rfl⟩:=hu;rfl
def Out (w:World) (v:Value) (l:zaa):Prop:=w.ownsRow 0 5 1 v l.length (u8s l)
theorem Out.nil (w:World):Out w (.slice none 0 0) []:=World.ownsRow_nil w 0 _ 1
theorem Out.lt {l:zaa} (h:Out w v l) (k:Nat) (hk:v.ownBlock=some k):k<w.heap.size:=(World.ownsRow.lt h k hk).2
theorem Out.alloc {l:zaa} (h:Out w v l) (o:Obj):Out (w.alloc o) v l:=World.ownsRow.alloc h o
theorem Out.drew {l:zaa} (h:Out w v l):Out w.drew v l:=h
theorem Out.drewN {l:zaa} (h:Out w v l) (n:Nat):Out (w.drewN n) v l:=h
theorem Out.below {l:zaa} (h:Out w v l) (hb:Below w w w'):Out w' v l:=by
 refine World.ownsRow.kept (row:=none) h ⟨hb.os,hb.tape,hb.output,hb.size,λk hk _=>hb.block k hk⟩ ?_;rcases hv:v.ownBlock with _ | k
 ·exact .inl rfl
 exact .inr (by simp)
theorem Out.far {l:zaa} (h:Out w v l) (hp:v.ownBlock≠some p.block) (u:Value):Out (w.setCell p u) v l:=by
 refine World.ownsRow.kept (row:=some p.block) h ⟨rfl,rfl,rfl,by simp[World.setCell],λk _ hk=>Below.heap_setCell _ _ _ _ (λe=>hk (by rw[e]))⟩ (.inr hp)
structure OutTo (w:World) (v:Value) (w':World) (v':Value):Prop where
 chg:Chg (λk=>v.ownBlock=some k) w w'
 own:∀k,v'.ownBlock=some k->v.ownBlock=some k\/w.heap.size<=k
theorem OutTo.refl (w:World) (v:Value):OutTo w v w v:=⟨Chg.refl _ _,λ_ h=>.inl h⟩
theorem OutTo.trans (h:OutTo w v w1 v1) (k:OutTo w1 v1 w2 v2):OutTo w v w2 v2:=by
 refine ⟨⟨k.chg.os.trans h.chg.os,k.chg.tape.trans h.chg.tape,k.chg.output.trans h.chg.output,jx h.chg.size k.chg.size,λi hi hs=>?_⟩,λi hi=>?_⟩
 ·refine (k.chg.block i (jG hi h.chg.size) λe=>?_).trans (h.chg.block i hi hs);rcases h.own i e with e | e
  ·exact hs e
  omega
 rcases k.own i hi with e | e
 ·exact h.own i e
 exact .inr (jx h.chg.size e)
theorem OutTo.below (h:OutTo w v w1 v1) (k:Below w1 w1 w2):OutTo w v w2 v1:=⟨h.chg.below k,h.own⟩
theorem OutTo.alloc (h:OutTo w v w1 v1) (o:Obj):OutTo w v (w1.alloc o) v1:=⟨h.chg.alloc o,h.own⟩
theorem OutTo.drew (h:OutTo w v w1 v1):OutTo w v w1.drew v1:=⟨h.chg.drew,h.own⟩
theorem OutTo.drewN (h:OutTo w v w1 v1) (n:Nat):OutTo w v (w1.drewN n) v1:=⟨h.chg.drewN n,h.own⟩
theorem OutTo.cell (h:OutTo w v w' v') (hp:p.block<w.heap.size) (hs:v.ownBlock≠some p.block):w'.cell? p=w.cell? p:=h.chg.cell hp hs
theorem OutTo.frozen (h:OutTo w v w' v') (hp:p.block<w.heap.size) (hs:v.ownBlock≠some p.block):w'.frozen? p=w.frozen? p:=h.chg.frozen hp hs
theorem OutTo.ne (h:OutTo w v w' v') (hg:g<w.heap.size) (hv:v.ownBlock≠some g):v'.ownBlock≠some g:=λe=>by
 rcases h.own g e with e | e
 ·exact hv e
 omega
theorem Blk.outTo {cs:Array Value} (h:Blk w g t cs) (ho:OutTo w v w' v') (hg:v.ownBlock≠some g):Blk w' g t cs:=h.chg ho.chg hg
theorem OutTo.old (h:OutTo w v w' v') (hB:B<=w.heap.size) (hv:∀k,v.ownBlock=some k->B<=k):Below B w w':=h.chg.to_below hB λk hk e=>by have:=hv k e;omega
theorem OutTo.newer (h:OutTo w v w' v') (hB:B<=w.heap.size) (hv:∀k,v.ownBlock=some k->B<=k):∀k,v'.ownBlock=some k->B<=k:=λk e=>by
 rcases h.own k e with e | e
 ·exact hv k e
 omega
section
variable {P:Program} {w:World}
theorem zqk (t ty:TypeId) (i:TypeInfo) (ht:P.underlying t=some (.slice 5)) (hi:P.info? 5=some i) (hz:i.zero=some (.int .u8 0)) (hsize:i.size=1) (hby:i.bytes=1)
 (v:Value) (l:zaa) (hown:Out w v l) (g:Nat) (b:Int) (hb0:0<=b) (hb1:b<256) (hc:w.cell? ⟨g,0,none⟩=some (.int .u8 b)) (hl:l.length<=1000000000000):
 ∃v' w',(Builtin.append_ #[t,t] ty #[v,.slice (some ⟨g,0,none⟩) 1 1]).run P w=.ok v' w'/\Out w' v' (l++ [UInt8.ofNat b.toNat])/\OutTo w v w' v':=by
 obtain ⟨v',w',hr,h2,h3,_,h5⟩:=run_append_own_at (P:=P) w 0 t ty 5 i (.int .u8 0) 1 1 ht hi hz hsize hby rfl (by omega) v l.length (u8s l) hown (g,0) 1 1 [.int .u8 b] rfl
  (λj u hj=>by
    match j,hj with
    | 0,hj=>simp at hj;subst hj;exact hc)
  (λu hu=>by simp at hu;subst hu;rfl) (by unfold maxLen;omega) (by omega) (by omega)
 refine ⟨v',w',hr,?_,⟨⟨h3.os,h3.tape,h3.output,h3.size,λk hk hs=>h3.block k hk (λe=>hs e.symm)⟩,λk hk=>?_⟩⟩
 ·have e:u8s (l++ [UInt8.ofNat b.toNat])=u8s l++ [.int .u8 b]:=by
   rw[zo3];have e2:((UInt8.ofNat b.toNat).toNat:Int)=b:=by rw[UInt8.toNat_ofNat'];omega
   show u8s l++ [Value.int .u8 ((UInt8.ofNat b.toNat).toNat:Int)]=_;rw[e2]
  show w'.ownsRow 0 5 1 v' (l++ [UInt8.ofNat b.toNat]).length _;rw[e,jH];exact h2
 rcases h5 with h5 | h5
 ·exact .inl (h5▸hk)
 rw[h5] at hk;exact .inr (by simp at hk;omega)
theorem zbu {ops:Array Oper} {rest:List Oper} {o:Oper} {a:Act} {Q:Exit->Act->World->Prop} (hgd:o.guard=none) (s x:Operand) (t:TypeId)
 (ho:o.op=.call { callee:=.builtin .append,args:=#[s,x],argTypes:=#[t,t] })
 (i:TypeInfo) (ht:P.underlying t=some (.slice 5)) (hi:P.info? 5=some i) (hz:i.zero=some (.int .u8 0)) (hsize:i.size=1) (hby:i.bytes=1)
 (v:Value) (l:zaa) (hs:a.eval s=v) (hown:Out w v l) (g:Nat) (b:Int) (hx:a.eval x=.slice (some ⟨g,0,none⟩) 1 1) (hb0:0<=b) (hb1:b<256) (hc:w.cell? ⟨g,0,none⟩=some (.int .u8 b)) (hl:l.length<=1000000000000)
 (h:∀v' w',Out w' v' (l++ [UInt8.ofNat b.toNat])->OutTo w v w' v'->wpList P ops Q rest (a.put o.dst v') w'):wpList P ops Q (o::rest) a w:=by
 obtain ⟨v',w',hrun,h2,h3⟩:=zqk (P:=P) t o.type i ht hi hz hsize hby v l hown g b hb0 hb1 hc hl;refine wpList_plain hgd λK hK=>?_;unfold Oper.wp execOp;simp only[ho,resolve,invoke,builtin,Sem.run_bind,Sem.run_pure,Result.andThen_ok,List.map_toArray,List.map_cons,List.map_nil,hs,hx,hrun];exact hK _ _ (h v' w' h2 h3)
theorem zna (s:zaa):Lib.strCells ⟨s.toArray⟩=u8s s:=by simp[Lib.strCells,u8s]
theorem zae (s:zaa):(⟨s.toArray⟩:ByteArray).size=s.length:=by show s.toArray.size=_;simp
theorem znd (t u ty:TypeId) (i:TypeInfo) (ht:P.underlying t=some (.slice 5)) (hu:P.underlying u=some .string) (hi:P.info? 5=some i) (hz:i.zero=some (.int .u8 0)) (hsize:i.size=1) (hby:i.bytes=1)
 (v:Value) (l s:zaa) (hown:Out w v l) (hl:l.length<=1000000000000) (hl2:s.length<=1000000000000):
 ∃v' w',(Builtin.append_ #[t,u] ty #[v,str s]).run P w=.ok v' w'/\Out w' v' (l++s)/\OutTo w v w' v':=by
 have hss:=zae s;obtain ⟨v',w',hr,h2,h3,_⟩:=Lib.run_append_own_string (P:=P) w 0 t u ty 5 i ht hu hi hz hsize hby v l.length (u8s l) hown ⟨s.toArray⟩ (by rw[hss];unfold maxLen;omega) (by rw[hss];omega) (by omega);refine ⟨v',w',hr,?_,⟨⟨h3.os,h3.tape,h3.output,h3.size,λk hk hs=>h3.block k hk (λe=>hs e.symm)⟩,λk hk=>?_⟩⟩
 ·rw[zna,hss] at h2;show w'.ownsRow 0 5 1 v' (l++s).length _;rw[zo3,jH];exact h2
 have hown':=hown;rcases hown'.2 with ⟨rfl,he⟩ | ⟨g,cap,cur,rfl,_,hg,hnc,hcm,hcs,htake⟩
 ·have hown0:w.ownsRow w.heap.size 5 1 (.slice none 0 0) l.length (u8s l):=⟨hown.1,.inl ⟨rfl,he⟩⟩;obtain ⟨v2,w2,hr2,k2,k3,_⟩:=Lib.run_append_own_string (P:=P) w w.heap.size t u ty 5 i ht hu hi hz hsize hby (.slice none 0 0) l.length (u8s l) hown0 ⟨s.toArray⟩ (by rw[hss];unfold maxLen;omega) (by rw[hss];omega) (by omega);rw[hr] at hr2;obtain ⟨rfl,rfl⟩:v'=v2/\w'=w2:=by injection hr2 with e1 e2;exact ⟨e1,e2⟩
  exact .inr (k2.lt k hk).1
 by_cases hroom:l.length+s.length<=cap
 ·have hr2:=Lib.run_append_room_string (P:=P) w t u ty 5 i ht hu hi hsize g l.length cap cur hg ⟨s.toArray⟩ (by rw[hss];exact hroom) (by rw[hss];simpa [hcs] using hroom);rw[hr] at hr2;obtain ⟨rfl,rfl⟩:v'=_/\w'=_:=by injection hr2 with e1 e2;exact ⟨e1,e2⟩
  exact .inl hk
 have hcl:∀j u,(u8s l)[j]?=some u->w.cell? (((g,0):Addr).add j)=some u:=World.ownsRow.cells hown (g:=g) rfl;have hr2:=Lib.run_append_grow_string (P:=P) w t u ty 5 i (.int .u8 0) ht hu hi hz (g,0) l.length cap (u8s l) (by rw[hsize,zt9];simp) hcl ⟨s.toArray⟩ (by rw[hss];omega) (by rw[hss];omega) (by rw[hby,hss];exact growslice_fits (by omega) (by omega));rw[hr] at hr2;obtain ⟨rfl,rfl⟩:v'=_/\w'=_:=by injection hr2 with e1 e2;exact ⟨e1,e2⟩
 exact .inr (by simp[Value.ownBlock] at hk;omega)
theorem zfv {ops:Array Oper} {rest:List Oper} {o:Oper} {a:Act} {Q:Exit->Act->World->Prop} (hgd:o.guard=none) (sl x:Operand) (t u:TypeId)
 (ho:o.op=.call { callee:=.builtin .append,args:=#[sl,x],argTypes:=#[t,u] })
 (i:TypeInfo) (ht:P.underlying t=some (.slice 5)) (hu:P.underlying u=some .string) (hi:P.info? 5=some i) (hz:i.zero=some (.int .u8 0)) (hsize:i.size=1) (hby:i.bytes=1)
 (v:Value) (l s:zaa) (hs:a.eval sl=v) (hown:Out w v l) (hx:a.eval x=str s) (hl:l.length<=1000000000000) (hl2:s.length<=1000000000000)
 (h:∀v' w',Out w' v' (l++s)->OutTo w v w' v'->wpList P ops Q rest (a.put o.dst v') w'):wpList P ops Q (o::rest) a w:=by
 obtain ⟨v',w',hrun,h2,h3⟩:=znd (P:=P) t u o.type i ht hu hi hz hsize hby v l s hown hl hl2;refine wpList_plain hgd λK hK=>?_;unfold Oper.wp execOp;simp only[ho,resolve,invoke,builtin,Sem.run_bind,Sem.run_pure,Result.andThen_ok,List.map_toArray,List.map_cons,List.map_nil,hs,hx,hrun];exact hK _ _ (h v' w' h2 h3)
end
end Go.Proofs.YtamcgggmfghljaaGreatDoor
