/- Words for memory: what a call changes, blocks, rows of cells, slices that read as lists. N -/
import Derived.WalkKit
import Derived.WalkSpells
import Derived.WalkLawsBesides
import Derived.Handy
import Derived.Lib.Hide
import Derived.Deep.MidRow
import Derived.Deep.AppendLies
import Derived.Below
import Derived.Test.YtamcgggmfghljaaGreatDoorProg
import Derived.Laws.StructEq
set_option maxRecDepth 100000
set_option maxHeartbeats 8000000
open Go.Proofs.Tryz
namespace Go.Proofs.YtamcgggmfghljaaGreatDoor
open Go.RowKit
structure Chg (S:Nat→Prop) (w w':World):Prop where
 os:w'.os=w.os
 tape:w'.tape=w.tape
 output:w'.output=w.output
 size:w.heap.size≤w'.heap.size
 block:∀k,k<w.heap.size→¬S k→w'.heap[k]?=w.heap[k]?
theorem Chg.refl (S:Nat→Prop) (w:World):Chg S w w:=⟨rfl,rfl,rfl,Nat.le_refl _,fun _ _ _=>rfl⟩
theorem Chg.trans {S:Nat→Prop} {a b c:World} (h:Chg S a b) (k:Chg S b c):Chg S a c:=
 ⟨k.os.trans h.os,k.tape.trans h.tape,k.output.trans h.output,Nat.le_trans h.size k.size,fun i hi hs=>(k.block i (Nat.lt_of_lt_of_le hi h.size) hs).trans (h.block i hi hs)⟩
theorem Chg.mono {S T:Nat→Prop} {a b:World} (h:Chg S a b) (hs:∀k,k<a.heap.size→S k→T k):Chg T a b:=⟨h.os,h.tape,h.output,h.size,fun i hi ht=>h.block i hi fun s=>ht (hs i hi s)⟩
theorem Chg.drew {S:Nat→Prop} {a w:World} (h:Chg S a w):Chg S a w.drew:=⟨h.os,h.tape,h.output,h.size,h.block⟩
theorem Chg.drewN {S:Nat→Prop} {a w:World} (h:Chg S a w) (n:Nat):Chg S a (w.drewN n):=⟨h.os,h.tape,h.output,h.size,h.block⟩
theorem Chg.alloc {S:Nat→Prop} {a w:World} (h:Chg S a w) (o:Obj):Chg S a (w.alloc o):=
 h.trans ⟨rfl,rfl,rfl,by simp,fun k hk _=>Below.heap_alloc _ _ _ hk⟩
theorem Chg.setCell {S:Nat→Prop} {a w:World} (h:Chg S a w) {p:Addr} (hp:S p.block∨a.heap.size≤p.block) (u:Value):Chg S a (w.setCell p u):=
 ⟨h.os,h.tape,h.output,by have:=h.size;simpa [World.setCell] using this,fun k hk hs=>(Below.heap_setCell _ _ _ _ (by rintro rfl;exact hp.elim hs (fun h=>by omega))).trans (h.block k hk hs)⟩
theorem Chg.grown {S:Nat→Prop} {a w w':World} {row:Option Nat} (h:Chg S a w) (hg:w.grownBy w' row) (hr:∀k,row=some k→S k∨a.heap.size≤k):Chg S a w':=
 ⟨hg.os.trans h.os,hg.tape.trans h.tape,hg.output.trans h.output,Nat.le_trans h.size hg.size,fun k hk hs=>(hg.block k (Nat.lt_of_lt_of_le hk h.size) (fun e=>(hr k e.symm).elim hs (fun h=>by omega))).trans (h.block k hk hs)⟩
theorem Chg.of_below {B:Nat} {w w':World} (h:Below B w w') (S:Nat→Prop) (hB:∀k,k<w.heap.size→¬S k→k<B):Chg S w w':=⟨h.os,h.tape,h.output,h.size,fun k hk hs=>h.block k (hB k hk hs)⟩
theorem Chg.below {S:Nat→Prop} {w0 w w':World} (h:Chg S w0 w) (hb:Below w.heap.size w w'):Chg S w0 w':=
 ⟨hb.os.trans h.os,hb.tape.trans h.tape,hb.output.trans h.output,Nat.le_trans h.size hb.size,fun k hk hs=>(hb.block k (Nat.lt_of_lt_of_le hk h.size)).trans (h.block k hk hs)⟩
theorem Chg.to_below {S:Nat→Prop} {B:Nat} {w w':World} (h:Chg S w w') (hB:B≤w.heap.size) (hs:∀k,k<B→¬S k):Below B w w':=⟨h.os,h.tape,h.output,h.size,fun k hk=>h.block k (by omega) (hs k hk)⟩
theorem Chg.cell {S:Nat→Prop} {w w':World} (h:Chg S w w') {p:Addr} (hp:p.block<w.heap.size) (hs:¬S p.block):w'.cell? p=w.cell? p:=World.cell?_of_block (w:=w) (h.block p.block hp hs)
theorem Chg.frozen {S:Nat→Prop} {w w':World} (h:Chg S w w') {p:Addr} (hp:p.block<w.heap.size) (hs:¬S p.block):w'.frozen? p=w.frozen? p:=World.frozen?_of_block (w:=w) (h.block p.block hp hs)
structure Same (w w':World):Prop where
 heap:w'.heap=w.heap
 os:w'.os=w.os
 tape:w'.tape=w.tape
 output:w'.output=w.output
theorem Same.refl (w:World):Same w w:=⟨rfl,rfl,rfl,rfl⟩
theorem Same.trans {a b c:World} (h:Same a b) (k:Same b c):Same a c:=⟨k.heap.trans h.heap,k.os.trans h.os,k.tape.trans h.tape,k.output.trans h.output⟩
theorem Same.drew {w w':World} (h:Same w w'):Same w w'.drew:=⟨h.heap,h.os,h.tape,h.output⟩
theorem Same.drewN {w w':World} (h:Same w w') (n:Nat):Same w (w'.drewN n):=⟨h.heap,h.os,h.tape,h.output⟩
theorem Same.cell {w w':World} (h:Same w w') (a:Addr):w'.cell? a=w.cell? a:=by unfold World.cell?;rw [h.heap]
theorem Same.below {w w':World} (h:Same w w') (B:Nat):Below B w w':=⟨h.os,h.tape,h.output,by rw [h.heap];exact Nat.le_refl _,fun k _=>by rw [h.heap]⟩
theorem Below.drewN_ {B:Nat} {a w:World} (h:Below B a w) (n:Nat):Below B a (w.drewN n):=⟨h.os,h.tape,h.output,h.size,h.block⟩
theorem Below.next {B:Nat} {a b c:World} (h:Below B a b) (k:Below b.heap.size b c) (hB:B≤b.heap.size):Below B a c:=h.trans (k.mono hB)
theorem Below.next_ {a b c:World} (h:Below a.heap.size a b) (k:Below b.heap.size b c):Below a.heap.size a c:=h.trans (k.mono h.size)
def Blk (w:World) (g:Nat) (t:TypeId) (cs:Array Value):Prop:=w.heap[g]?=some (.cells cs t (0,0))
section
variable {w w':World} {g:Nat} {t:TypeId} {cs:Array Value}
theorem Blk.lt (h:Blk w g t cs):g<w.heap.size:=by
 rcases Nat.lt_or_ge g w.heap.size with hlt | hge
 ·exact hlt
 unfold Blk at h;rw [Array.getElem?_eq_none hge] at h;cases h
theorem Blk.cell (h:Blk w g t cs) (i:Nat):w.cell? ⟨g,i,none⟩=cs[i]?:=cell_of_row w g i cs t (0,0) h
theorem Blk.frozen (h:Blk w g t cs) (i:Nat):w.frozen? ⟨g,i,none⟩=false:=by
 unfold Blk at h
 simp [World.frozen?,h]
theorem Blk.new (w:World) (t:TypeId) (cs:Array Value):Blk (w.alloc (.cells cs t)) w.heap.size t cs:=heap_alloc_new w _
theorem Blk.drew (h:Blk w g t cs):Blk w.drew g t cs:=h
theorem Blk.drewN (h:Blk w g t cs) (n:Nat):Blk (w.drewN n) g t cs:=h
theorem Blk.alloc (h:Blk w g t cs) (o:Obj):Blk (w.alloc o) g t cs:=(Below.heap_alloc w o g h.lt).trans h
theorem Blk.set_ (h:Blk w g t cs) (i:Nat) (u:Value):Blk (w.setCell ⟨g,i,none⟩ u) g t (cs.setIfInBounds i u):=by
 unfold Blk at h ⊢
 simp [World.setCell,Array.getElem?_modify,h]
theorem Blk.far (h:Blk w g t cs) {p:Addr} (hp:g≠p.block) (u:Value):Blk (w.setCell p u) g t cs:=(Below.heap_setCell w p u g hp).trans h
theorem Blk.chg {S:Nat→Prop} (h:Blk w g t cs) (hb:Chg S w w') (hg:¬S g):Blk w' g t cs:=(hb.block g h.lt hg).trans h
theorem Blk.below {B:Nat} (h:Blk w g t cs) (hb:Below B w w') (hg:g<B):Blk w' g t cs:=(hb.block g hg).trans h
theorem Blk.below_ (h:Blk w g t cs) (hb:Below w.heap.size w w'):Blk w' g t cs:=h.below hb h.lt
theorem Blk.same (h:Blk w g t cs) (hb:Same w w'):Blk w' g t cs:=by unfold Blk;rw [hb.heap];exact h
theorem Blk.grown {row:Option Nat} (h:Blk w g t cs) (hb:w.grownBy w' row) (hg:some g≠row):Blk w' g t cs:=(hb.block g h.lt hg).trans h
theorem Blk.range (h:Blk w g t cs) {o:Nat} {l:List Value} (hl:∀j v,l[j]?=some v→cs[o+j]?=some v):w.rangeAt g o l:=fun j v hv=>(h.cell _).trans (hl j v hv)
end
theorem zil (w:World) (cs cs':Array Value) (t:TypeId):(w.alloc (.cells cs t)).setRow w.heap.size cs'=w.alloc (.cells cs' t):=by
 have h:((w.heap.push (Obj.cells cs t)).modify w.heap.size fun
  | .cells _ elem frozen=>Obj.cells cs' elem frozen
  | o=>o)=w.heap.push (.cells cs' t):=by
  apply Array.ext
  ·simp
  intro i h1 h2
  rw [Array.getElem_modify]
  by_cases e:w.heap.size=i
  ·subst e;simp
  rw [if_neg e,Array.getElem_push,Array.getElem_push]
  have:i<w.heap.size:=by simp at h2;omega
  simp [this]
 show World.mk _ _ _ _ _=World.mk _ _ _ _ _
 exact congrArg (fun H=>World.mk H w.tape w.drawn w.os w.output) h
theorem zhh {w w':World} {B b o:Nat} {cs:List Value} (h:w.rangeAt b o cs) (hb:Below B w w') (hlt:b<B):w'.rangeAt b o cs:=fun j v hv=>(hb.cell (p:=⟨b,o+j,none⟩) hlt).trans (h j v hv)
theorem zrc {S:Nat→Prop} {w w':World} {b o:Nat} {cs:List Value} (h:w.rangeAt b o cs) (hb:Chg S w w') (hlt:b<w.heap.size) (hs:¬S b):w'.rangeAt b o cs:=fun j v hv=>(hb.cell (p:=⟨b,o+j,none⟩) hlt hs).trans (h j v hv)
theorem zpc {w w':World} {b o:Nat} {cs:List Value} (h:w.rangeAt b o cs) (hb:Same w w'):w'.rangeAt b o cs:=fun j v hv=>(hb.cell _).trans (h j v hv)
theorem zf7 {w:World} {b o:Nat} {cs l:List Value} (k:Nat) (h:w.rangeAt b o cs) (hl:∀j v,l[j]?=some v→cs[k+j]?=some v):w.rangeAt b (o+k) l:=fun j v hv=>by
 have:=h (k+j) v (hl j v hv)
 rwa [← Nat.add_assoc] at this
def Sl (w:World) (B:Nat) (v:Value) (n:Nat) (xs:List Value):Prop:=
 ∃A cap,v=.slice A n cap∧n≤cap∧n≤maxLen∧(0<n→∃b o,A=some ⟨b,o,none⟩∧b<B∧w.rangeAt b o xs)
theorem Sl.below {w w':World} {B:Nat} {v:Value} {n:Nat} {xs:List Value} (h:Sl w B v n xs) (hb:Below B w w'):Sl w' B v n xs:=by
 obtain ⟨A,cap,rfl,h1,hm,h2⟩:=h
 exact ⟨A,cap,rfl,h1,hm,fun hn=>by obtain ⟨b,o,e,hlt,hr⟩:=h2 hn;exact ⟨b,o,e,hlt,zhh hr hb hlt⟩⟩
theorem Sl.more {w:World} {B B':Nat} {v:Value} {n:Nat} {xs:List Value} (h:Sl w B v n xs) (hB:B≤B'):Sl w B' v n xs:=by
 obtain ⟨A,cap,rfl,h1,hm,h2⟩:=h
 exact ⟨A,cap,rfl,h1,hm,fun hn=>by obtain ⟨b,o,e,hlt,hr⟩:=h2 hn;exact ⟨b,o,e,by omega,hr⟩⟩
theorem Sl.same {w w':World} {B:Nat} {v:Value} {n:Nat} {xs:List Value} (h:Sl w B v n xs) (hb:Same w w'):Sl w' B v n xs:=by
 obtain ⟨A,cap,rfl,h1,hm,h2⟩:=h
 exact ⟨A,cap,rfl,h1,hm,fun hn=>by obtain ⟨b,o,e,hlt,hr⟩:=h2 hn;exact ⟨b,o,e,hlt,zpc hr hb⟩⟩
theorem Sl.chg {S:Nat→Prop} {w w':World} {B:Nat} {v:Value} {n:Nat} {xs:List Value} (h:Sl w B v n xs) (hb:Chg S w w') (hB:B≤w.heap.size) (hs:∀k,k<B→¬S k):Sl w' B v n xs:=h.below (hb.to_below hB hs)
def Sls {α:Type} (c:α→List Value) (w:World) (B:Nat) (v:Value) (l:List α):Prop:=Sl w B v l.length (l.flatMap c)
theorem zhy {α:Type} (c:α→List Value) (k:Nat) (hk:∀x,(c x).length=k):∀(l:List α) (i:Nat) (x:α),l[i]?=some x→∀j v,(c x)[j]?=some v→(l.flatMap c)[i*k+j]?=some v
 | [],i,x,h=>by simp at h
 | y::l,0,x,h=>by
  intro j v hj
  simp at h;subst h
  have:=(List.getElem?_eq_some_iff.1 hj).1
  rw [List.flatMap_cons,Nat.zero_mul,Nat.zero_add,List.getElem?_append_left this]
  exact hj
 | y::l,i+1,x,h=>by
  intro j v hj
  simp at h
  have ih:=zhy c k hk l i x h j v hj
  rw [List.flatMap_cons,List.getElem?_append_right (by rw [hk,Nat.add_mul];omega),hk]
  rw [show (i+1)*k+j-k=i*k+j by rw [Nat.add_mul];omega]
  exact ih
theorem zd4 {α:Type} (c:α→List Value) (k:Nat) (hk:∀x,(c x).length=k) (l:List α):(l.flatMap c).length=l.length*k:=by
 induction l with
 | nil=>simp
 | cons x l ih=>rw [List.flatMap_cons,List.length_append,ih,hk,List.length_cons,Nat.add_mul];omega
theorem Sls.get {α:Type} {c:α→List Value} {w:World} {B:Nat} {A:Option Addr} {n cap:Nat} {l:List α} (h:Sls c w B (.slice A n cap) l) (k:Nat) (hk:∀x,(c x).length=k) {i:Nat} {x:α} (hi:l[i]?=some x):
 ∃b o,A=some ⟨b,o,none⟩∧b<B∧w.rangeAt b (o+i*k) (c x):=by
 obtain ⟨A',cap',e,h1,hm,h2⟩:=h
 have hl:=(List.getElem?_eq_some_iff.1 hi).1
 obtain ⟨b,o,eA,hlt,hr⟩:=h2 (by omega)
 injection e with e1 e2 e3
 exact ⟨b,o,e1.trans eA,hlt,zf7 (i*k) hr (zhy c k hk l i x hi)⟩
theorem Sls.len {α:Type} {c:α→List Value} {w:World} {B:Nat} {A:Option Addr} {n cap:Nat} {l:List α} (h:Sls c w B (.slice A n cap) l):n=l.length∧n≤cap∧n≤maxLen:=by
 obtain ⟨A',cap',e,h1,hm,h2⟩:=h
 injection e with e1 e2 e3
 exact ⟨e2,by omega,by omega⟩
theorem Sls.below {α:Type} {c:α→List Value} {w w':World} {B:Nat} {v:Value} {l:List α} (h:Sls c w B v l) (hb:Below B w w'):Sls c w' B v l:=Sl.below h hb
theorem Sls.more {α:Type} {c:α→List Value} {w:World} {B B':Nat} {v:Value} {l:List α} (h:Sls c w B v l) (hB:B≤B'):Sls c w B' v l:=Sl.more h hB
theorem Sls.same {α:Type} {c:α→List Value} {w w':World} {B:Nat} {v:Value} {l:List α} (h:Sls c w B v l) (hb:Same w w'):Sls c w' B v l:=Sl.same h hb
theorem Sls.nil {α:Type} (c:α→List Value) (w:World) (B:Nat) (A:Option Addr) (cap:Nat):Sls c w B (.slice A 0 cap) []:=⟨A,cap,rfl,by simp,by simp,fun h=>by simp at h⟩
theorem Sls.of_own {α:Type} {c:α→List Value} {w:World} {base:Nat} {e:TypeId} {size:Nat} {v:Value} {l:List α} (h:w.ownsRow base e size v l.length (l.flatMap c)) (hm:l.length≤maxLen):Sls c w w.heap.size v l:=by
 by_cases hn:0<l.length
 ·obtain ⟨g,cap,rfl,_,hlt⟩:=h.form hn
  have hc:l.length≤cap:=by
   obtain ⟨_,h2⟩:=h
   rcases h2 with ⟨e,_⟩ | ⟨g',cap',cur,e,_,_,hcap,_⟩
   ·injection e with e1 e2 e3;omega
   injection e with e1 e2 e3;omega
  exact ⟨_,cap,rfl,hc,hm,fun _=>⟨g,0,rfl,hlt,fun j u hu=>by have:=(h.cells (g:=g) rfl) j u hu;rw [Addr.add_mid] at this;exact this⟩⟩
 have h0:l.length=0:=by omega
 obtain ⟨_,h2⟩:=h
 rcases h2 with ⟨e,_⟩ | ⟨g',cap',cur,e,_⟩
 ·exact ⟨none,0,by rw [e,h0],by omega,by omega,fun hp=>absurd hp hn⟩
 exact ⟨_,cap',e,by omega,by omega,fun hp=>absurd hp hn⟩
abbrev zaa:=List UInt8
structure Ref where
 col:Int
 row:Int
 deriving DecidableEq
structure Rct where
 c1:Int
 r1:Int
 c2:Int
 r2:Int
 deriving DecidableEq
structure Rts where
 rd:Int
 wr:Int
 ow:Int
 deriving DecidableEq
structure Ent where
 at_:Ref
 input:zaa
 deriving DecidableEq
structure Rul where
 rect:Rct
 rights:Rts
 deriving DecidableEq
structure Grt where
 rect:Rct
 fns:Int
 to_:Int
 by_:Int
 revoked:Bool
 deriving DecidableEq
structure Evt where
 step:Int
 user:Int
 kind:Int
 rect:Rct
 done_:Bool
 to_:Int
 deriving DecidableEq
structure Rls where
 step:Int
 at_:Ref
 node:Int
 fn:Int
 rect:Rct
 grant:Int
 to_:Int
 deriving DecidableEq
structure Bok where
 users:Int
 entries:List Ent
 rules:List Rul
 grants:List Grt
 log:List Evt
 releases:List Rls
 step:Int
 deriving DecidableEq
structure Opr where
 kind:Int
 user:Int
 rect:Rct
 input:zaa
 rights:Rts
 fns:Int
 to_:Int
 index:Int
 deriving DecidableEq
structure Scp where
 book:Bok
 ops:List Opr
 deriving DecidableEq
def dig (n:Nat):UInt8:=.ofNat (48+n % 10)
def zoc:Nat→zaa
 | n=>if _h:n<10 then [dig n] else zoc (n / 10)++ [dig n]
termination_by n=>n
decreasing_by omega
def zmk:Nat→zaa
 | 0=>[]
 | n+1=>zmk (n / 26)++ [.ofNat (65+n % 26)]
termination_by n=>n
decreasing_by omega
def za1 (c r:Int):Bool:=decide (1≤c)&&decide (c≤1024)&&decide (1≤r)&&decide (r≤1024)
def rctB (x:Rct):Bool:=za1 x.c1 x.r1&&za1 x.c2 x.r2&&decide (x.c1≤x.c2)&&decide (x.r1≤x.r2)
def zgb (a b:Ref):Bool:=decide (a.row<b.row)||decide (a.row=b.row)&&decide (a.col<b.col)
def take (n:Int):zaa→Int × zaa
 | []=>(0,[])
 | c::t=>((c.toNat:Int) % n,t)
def spot (s:zaa):Ref × zaa:=(⟨1+(take 3 s).1,1+(take 4 (take 3 s).2).1⟩,(take 4 (take 3 s).2).2)
def field (s:zaa):Rct × zaa:=
 let a:=spot s
 let x:=take 2 a.2
 let y:=take 3 x.2
 (⟨a.1.col,a.1.row,a.1.col+x.1,a.1.row+y.1⟩,y.2)
def zgg (users:Nat) (s:zaa):Int × zaa:=take (2 ^ users) s
def zh1 (users:Nat) (s:zaa):Rts × zaa:=
 let a:=zgg users s
 let b:=zgg users a.2
 let c:=zgg users b.2
 (⟨a.1,b.1,c.1⟩,c.2)
theorem zjf (n:Int) (hn:0<n) (s:zaa):0≤(take n s).1∧(take n s).1<n:=by
 cases s with
 | nil=>simp [take];omega
 | cons c t=>exact ⟨Int.emod_nonneg _ (by omega),Int.emod_lt_of_pos _ hn⟩
theorem chain2 (a b:Prop):(a∧b)∨¬a∨(a∧¬b):=by
 by_cases a <;> by_cases b <;> simp_all
theorem zs1 (a b c d:Prop):(a∧b∧c∧d)∨¬a∨(a∧¬b)∨(a∧b∧¬c)∨(a∧b∧c∧¬d):=by
 by_cases a <;> by_cases b <;> by_cases c <;> by_cases d <;> simp_all
theorem zcx (a b:zaa):(⟨a.toArray⟩:ByteArray)++⟨b.toArray⟩=⟨(a++b).toArray⟩:=by
 apply ByteArray.ext
 simp
theorem zx8 {k:IntKind} {a b:Int} (h:a=b):Ending.returned (.int k a)=.returned (.int k b):=by rw [h]
abbrev str (l:zaa):Value:=.string ⟨l.toArray⟩
abbrev cRct (x:Rct):List Value:=[.int .i64 x.c1,.int .i64 x.r1,.int .i64 x.c2,.int .i64 x.r2]
def cEnt (x:Ent):List Value:=[.int .i64 x.at_.col,.int .i64 x.at_.row,str x.input]
def cRul (x:Rul):List Value:=[.int .i64 x.rect.c1,.int .i64 x.rect.r1,.int .i64 x.rect.c2,.int .i64 x.rect.r2,.int .u64 x.rights.rd,.int .u64 x.rights.wr,.int .u64 x.rights.ow]
def cGrt (x:Grt):List Value:=[.int .i64 x.rect.c1,.int .i64 x.rect.r1,.int .i64 x.rect.c2,.int .i64 x.rect.r2,.int .u8 x.fns,.int .u64 x.to_,.int .i64 x.by_,.bool x.revoked]
def cEvt (x:Evt):List Value:=[.int .i64 x.step,.int .i64 x.user,.int .u8 x.kind,.int .i64 x.rect.c1,.int .i64 x.rect.r1,.int .i64 x.rect.c2,.int .i64 x.rect.r2,.bool x.done_,.int .u64 x.to_]
def cRls (x:Rls):List Value:=[.int .i64 x.step,.int .i64 x.at_.col,.int .i64 x.at_.row,.int .i64 x.node,.int .u8 x.fn,.int .i64 x.rect.c1,.int .i64 x.rect.r1,.int .i64 x.rect.c2,.int .i64 x.rect.r2,.int .i64 x.grant,.int .u64 x.to_]
def cOpr (x:Opr):List Value:=[.int .u8 x.kind,.int .i64 x.user,.int .i64 x.rect.c1,.int .i64 x.rect.r1,.int .i64 x.rect.c2,.int .i64 x.rect.r2,str x.input,.int .u64 x.rights.rd,.int .u64 x.rights.wr,.int .u64 x.rights.ow,.int .u8 x.fns,.int .u64 x.to_,.int .i64 x.index]
theorem zbw (x:Ent):(cEnt x).length=3:=rfl
theorem zyu (x y:Ent) (w:World):(binOp .neq 58 (.agg (cEnt x).toArray) (.agg (cEnt y).toArray)).run prog w=.ok (.bool (!decide (x=y))) w:=by
 obtain ⟨⟨a,b⟩,s⟩:=x
 obtain ⟨⟨a',b'⟩,s'⟩:=y
 simp [go_sem,cEnt]
 by_cases q0:a=a'
 ·by_cases q1:b=b'
  ·by_cases q2:s=s'
   ·simp [q0,q1,q2]
   simp [q0,q1,q2]
  simp [q0,q1]
 simp [q0]
theorem zcu (x:Rul):(cRul x).length=7:=rfl
theorem zyp (x y:Rul) (w:World):(binOp .neq 79 (.agg (cRul x).toArray) (.agg (cRul y).toArray)).run prog w=.ok (.bool (!decide (x=y))) w:=by
 obtain ⟨⟨a,b,c,d⟩,⟨e,f,g⟩⟩:=x
 obtain ⟨⟨a',b',c',d'⟩,⟨e',f',g'⟩⟩:=y
 simp [go_sem,cRul]
 by_cases q0:a=a'
 ·by_cases q1:b=b'
  ·by_cases q2:c=c'
   ·by_cases q3:d=d'
    ·by_cases q4:e=e'
     ·by_cases q5:f=f'
      ·by_cases q6:g=g'
       ·simp [q0,q1,q2,q3,q4,q5,q6]
       simp [q0,q1,q2,q3,q4,q5,q6]
      simp [q0,q1,q2,q3,q4,q5]
     simp [q0,q1,q2,q3,q4]
    simp [q0,q1,q2,q3]
   simp [q0,q1,q2]
  simp [q0,q1]
 simp [q0]
theorem zdm (x:Grt):(cGrt x).length=8:=rfl
theorem zys (x y:Grt) (w:World):(binOp .neq 85 (.agg (cGrt x).toArray) (.agg (cGrt y).toArray)).run prog w=.ok (.bool (!decide (x=y))) w:=by
 obtain ⟨⟨a,b,c,d⟩,e,f,g,h⟩:=x
 obtain ⟨⟨a',b',c',d'⟩,e',f',g',h'⟩:=y
 simp [go_sem,cGrt]
 by_cases q0:a=a'
 ·by_cases q1:b=b'
  ·by_cases q2:c=c'
   ·by_cases q3:d=d'
    ·by_cases q4:e=e'
     ·by_cases q5:f=f'
      ·by_cases q6:g=g'
       ·by_cases q7:h=h'
        ·simp [q0,q1,q2,q3,q4,q5,q6,q7]
        simp [q0,q1,q2,q3,q4,q5,q6,q7]
       simp [q0,q1,q2,q3,q4,q5,q6]
      simp [q0,q1,q2,q3,q4,q5]
     simp [q0,q1,q2,q3,q4]
    simp [q0,q1,q2,q3]
   simp [q0,q1,q2]
  simp [q0,q1]
 simp [q0]
theorem zcw (x:Evt):(cEvt x).length=9:=rfl
theorem zyt (x y:Evt) (w:World):(binOp .neq 110 (.agg (cEvt x).toArray) (.agg (cEvt y).toArray)).run prog w=.ok (.bool (!decide (x=y))) w:=by
 obtain ⟨a,b,c,⟨d,e,f,g⟩,h,i⟩:=x
 obtain ⟨a',b',c',⟨d',e',f',g'⟩,h',i'⟩:=y
 simp [go_sem,cEvt]
 by_cases q0:a=a'
 rotate_left
 ·simp [q0]
 by_cases q1:b=b'
 ·by_cases q2:c=c'
  ·by_cases q3:d=d'
   ·by_cases q4:e=e'
    ·by_cases q5:f=f'
     ·by_cases q6:g=g'
      ·by_cases q7:h=h'
       ·by_cases q8:i=i'
        ·simp [q0,q1,q2,q3,q4,q5,q6,q7,q8]
        simp [q0,q1,q2,q3,q4,q5,q6,q7,q8]
       simp [q0,q1,q2,q3,q4,q5,q6,q7]
      simp [q0,q1,q2,q3,q4,q5,q6]
     simp [q0,q1,q2,q3,q4,q5]
    simp [q0,q1,q2,q3,q4]
   simp [q0,q1,q2,q3]
  simp [q0,q1,q2]
 simp [q0,q1]
theorem zcv (x:Rls):(cRls x).length=11:=rfl
theorem zyq (x y:Rls) (w:World):(binOp .neq 116 (.agg (cRls x).toArray) (.agg (cRls y).toArray)).run prog w=.ok (.bool (!decide (x=y))) w:=by
 obtain ⟨a,⟨b,c⟩,d,e,⟨f,g,h,i⟩,j,k⟩:=x
 obtain ⟨a',⟨b',c'⟩,d',e',⟨f',g',h',i'⟩,j',k'⟩:=y
 simp [go_sem,cRls]
 by_cases q0:a=a'
 rotate_left
 ·simp [q0]
 by_cases q1:b=b'
 rotate_left
 ·simp [q0,q1]
 by_cases q2:c=c'
 rotate_left
 ·simp [q0,q1,q2]
 by_cases q3:d=d'
 ·by_cases q4:e=e'
  ·by_cases q5:f=f'
   ·by_cases q6:g=g'
    ·by_cases q7:h=h'
     ·by_cases q8:i=i'
      ·by_cases q9:j=j'
       ·by_cases q10:k=k'
        ·simp [q0,q1,q2,q3,q4,q5,q6,q7,q8,q9,q10]
        simp [q0,q1,q2,q3,q4,q5,q6,q7,q8,q9,q10]
       simp [q0,q1,q2,q3,q4,q5,q6,q7,q8,q9]
      simp [q0,q1,q2,q3,q4,q5,q6,q7,q8]
     simp [q0,q1,q2,q3,q4,q5,q6,q7]
    simp [q0,q1,q2,q3,q4,q5,q6]
   simp [q0,q1,q2,q3,q4,q5]
  simp [q0,q1,q2,q3,q4]
 simp [q0,q1,q2,q3]
theorem zdl (x:Opr):(cOpr x).length=13:=rfl
theorem zyr (x y:Opr) (w:World):(binOp .neq 48 (.agg (cOpr x).toArray) (.agg (cOpr y).toArray)).run prog w=.ok (.bool (!decide (x=y))) w:=by
 obtain ⟨a,b,⟨c,d,e,f⟩,s,⟨g,h,i⟩,j,k,m⟩:=x
 obtain ⟨a',b',⟨c',d',e',f'⟩,s',⟨g',h',i'⟩,j',k',m'⟩:=y
 simp [go_sem,cOpr]
 by_cases q0:a=a'
 rotate_left
 ·simp [q0]
 by_cases q1:b=b'
 rotate_left
 ·simp [q0,q1]
 by_cases q2:c=c'
 rotate_left
 ·simp [q0,q1,q2]
 by_cases q3:d=d'
 rotate_left
 ·simp [q0,q1,q2,q3]
 by_cases q4:e=e'
 rotate_left
 ·simp [q0,q1,q2,q3,q4]
 by_cases q5:f=f'
 ·by_cases q6:s=s'
  ·by_cases q7:g=g'
   ·by_cases q8:h=h'
    ·by_cases q9:i=i'
     ·by_cases q10:j=j'
      ·by_cases q11:k=k'
       ·by_cases q12:m=m'
        ·simp [q0,q1,q2,q3,q4,q5,q6,q7,q8,q9,q10,q11,q12]
        simp [q0,q1,q2,q3,q4,q5,q6,q7,q8,q9,q10,q11,q12]
       simp [q0,q1,q2,q3,q4,q5,q6,q7,q8,q9,q10,q11]
      simp [q0,q1,q2,q3,q4,q5,q6,q7,q8,q9,q10]
     simp [q0,q1,q2,q3,q4,q5,q6,q7,q8,q9]
    simp [q0,q1,q2,q3,q4,q5,q6,q7,q8]
   simp [q0,q1,q2,q3,q4,q5,q6,q7]
  simp [q0,q1,q2,q3,q4,q5,q6]
 simp [q0,q1,q2,q3,q4,q5]
end Go.Proofs.YtamcgggmfghljaaGreatDoor
