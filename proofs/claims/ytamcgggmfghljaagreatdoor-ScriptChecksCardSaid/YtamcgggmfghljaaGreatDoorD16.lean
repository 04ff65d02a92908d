/- Layer 5 (program): errors' names; a value checked. -/
import Derived.Deep.Cut
import Derived.Test.YtamcgggmfghljaaGreatDoorD15
set_option maxRecDepth 100000
set_option maxHeartbeats 8000000
open Go.Proofs.Tryz
namespace Go.Proofs.YtamcgggmfghljaaGreatDoor
open Go.RowKit
theorem zsq (n:Int) (w:World) (h1:1≤n) (h7:n≤7):
 Calls prog 218 #[.int .i64 n] w fun u w'=>u=.returned (.agg #[.int .u8 4,.int .i64 n,str []])∧Below w.heap.size w w':=by
 go_enter func218,ntmps218
 go_wp2
 refine bodyPost_ret (v:=.agg #[.int .u8 4,.int .i64 n,str []]) (by simp (maxDischargeDepth:=9) [results,results218,go_sem]) rfl ?_
 exact ⟨rfl,by go_grown⟩
theorem zqi (n:Int) (w:World) (h1:1≤n) (h6:n≤6):
 Calls prog 270 #[.agg #[.int .u8 4,.int .i64 n,str []]] w fun u w'=>u=.returned (.int .i64 0)∧Below w.heap.size w w':=by
 go_enter func270,ntmps270
 go_wp2
 go_ret
 exact ⟨rfl,by go_grown⟩
theorem zxg (n:Int) (w:World) (h0:0≤n):
 Calls prog 270 #[.agg #[.int .u8 1,.int .i64 n,str []]] w fun u w'=>u=.returned (.int .i64 0)∧Below w.heap.size w w':=by
 have hn:(n != -9223372036854775808)=true:=by simp only [bne_iff_ne,ne_eq];omega
 go_enter func270,ntmps270
 go_wp2
 go_ret
 exact ⟨rfl,by go_grown⟩
theorem ztq (n:Int) (w:World) (h:n=0∨n=1):
 Calls prog 270 #[.agg #[.int .u8 2,.int .i64 n,str []]] w fun u w'=>u=.returned (.int .i64 0)∧Below w.heap.size w w':=by
 rcases h with rfl | rfl
 ·skip
  go_enter func270,ntmps270
  go_wp2
  go_ret
  exact ⟨rfl,by go_grown⟩
 skip
 go_enter func270,ntmps270
 go_wp2
 go_ret
 exact ⟨rfl,by go_grown⟩
theorem zto {w:World} (h:Words w) (n:Nat) (s:zaa) (hs:zg3[n]?=some s):w.cell? ⟨0,n,none⟩=some (str s):=h.1 n s hs
theorem zt4 (n:Nat) (s:zaa) (w:World) (h1:1≤n) (h5:n≤5) (hs:zg3[n]?=some s) (hw:Words w):
 Calls prog 281 #[.agg #[.int .u8 4,.int .i64 n,str []]] w fun u w'=>u=.returned (str s)∧Below w.heap.size w w':=by
 have HW:=Hd hw
 have hne:((n:Int)==7)=false:=by simp only [beq_eq_false_iff_ne,ne_eq];omega
 have he:∀W,(binOp .eql 189 (.agg #[.int .u8 4,.int .i64 n,str []]) (.agg #[.int .u8 4,.int .i64 7,str []])).run prog W=.ok (.bool false) W:=by
  intro W
  simp [go_sem,hne]
 have n0:(0:Int)≤(n:Int):=by omega
 have n8:(n:Int)<8:=by omega
 clear hw
 have c0:(w.alloc (.cells #[.int .u8 4,.int .i64 n,str []] 189)).cell? ⟨w.heap.size,0,none⟩=some (.int .u8 4):=(Blk.new w _ _).cell 0
 have c1:(w.alloc (.cells #[.int .u8 4,.int .i64 n,str []] 189)).cell? ⟨w.heap.size,1,none⟩=some (.int .i64 n):=(Blk.new w _ _).cell 1
 have c2:(w.alloc (.cells #[.int .u8 4,.int .i64 n,str []] 189)).cell? ⟨w.heap.size,2,none⟩=some (str []):=(Blk.new w _ _).cell 2
 have C0:=Hd c0
 have C1:=Hd c1
 have C2:=Hd c2
 clear c0 c1 c2
 go_enter func281,ntmps281
 go_wp2
 have hlt:w.heap.size<(w.alloc (.cells #[.int .u8 4,.int .i64 n,str []] 189)).heap.size:=by simp
 obtain ⟨W0,hW0⟩:∃W0,w.alloc (.cells #[.int .u8 4,.int .i64 n,str []] 189)=W0:=⟨_,rfl⟩
 have HB0:=Hd (show Below w.heap.size w W0 by rw [← hW0];go_grown)
 rw [hW0] at C0 C1 C2 hlt ⊢
 clear hW0
 go_region_held3 (fun W:World=>W.cell? ⟨w.heap.size,0,none⟩=some (.int .u8 4)∧W.cell? ⟨w.heap.size,1,none⟩=some (.int .i64 n)∧W.cell? ⟨w.heap.size,2,none⟩=some (str []))
  (first
   | exact ⟨C0.out,C1.out,C2.out⟩
   | exact ⟨(hb1.cell hlt).trans C0.out,(hb1.cell hlt).trans C1.out,(hb1.cell hlt).trans C2.out⟩
   | exact ⟨(hb2.cell (Nat.lt_of_lt_of_le hlt hb1.size)).trans ((hb1.cell hlt).trans C0.out),(hb2.cell (Nat.lt_of_lt_of_le hlt hb1.size)).trans ((hb1.cell hlt).trans C1.out),(hb2.cell (Nat.lt_of_lt_of_le hlt hb1.size)).trans ((hb1.cell hlt).trans C2.out)⟩)
  (first
   | (go_at_call 218;refine (zsq 7 _ (by omega) (by omega)).mono ?_;rintro e w1 ⟨rfl,hb1⟩)
   | (go_at_call 270;refine (zqi n _ (by omega) (by omega)).mono ?_;rintro e w2 ⟨rfl,hb2⟩))
 have HB2:=Hd (show Below w.heap.size w w2 from Below.next (Below.next HB0.out (Below.trans ((Below.refl _ _).drew) hb1) HB0.out.size) hb2 (Nat.le_trans HB0.out.size hb1.size))
 have d1:w2.cell? ⟨w.heap.size,1,none⟩=some (.int .i64 n):=(hb2.cell (Nat.lt_of_lt_of_le hlt hb1.size)).trans ((hb1.cell hlt).trans C1.out)
 have hwd:w2.cell? ⟨0,n,none⟩=some (str s):=zto (HW.out.below HB2.out) n s hs
 clear he hb1 hb2 hs
 go_wp2
 go_ret
 exact ⟨rfl,HB2.out⟩
structure Nod where
 kind:Int
 vk:Int
 vn:Int
 vt:zaa
 rect:Rct
 op:Int
 fn:Int
 n:Int
 deriving DecidableEq
def nod0 (k:Int):Nod:=⟨k,0,0,[],z4,0,0,0⟩
def valE (k n:Int) (t:zaa):Int:=
 if (if k=0 then decide (n=0)&&decide (t=[]) else if k=1 then decide (t=[])&&decide (n≠ -9223372036854775808)
  else if k=2 then decide (t=[])&&(decide (n=0)||decide (n=1)) else if k=3 then decide (n=0)&&decide (t.length≤256)&&pltB t
  else if k=4 then decide (t=[])&&decide (1≤n)&&decide (n≤6) else false) then 0 else 2
def zbh:List zaa:=[[65,66,83],[83,73,71,78],[73,78,84],[84,82,85,78,67],[82,79,85,78,68],[77,79,68],[80,79,87,69,82],[83,81,82,84],[83,85,77],[80,82,79,68,85,67,84],[67,79,85,78,84],[67,79,85,78,84,65],[67,79,85,78,84,66,76,65,78,75],[65,86,69,82,65,71,69],[77,73,78],[77,65,88],[77,69,68,73,65,78],[76,65,82,71,69],[83,77,65,76,76],[73,70],[65,78,68],[79,82],[88,79,82],[78,79,84],[73,70,69,82,82,79,82],[73,83,69,82,82,79,82],[73,83,66,76,65,78,75],[73,83,78,85,77,66,69,82],[73,83,84,69,88,84],[67,72,79,79,83,69],[76,69,78],[76,69,70,84],[82,73,71,72,84],[77,73,68],[85,80,80,69,82],[76,79,87,69,82],[84,82,73,77],[67,79,78,67,65,84],[82,69,80,84],[69,88,65,67,84],[70,73,78,68],[86,65,76,85,69],[73,78,68,69,88],[77,65,84,67,72],[67,79,85,78,84,73,70],[68,83,85,77],[68,67,79,85,78,84],[68,65,86,71],[68,77,73,78],[68,77,65,88]]
def fnOf (s:zaa):Nat:=if zbh.contains s then zbh.idxOf s+1 else 0
def zam (fn:Int):Int × Int × Int:=
 if fn=5∨fn=6∨fn=7∨fn=25∨fn=39∨fn=40∨fn=18∨fn=19∨fn=45∨fn=44 then (2,2,0)
 else if fn=20∨fn=41∨fn=43 then (2,3,0)
 else if fn=32∨fn=33 then (1,2,0)
 else if fn=34 then (3,3,0)
 else if fn=21∨fn=22∨fn=23∨fn=38∨fn=9∨fn=10∨fn=11∨fn=12∨fn=14∨fn=15∨fn=16∨fn=17 then (1,16,0)
 else if fn=30 then (2,16,0)
 else if 1≤fn∧fn≤50 then (1,1,0) else (0,0,10)
def relB (fn:Int):Bool:=decide (46≤fn)&&decide (fn≤50)
def zb9 (fn i:Int):Bool × Int:=
 if (zam fn).2.2≠0 then (false,(zam fn).2.2)
 else if i<0∨(zam fn).2.1≤i then (false,3)
 else if fn=9∨fn=10∨fn=11∨fn=12∨fn=14∨fn=15∨fn=16∨fn=17 then (true,0)
 else if fn=44 then (decide (i=1),0)
 else if fn=18∨fn=19∨fn=45∨fn=43∨fn=13 then (decide (i=0),0)
 else (relB fn,0)
def zg5 (n:Nod):Nod:=
 if n.kind=1 then { nod0 1 with vk:=n.vk,vn:=n.vn,vt:=n.vt } else if n.kind=2∨n.kind=3 then { nod0 n.kind with rect:=n.rect }
 else if n.kind=6 then { nod0 6 with op:=n.op } else if n.kind=7 then { nod0 7 with fn:=n.fn,n:=n.n } else nod0 n.kind
def zfb (r:Rct):Bool:=decide (r.c1=r.c2)&&decide (r.r1=r.r2)
def zhl (n:Nod):Bool:=
 if n.kind=1 then (if n.vk=0 then false else if n.vk=1 then decide (0≤n.vn) else if n.vk=4 then decide (1≤n.vn)&&decide (n.vn≤5) else true)&&decide (valE n.vk n.vn n.vt=0)
 else if n.kind=2∨n.kind=3 then rctB n.rect&&(zfb n.rect==decide (n.kind=2))
 else if n.kind=4∨n.kind=5 then true
 else if n.kind=6 then decide (1≤n.op)&&decide (n.op≤12)
 else if n.kind=7 then decide (0≤n.n) else false
def zc5 (n:Nod):Int:=
 if zhl n=false∨n≠zg5 n then 2
 else if n.kind≠7 then 0
 else if (zam n.fn).2.2≠0 then (zam n.fn).2.2
 else if n.n<(zam n.fn).1∨(zam n.fn).2.1<n.n then 11 else 0
def zh5 (n:Nod):Int:=if n.kind=4∨n.kind=5 then 1 else if n.kind=6 then 2 else if n.kind=7 then n.n else 0
structure Part where
 root:Nat
 depth:Int
 wide:Bool
def zdt (t:List Nod) (n:Nod):Nat→List Part→Bool
 | _,[]=>true
 | i,p::l=>if p.wide&&!(decide (n.kind=7)&&(zb9 n.fn i).1) then false
  else if decide (n.kind=7)&&relB n.fn&&decide (((t.getD p.root (nod0 0)).kind)≠2)&&decide (((t.getD p.root (nod0 0)).kind)≠3) then false
  else zdt t n (i+1) l
def zct (l:List Part):Int:=l.foldl (fun d x=>max d (x.depth+1)) 1
def zgo (t:List Nod) (i:Nat) (n:Nod) (st:List Part):Except Int (List Part):=
 if zc5 n≠0 then .error (zc5 n)
 else if (st.length:Int)<zh5 n∨zdt t n 0 (st.drop (st.length-(zh5 n).toNat))=false then .error 4
 else if 32<zct (st.drop (st.length-(zh5 n).toNat)) then .error 9
 else .ok (st.take (st.length-(zh5 n).toNat)++ [⟨i,zct (st.drop (st.length-(zh5 n).toNat)),decide (n.kind=3)⟩])
def zb1 (t:List Nod):Nat→List Nod→List Part→Int
 | _,[],st=>if st.length=1 then 0 else 4
 | i,n::l,st=>match zgo t i n st with
  | .error e=>e
  | .ok st=>zb1 t (i+1) l st
def zbx (t:List Nod):Int:=
 if 256<t.length then 5 else if t=[] then 4 else if zb1 t 0 t []≠0 then zb1 t 0 t [] else if (t.getLast?.map (·.kind))=some 3 then 4 else 0
def zbt (op:Int):Int:=if 7≤op∧op≤12 then 1 else if op=6 then 2 else if op=1∨op=2 then 3 else if op=3∨op=4 then 4 else if op=5 then 6 else if op=13 then 7 else 0
abbrev PSt:=List Tok × List Nod
def zak (e:Int) (st:PSt):Tok:=st.1.head?.getD { tok0 with at_:=e }
def zan (st:PSt):PSt:=(st.1.tail,st.2)
def putS (n:Nod) (st:PSt):PSt:=(st.1,st.2++ [n])
def zcj (e:Int) (st:PSt) (op:Int):Bool:=decide ((zak e st).kind=8)&&decide ((zak e st).num=op)
inductive Stg where
 | level (k:Nat)
 | loop (k:Nat)
 | sign
 | pct
 | pctl
 | prim
 | call (name:Tok)
 | args (name:Tok) (fn n:Nat)
 | arg (fn n:Nat)
abbrev PRes:=Except (Int × Int) PSt
def thenS (r:PRes) (f:PSt→PRes):PRes:=match r with
 | .error e=>.error e
 | .ok st=>f st
def zd6 (e:Int) (kind:Int) (st:PSt):PRes:=if (zak e st).kind≠kind then .error ((zak e st).at_,4) else .ok (zan st)
def zd5 (e:Int) (name:Tok) (fn n:Nat) (st:PSt):PRes:=
 if (zak e st).kind≠10 then .error ((zak e st).at_,4)
 else if (n:Int)<(zam fn).1∨(zam fn).2.1<(n:Int) then .error (name.at_,11)
 else if 46≤fn∧(st.2.getLast?.map (·.kind))≠some 2∧(st.2.getLast?.map (·.kind))≠some 3 then .error (name.at_,4)
 else .ok (putS { nod0 7 with fn:=fn,n:=n } (zan st))
def parS (e:Int):Nat→Stg→PSt→PRes
 | 0,_,_=>.error (0, -1)
 | f+1,.level k,st=>thenS (parS e f (if k<4 then .level (k+1) else .sign) st) (parS e f (.loop k))
 | f+1,.loop k,st=>if (zak e st).kind≠8∨zbt (zak e st).num≠k then .ok st
  else thenS (parS e f (if k<4 then .level (k+1) else .sign) (zan st)) fun st'=>parS e f (.loop k) (putS { nod0 6 with op:=(zak e st).num } st')
 | f+1,.sign,st=>if zcj e st 2 then thenS (parS e f .sign (zan st)) fun st=>.ok (putS (nod0 4) st)
  else thenS (parS e f .pct st) fun st=>if zcj e st 5 then thenS (parS e f .sign (zan st)) fun st=>.ok (putS { nod0 6 with op:=5 } st) else .ok st
 | f+1,.pct,st=>thenS (parS e f .prim st) (parS e f .pctl)
 | f+1,.pctl,st=>if zcj e st 13 then parS e f .pctl (putS (nod0 5) (zan st)) else .ok st
 | f+1,.prim,st=>
  let t:=zak e st
  if t.kind=1 then .ok (putS { nod0 1 with vk:=1,vn:=t.num } (zan st))
  else if t.kind=2 then .ok (putS { nod0 1 with vk:=3,vt:=t.text } (zan st))
  else if t.kind=3 then .ok (putS { nod0 1 with vk:=2,vn:=t.num } (zan st))
  else if t.kind=4 then .ok (putS { nod0 1 with vk:=4,vn:=t.num } (zan st))
  else if t.kind=5 then .ok (putS { nod0 2 with rect:=t.rect } (zan st))
  else if t.kind=9 then thenS (parS e f (.level 1) (zan st)) (zd6 e 10)
  else if t.kind=7 then parS e f (.call t) st
  else .error (t.at_,4)
 | f+1,.call name,st=>
  if fnOf name.text=0 then .error (name.at_,10) else
  thenS (zd6 e 9 (zan st)) fun st=>if (zak e st).kind=10 then zd5 e name (fnOf name.text) 0 st else parS e f (.args name (fnOf name.text) 0) st
 | f+1,.args name fn n,st=>
  thenS (parS e f (.arg fn n) st) fun st=>if (zak e st).kind=11 then parS e f (.args name fn (n+1)) (zan st) else zd5 e name fn (n+1) st
 | f+1,.arg fn n,st=>
  if (zak e st).kind≠6 then parS e f (.level 1) st
  else if (zb9 fn n).1=false∨(zb9 fn n).2≠0 then .error ((zak e st).at_,4)
  else .ok (putS { nod0 3 with rect:=(zak e st).rect } (zan st))
def zaq (s:zaa):List Nod × Int:=
 if (zae s).2≠0 then ([],(zae s).2) else
 match parS s.length (10*(zae s).1.length+20) (.level 1) ((zae s).1,[]) with
 | .error e=>([],e.2)
 | .ok st=>if st.1≠ [] then ([],4) else if zbx st.2≠0 then ([],zbx st.2) else (st.2,0)
def ofE (s:zaa):Int:=
 if 256<s.length then 5 else if pltB s=false then 4 else if s.head?=some 61 then (zaq s.tail).2 else 0
def opT:Nat→zaa
 | 1=>[43] | 2=>[45] | 3=>[42] | 4=>[47] | 5=>[94] | 6=>[38] | 7=>[61] | 8=>[60,62] | 9=>[60] | 10=>[60,61] | 11=>[62] | 12=>[62,61] | 13=>[37] | _=>[]
def opF (size op:Nat):List (zaa × Int):=
 opsW.drop (if size=2 then (if op≤8 then 0 else if op≤10 then 1 else if op≤12 then 2 else 3) else (if op≤7 then 2+op else if op≤9 then 10 else if op≤11 then 11 else if op≤13 then 12 else 13))
theorem zrm:∀(a:Fin 2) (b:Fin 13),opF (a.val+1) (b.val+1)=if (opT (b.val+1)).length=a.val+1 then (opT (b.val+1),((b.val+1:Nat):Int))::opF (a.val+1) (b.val+2) else opF (a.val+1) (b.val+2):=by decide
theorem zvb (size op:Nat) (h:size=1∨size=2) (h1:1≤op) (h2:op≤13):
 opF size op=if (opT op).length=size then (opT op,(op:Int))::opF size (op+1) else opF size (op+1):=by
 obtain ⟨b,rfl⟩:∃b,op=b+1:=⟨op-1,by omega⟩
 rcases h with rfl | rfl
 ·exact zrm ⟨0,by decide⟩ ⟨b,by omega⟩
 exact zrm ⟨1,by decide⟩ ⟨b,by omega⟩
theorem zrn:opF 2 1=opsW:=rfl
theorem zrl:∀(b:Fin 14),∀c∈opT b.val,¬(65≤c.toNat∧c.toNat≤90)∧¬(97≤c.toNat∧c.toNat≤122):=by decide
theorem zym:∀(b:Fin 14),(opT b.val).length≤2:=by decide
theorem zxh {c:UInt8} {t:zaa} (h:c≠34):unqP (c::t)=(unqP t).map (fun r=>(c::r.1,r.2+1)):=by
 cases t with
 | nil=>simp [unqP,h]
 | cons d t=>simp [unqP,h]
theorem zts {t:zaa}:unqP (34::34::t)=(unqP t).map (fun r=>(34::r.1,r.2+2)):=by simp [unqP]
theorem zm3 {t:zaa} (h:t.head?≠some 34):unqP (34::t)=some ([],1):=by
 cases t with
 | nil=>simp [unqP]
 | cons d t=>simp only [List.head?_cons,ne_eq,Option.some.injEq] at h;simp [unqP,h]
structure OpTo (p g:Nat) (W W':World) (r':Rd) (x:Opr):Prop where
 blk:RdAt W' p r'
 op:Blk W' g 48 (cOpr x).toArray
 chg:Chg (fun k=>k=p∨k=g) W W'
theorem long_1 (s:Scp) (e r g l x o:Value) (B:Nat) (w:World) (_hB:B≤w.heap.size) (hb:RdScp w B s e r g l x o) (hr:Reach s) (P1:(160:Int)<(s.book.entries.length:Int)+(s.book.rules.length:Int)+(s.book.grants.length:Int)+(s.book.log.length:Int)+(s.book.releases.length:Int)):
 Calls prog 9 #[vScp s e r g l x o] w fun u w'=>u=.returned (.bool (zds s))∧Below w.heap.size w w':=by
 obtain ⟨Ae,ce,rfl,_⟩:=id hb.book.ents
 obtain ⟨Ar,cr,rfl,_⟩:=id hb.book.ruls
 obtain ⟨Ag,cg,rfl,_⟩:=id hb.book.grts
 obtain ⟨Al,cl,rfl,_⟩:=id hb.book.evts
 obtain ⟨Ax,cx,rfl,_⟩:=id hb.book.rlss
 obtain ⟨Ao,co,rfl,_⟩:=id hb.ops
 obtain ⟨q1,q2,q3,q4⟩:=zqs hr
 have HR:=Hd hr
 clear hb hr
 have HS:=Hd (zho (head_1 s.ops.length (sum_1 P1)))
 by_cases P2:(300:Int)<(s.ops.length:Int)
 ·by_cases P3:(4096:Int)<(s.ops.length:Int)
  ·by_cases P4:(4101:Int)<(s.ops.length:Int)
   ·skip
    go_enter func9,ntmps9
    go_wp2
    go_ret
    exact ⟨by rw [HS.out];rfl,by go_grown⟩
   skip
   go_enter func9,ntmps9
   go_wp2
   go_ret
   exact ⟨by rw [HS.out];rfl,by go_grown⟩
  skip
  go_enter func9,ntmps9
  go_wp2
  go_ret
  exact ⟨by rw [HS.out];rfl,by go_grown⟩
 skip
 go_enter func9,ntmps9
 go_wp2
 go_ret
 exact ⟨by rw [HS.out];rfl,by go_grown⟩
end Go.Proofs.YtamcgggmfghljaaGreatDoor
