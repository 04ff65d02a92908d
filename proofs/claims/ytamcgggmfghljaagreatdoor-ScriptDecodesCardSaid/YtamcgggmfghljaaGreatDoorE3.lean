/- walk -/
import Derived.Test.YtamcgggmfghljaaGreatDoorE2
set_option maxRecDepth 100000
set_option maxHeartbeats 8000000
open Go.Proofs.Tryz
namespace Go.Proofs.YtamcgggmfghljaaGreatDoor
open Go.RowKit
def ub (s:zaa) (i:Nat):Nat:=(s.getD i 0).toNat
def digB (c:UInt8):Bool:=decide (48<=c.toNat)&&decide (c.toNat<=57)
def letB (c:UInt8):Bool:=(decide (65<=c.toNat)&&decide (c.toNat<=90))||(decide (97<=c.toNat)&&decide (c.toNat<=122))
def alnB (c:UInt8):Bool:=letB c||digB c
def lenB (p:UInt8->Bool) (s:zaa) (i:Nat):Nat:=((s.drop i).takeWhile p).length
def zc2:Nat:=9223372036854775807
def natB:Nat->zaa->Nat
 | v,[]=>v
 | v,c::s=>natB (10*v+(c.toNat-48)) s
def negB (s:zaa):Bool:=s.head?==some 45
def unsB (s:zaa):zaa:=if negB s then s.tail else s
def zc7:zaa->Option zaa
 | []=>some []
 | c::t=>if c=46/\t≠ []/\t.all digB=true then some t else none
def zh8 (p:zaa):zaa:=p++ [48,48,48,48,48]
def zjb (whole p:zaa):Nat:=natB 0 (whole++(zh8 p).take 4)+if 53<=ub (zh8 p) 4 then 1 else 0
def zbf (s:zaa):Int × Int:=
 match zc7 ((unsB s).drop (lenB digB (unsB s) 0)) with
 | none=>(0,4)
 | some p=>
  if lenB digB (unsB s) 0=0 then (0,4)
  else if zc2<zjb ((unsB s).take (lenB digB (unsB s) 0)) p then (0,3)
  else (if negB s then -(zjb ((unsB s).take (lenB digB (unsB s) 0)) p:Int) else zjb ((unsB s).take (lenB digB (unsB s) 0)) p,0)
structure Pcs where
 m0:Int
 m1:Int
 v0:Int
 v1:Int
 ok:Bool
def addP (p:Pcs) (c:Nat) (letter:Bool):Pcs:=
 if letter then { p with ok:=p.ok&&decide (p.m1=0),m0:=p.m0+1,v0:=min (26*p.v0+((c:Int)-65)+1) 1025 }
 else { p with ok:=p.ok&&(decide (c≠48)||decide (0<p.m1)),m1:=p.m1+1,v1:=min (10*p.v1+((c:Int)-48)) 1025 }
def zcw (p:Pcs) (c:UInt8):Pcs:=
 if 97<=c.toNat/\c.toNat<=122 then addP p (c.toNat-32) true
 else if 65<=c.toNat/\c.toNat<=90 then addP p c.toNat true
 else if digB c then addP p c.toNat false
 else { p with ok:=false }
def zau (s:zaa):Pcs:=s.foldl zcw ⟨0,0,0,0,true⟩
def parA (s:zaa):Ref × Int:=
 if (zau s).ok=false\/(zau s).m0=0\/(zau s).m1=0 then (⟨0,0⟩,4)
 else if za6 (zau s).v0 (zau s).v1 then (⟨(zau s).v0,(zau s).v1⟩,0) else (⟨0,0⟩,3)
def unqL:zaa->Option zaa
 | []=>some []
 | [c]=>if c=34 then none else some [c]
 | c::d::t=>if c=34 then (if d=34 then (unqL t).map (34::·) else none) else (unqL (d::t)).map (c::·)
def pltB (s:zaa):Bool:=s.all λc=>decide (32<=c.toNat)&&decide (c.toNat<=126)
def unqB (s:zaa):zaa × Int:=
 if s.length<2\/ub s 0≠34\/ub s (s.length-1)≠34\/pltB s=false then ([],4)
 else match unqL ((s.drop 1).take (s.length-2)) with
  | none=>([],4)
  | some o=>if 256<o.length then ([],5) else (o,0)
def upU (c:UInt8):UInt8:=if 97<=c.toNat/\c.toNat<=122 then UInt8.ofNat (c.toNat-32) else c
structure Tok where
 kind:Int
 num:Int
 text:zaa
 rect:Rct
 at_:Int
 deriving DecidableEq
def z4:Rct:=⟨0,0,0,0⟩
def tok0:Tok:=⟨0,0,[],z4,0⟩
def dotB (s:zaa) (p:Nat):Bool:=decide (p+1<s.length)&&decide (ub s p=46)&&digB (s.getD (p+1) 0)
def zbj (s:zaa) (i:Nat):Nat:=
 if dotB s (i+lenB digB s i) then lenB digB s i+1+lenB digB s (i+lenB digB s i+1) else lenB digB s i
def zaq (s:zaa) (i:Nat):Tok × Nat:=
 if lenB digB s i=0 then (tok0,0)
 else if dotB s (i+lenB digB s i)=true/\4<lenB digB s (i+lenB digB s i+1) then (tok0,0)
 else if (zbf ((s.drop i).take (zbj s i))).2≠0 then (tok0,0)
 else (⟨1,(zbf ((s.drop i).take (zbj s i))).1,[],z4,i⟩,zbj s i)
def endQ (s:zaa):Nat->Nat->Option Nat
 | 0,_=>none
 | f+1,k=>if s.length<=k then none else if ub s k≠34 then endQ s f (k+1) else if k+1<s.length/\ub s (k+1)=34 then endQ s f (k+2) else some k
def zdk (s:zaa) (i:Nat):Tok × Nat:=
 if ub s i≠34 then (tok0,0) else
 match endQ s s.length (i+1) with
 | none=>(tok0,0)
 | some k=>if (unqB ((s.drop i).take (k+1-i))).2≠0 then (tok0,0) else (⟨3-1,0,(unqB ((s.drop i).take (k+1-i))).1,z4,i⟩,k+1-i)
def zag (s:zaa) (i:Nat):zaa:=((s.drop i).take (lenB alnB s i)).map upU
def zoe (a b:Ref):Rct:=⟨min a.col b.col,min a.row b.row,max a.col b.col,max a.row b.row⟩
def zx8:zaa:=[84,82,85,69]
def zrn:zaa:=[70,65,76,83,69]
def twoB (s:zaa) (p:Nat):Bool:=decide (ub s p=58)&&letB (s.getD (p+1) 0)&&decide ((parA (zag s (p+1))).2=0)&&decide (ub s (p+1+(zag s (p+1)).length)≠40)
def zbq (s:zaa) (i:Nat):Tok × Nat:=
 if letB (s.getD i 0)=false then (tok0,0)
 else if ub s (i+(zag s i).length)=40 then (⟨7,0,zag s i,z4,i⟩,(zag s i).length)
 else if zag s i=zx8 then (⟨3,1,[],z4,i⟩,(zag s i).length)
 else if zag s i=zrn then (⟨3,0,[],z4,i⟩,(zag s i).length)
 else if (parA (zag s i)).2≠0 then (tok0,0)
 else if twoB s (i+(zag s i).length) then
  (⟨if (parA (zag s i)).1=(parA (zag s (i+(zag s i).length+1))).1 then 5 else 6,0,[],zoe (parA (zag s i)).1 (parA (zag s (i+(zag s i).length+1))).1,i⟩,(zag s i).length+1+(zag s (i+(zag s i).length+1)).length)
 else (⟨5,0,[],⟨(parA (zag s i)).1.col,(parA (zag s i)).1.row,(parA (zag s i)).1.col,(parA (zag s i)).1.row⟩,i⟩,(zag s i).length)
def zhn:List zaa:=[[35,68,73,86,47,48,33],[35,86,65,76,85,69,33],[35,78,85,77,33],[35,78,47,65],[35,82,69,70,33]]
def zd0 (s:zaa) (i:Nat):Int->List zaa->Tok × Nat
 | _,[]=>(tok0,0)
 | code,x::l=>if i+x.length<=s.length/\((s.drop i).take x.length).map upU=x then (⟨4,code,[],z4,i⟩,x.length) else zd0 s i (code+1) l
def zdo (s:zaa) (i:Nat):Tok × Nat:=zd0 s i 1 zhn
def opsW:List (zaa × Int):=[([60,62],8),([60,61],10),([62,61],12),([43],1),([45],2),([42],3),([47],4),([94],5),([38],6),([61],7),([60],9),([62],11),([37],13)]
def opsL (s:zaa) (i:Nat):List (zaa × Int)->Option (Tok × Nat)
 | []=>none
 | (x,n)::l=>if x.isPrefixOf (s.drop i) then some (⟨8,n,[],z4,i⟩,x.length) else opsL s i l
def zdl (s:zaa) (i:Nat):Tok × Nat:=
 match opsL s i opsW with
 | some r=>r
 | none=>if ub s i=40 then (⟨9,0,[],z4,i⟩,1) else if ub s i=41 then (⟨10,0,[],z4,i⟩,1) else if ub s i=44 then (⟨11,0,[],z4,i⟩,1) else (tok0,0)
def zc4 (s:zaa) (i:Nat):Tok × Nat:=
 if 0<(zaq s i).2 then zaq s i else if 0<(zdk s i).2 then zdk s i else if 0<(zbq s i).2 then zbq s i else if 0<(zdo s i).2 then zdo s i else zdl s i
def ze0 (s:zaa):Nat->Nat->Option (List Tok)
 | 0,_=>none
 | f+1,i=>if s.length<=i then some [] else if ub s i=32 then ze0 s f (i+1) else if (zc4 s i).2=0 then none else (ze0 s f (i+(zc4 s i).2)).map ((zc4 s i).1::·)
def zaf (s:zaa):List Tok × Int:=
 if 256<s.length then ([],5) else if pltB s=false then ([],4) else match ze0 s (s.length+1) 0 with
  | none=>([],4)
  | some l=>(l,0)
structure Nod where
 kind:Int
 vk:Int
 vn:Int
 vt:zaa
 rect:Rct
 op:Int
 fn:Int
 n:Int
 deriving DecidableEq
def nod0 (k:Int):Nod:=⟨k,0,0,[],z4,0,0,0⟩
def valE (k n:Int) (t:zaa):Int:=
 if (if k=0 then decide (n=0)&&decide (t=[]) else if k=1 then decide (t=[])&&decide (n≠ -9223372036854775808)
  else if k=2 then decide (t=[])&&(decide (n=0)||decide (n=1)) else if k=3 then decide (n=0)&&decide (t.length<=256)&&pltB t
  else if k=4 then decide (t=[])&&decide (1<=n)&&decide (n<=6) else false) then 0 else 2
def zbo:List zaa:=[[65,66,83],[83,73,71,78],[73,78,84],[84,82,85,78,67],[82,79,85,78,68],[77,79,68],[80,79,87,69,82],[83,81,82,84],[83,85,77],[80,82,79,68,85,67,84],[67,79,85,78,84],[67,79,85,78,84,65],[67,79,85,78,84,66,76,65,78,75],[65,86,69,82,65,71,69],[77,73,78],[77,65,88],[77,69,68,73,65,78],[76,65,82,71,69],[83,77,65,76,76],[73,70],[65,78,68],[79,82],[88,79,82],[78,79,84],[73,70,69,82,82,79,82],[73,83,69,82,82,79,82],[73,83,66,76,65,78,75],[73,83,78,85,77,66,69,82],[73,83,84,69,88,84],[67,72,79,79,83,69],[76,69,78],[76,69,70,84],[82,73,71,72,84],[77,73,68],[85,80,80,69,82],[76,79,87,69,82],[84,82,73,77],[67,79,78,67,65,84],[82,69,80,84],[69,88,65,67,84],[70,73,78,68],[86,65,76,85,69],[73,78,68,69,88],[77,65,84,67,72],[67,79,85,78,84,73,70],[68,83,85,77],[68,67,79,85,78,84],[68,65,86,71],[68,77,73,78],[68,77,65,88]]
def fnOf (s:zaa):Nat:=if zbo.contains s then zbo.idxOf s+1 else 0
def zao (fn:Int):Int × Int × Int:=
 if fn=5\/fn=6\/fn=7\/fn=25\/fn=39\/fn=40\/fn=18\/fn=19\/fn=45\/fn=44 then (2,2,0)
 else if fn=20\/fn=41\/fn=43 then (2,3,0)
 else if fn=32\/fn=33 then (1,2,0)
 else if fn=34 then (3,3,0)
 else if fn=21\/fn=22\/fn=23\/fn=38\/fn=9\/fn=10\/fn=11\/fn=12\/fn=14\/fn=15\/fn=16\/fn=17 then (1,16,0)
 else if fn=30 then (2,16,0)
 else if 1<=fn/\fn<=50 then (1,1,0) else (0,0,10)
def relB (fn:Int):Bool:=decide (46<=fn)&&decide (fn<=50)
def zcm (fn i:Int):Bool × Int:=
 if (zao fn).2.2≠0 then (false,(zao fn).2.2)
 else if i<0\/(zao fn).2.1<=i then (false,3)
 else if fn=9\/fn=10\/fn=11\/fn=12\/fn=14\/fn=15\/fn=16\/fn=17 then (true,0)
 else if fn=44 then (decide (i=1),0)
 else if fn=18\/fn=19\/fn=45\/fn=43\/fn=13 then (decide (i=0),0)
 else (relB fn,0)
def zi4 (n:Nod):Nod:=
 if n.kind=1 then { nod0 1 with vk:=n.vk,vn:=n.vn,vt:=n.vt } else if n.kind=2\/n.kind=3 then { nod0 n.kind with rect:=n.rect }
 else if n.kind=6 then { nod0 6 with op:=n.op } else if n.kind=7 then { nod0 7 with fn:=n.fn,n:=n.n } else nod0 n.kind
def zgs (r:Rct):Bool:=decide (r.c1=r.c2)&&decide (r.r1=r.r2)
def zjp (n:Nod):Bool:=
 if n.kind=1 then (if n.vk=0 then false else if n.vk=1 then decide (0<=n.vn) else if n.vk=4 then decide (1<=n.vn)&&decide (n.vn<=5) else true)&&decide (valE n.vk n.vn n.vt=0)
 else if n.kind=2\/n.kind=3 then rctB n.rect&&(zgs n.rect==decide (n.kind=2))
 else if n.kind=4\/n.kind=5 then true
 else if n.kind=6 then decide (1<=n.op)&&decide (n.op<=12)
 else if n.kind=7 then decide (0<=n.n) else false
def zdn (n:Nod):Int:=
 if zjp n=false\/n≠zi4 n then 2
 else if n.kind≠7 then 0
 else if (zao n.fn).2.2≠0 then (zao n.fn).2.2
 else if n.n<(zao n.fn).1\/(zao n.fn).2.1<n.n then 11 else 0
def zj9 (n:Nod):Int:=if n.kind=4\/n.kind=5 then 1 else if n.kind=6 then 2 else if n.kind=7 then n.n else 0
structure Part where
 root:Nat
 depth:Int
 wide:Bool
def zej (t:List Nod) (n:Nod):Nat->List Part->Bool
 | _,[]=>true
 | i,p::l=>if p.wide&&!(decide (n.kind=7)&&(zcm n.fn i).1) then false
  else if decide (n.kind=7)&&relB n.fn&&decide (((t.getD p.root (nod0 0)).kind)≠2)&&decide (((t.getD p.root (nod0 0)).kind)≠3) then false
  else zej t n (i+1) l
def zdd (l:List Part):Int:=l.foldl (λd x=>max d (x.depth+1)) 1
def zij (t:List Nod) (i:Nat) (n:Nod) (st:List Part):Except Int (List Part):=
 if zdn n≠0 then .error (zdn n)
 else if (st.length:Int)<zj9 n\/zej t n 0 (st.drop (st.length-(zj9 n).toNat))=false then .error 4
 else if 32<zdd (st.drop (st.length-(zj9 n).toNat)) then .error 9
 else .ok (st.take (st.length-(zj9 n).toNat)++ [⟨i,zdd (st.drop (st.length-(zj9 n).toNat)),decide (n.kind=3)⟩])
def zcc (t:List Nod):Nat->List Nod->List Part->Int
 | _,[],st=>if st.length=1 then 0 else 4
 | i,n::l,st=>match zij t i n st with
  | .error e=>e
  | .ok st=>zcc t (i+1) l st
def zb8 (t:List Nod):Int:=
 if 256<t.length then 5 else if t=[] then 4 else if zcc t 0 t []≠0 then zcc t 0 t [] else if (t.getLast?.map (·.kind))=some 3 then 4 else 0
def zb4 (op:Int):Int:=if 7<=op/\op<=12 then 1 else if op=6 then 2 else if op=1\/op=2 then 3 else if op=3\/op=4 then 4 else if op=5 then 6 else if op=13 then 7 else 0
abbrev PSt:=List Tok × List Nod
def zak (e:Int) (st:PSt):Tok:=st.1.head?.getD { tok0 with at_:=e }
def zap (st:PSt):PSt:=(st.1.tail,st.2)
def putS (n:Nod) (st:PSt):PSt:=(st.1,st.2++ [n])
def zc3 (e:Int) (st:PSt) (op:Int):Bool:=decide ((zak e st).kind=8)&&decide ((zak e st).num=op)
inductive Stg where
 | level (k:Nat)
 | loop (k:Nat)
 | sign
 | pct
 | pctl
 | prim
 | call (name:Tok)
 | args (name:Tok) (fn n:Nat)
 | arg (fn n:Nat)
abbrev PRes:=Except (Int × Int) PSt
def thenS (r:PRes) (f:PSt->PRes):PRes:=match r with
 | .error e=>.error e
 | .ok st=>f st
def ze4 (e:Int) (kind:Int) (st:PSt):PRes:=if (zak e st).kind≠kind then .error ((zak e st).at_,4) else .ok (zap st)
def ze3 (e:Int) (name:Tok) (fn n:Nat) (st:PSt):PRes:=
 if (zak e st).kind≠10 then .error ((zak e st).at_,4)
 else if (n:Int)<(zao fn).1\/(zao fn).2.1<(n:Int) then .error (name.at_,11)
 else if 46<=fn/\(st.2.getLast?.map (·.kind))≠some 2/\(st.2.getLast?.map (·.kind))≠some 3 then .error (name.at_,4)
 else .ok (putS { nod0 7 with fn:=fn,n:=n } (zap st))
def parS (e:Int):Nat->Stg->PSt->PRes
 | 0,_,_=>.error (0, -1)
 | f+1,.level k,st=>thenS (parS e f (if k<4 then .level (k+1) else .sign) st) (parS e f (.loop k))
 | f+1,.loop k,st=>if (zak e st).kind≠8\/zb4 (zak e st).num≠k then .ok st
  else thenS (parS e f (if k<4 then .level (k+1) else .sign) (zap st)) λst'=>parS e f (.loop k) (putS { nod0 6 with op:=(zak e st).num } st')
 | f+1,.sign,st=>if zc3 e st 2 then thenS (parS e f .sign (zap st)) λst=>.ok (putS (nod0 4) st)
  else thenS (parS e f .pct st) λst=>if zc3 e st 5 then thenS (parS e f .sign (zap st)) λst=>.ok (putS { nod0 6 with op:=5 } st) else .ok st
 | f+1,.pct,st=>thenS (parS e f .prim st) (parS e f .pctl)
 | f+1,.pctl,st=>if zc3 e st 13 then parS e f .pctl (putS (nod0 5) (zap st)) else .ok st
 | f+1,.prim,st=>
  let t:=zak e st
  if t.kind=1 then .ok (putS { nod0 1 with vk:=1,vn:=t.num } (zap st))
  else if t.kind=2 then .ok (putS { nod0 1 with vk:=3,vt:=t.text } (zap st))
  else if t.kind=3 then .ok (putS { nod0 1 with vk:=2,vn:=t.num } (zap st))
  else if t.kind=4 then .ok (putS { nod0 1 with vk:=4,vn:=t.num } (zap st))
  else if t.kind=5 then .ok (putS { nod0 2 with rect:=t.rect } (zap st))
  else if t.kind=9 then thenS (parS e f (.level 1) (zap st)) (ze4 e 10)
  else if t.kind=7 then parS e f (.call t) st
  else .error (t.at_,4)
 | f+1,.call name,st=>
  if fnOf name.text=0 then .error (name.at_,10) else
  thenS (ze4 e 9 (zap st)) λst=>if (zak e st).kind=10 then ze3 e name (fnOf name.text) 0 st else parS e f (.args name (fnOf name.text) 0) st
 | f+1,.args name fn n,st=>thenS (parS e f (.arg fn n) st) λst=>if (zak e st).kind=11 then parS e f (.args name fn (n+1)) (zap st) else ze3 e name fn (n+1) st
 | f+1,.arg fn n,st=>
  if (zak e st).kind≠6 then parS e f (.level 1) st
  else if (zcm fn n).1=false\/(zcm fn n).2≠0 then .error ((zak e st).at_,4)
  else .ok (putS { nod0 3 with rect:=(zak e st).rect } (zap st))
def zat (s:zaa):List Nod × Int:=
 if (zaf s).2≠0 then ([],(zaf s).2) else
 match parS s.length (10*(zaf s).1.length+20) (.level 1) ((zaf s).1,[]) with
 | .error e=>([],e.2)
 | .ok st=>if st.1≠ [] then ([],4) else if zb8 st.2≠0 then ([],zb8 st.2) else (st.2,0)
def ofE (s:zaa):Int:=
 if 256<s.length then 5 else if pltB s=false then 4 else if s.head?=some 61 then (zat s.tail).2 else 0
instance:Coe Int Value:=⟨.int .i64⟩
instance:CoeHead Ent (Array Value):=⟨λx=>#[.int .i64 x.at_.col,.int .i64 x.at_.row,str x.input]⟩
instance:CoeHead Rul (Array Value):=⟨λx=>#[.int .i64 x.rect.c1,.int .i64 x.rect.r1,.int .i64 x.rect.c2,.int .i64 x.rect.r2,.int .u64 x.rights.rd,.int .u64 x.rights.wr,.int .u64 x.rights.ow]⟩
instance:CoeHead Grt (Array Value):=⟨λx=>#[.int .i64 x.rect.c1,.int .i64 x.rect.r1,.int .i64 x.rect.c2,.int .i64 x.rect.r2,.int .u8 x.fns,.int .u64 x.to_,.int .i64 x.by_,.bool x.revoked]⟩
instance:CoeHead Evt (Array Value):=⟨λx=>#[.int .i64 x.step,.int .i64 x.user,.int .u8 x.kind,.int .i64 x.rect.c1,.int .i64 x.rect.r1,.int .i64 x.rect.c2,.int .i64 x.rect.r2,.bool x.done_,.int .u64 x.to_]⟩
instance:CoeHead Rls (Array Value):=⟨λx=>#[.int .i64 x.step,.int .i64 x.at_.col,.int .i64 x.at_.row,.int .i64 x.node,.int .u8 x.fn,.int .i64 x.rect.c1,.int .i64 x.rect.r1,.int .i64 x.rect.c2,.int .i64 x.rect.r2,.int .i64 x.grant,.int .u64 x.to_]⟩
instance:CoeHead Opr (Array Value):=⟨λx=>#[.int .u8 x.kind,.int .i64 x.user,.int .i64 x.rect.c1,.int .i64 x.rect.r1,.int .i64 x.rect.c2,.int .i64 x.rect.r2,str x.input,.int .u64 x.rights.rd,.int .u64 x.rights.wr,.int .u64 x.rights.ow,.int .u8 x.fns,.int .u64 x.to_,.int .i64 x.index]⟩
instance:CoeHead Tok (Array Value):=⟨λx=>#[.int .u8 x.kind,.int .i64 x.num,str x.text,.int .i64 x.rect.c1,.int .i64 x.rect.r1,.int .i64 x.rect.c2,.int .i64 x.rect.r2,.int .i64 x.at_]⟩
instance:CoeHead Nod (Array Value):=⟨λx=>#[.int .u8 x.kind,.int .u8 x.vk,.int .i64 x.vn,str x.vt,.int .i64 x.rect.c1,.int .i64 x.rect.r1,.int .i64 x.rect.c2,.int .i64 x.rect.r2,.int .i64 x.op,.int .u8 x.fn,.int .i64 x.n]⟩
instance:CoeHead Rct (Array Value):=⟨λx=>#[.int .i64 x.c1,.int .i64 x.r1,.int .i64 x.c2,.int .i64 x.r2]⟩
instance:CoeHead Ref (Array Value):=⟨λx=>#[.int .i64 x.col,.int .i64 x.row]⟩
instance:CoeHead Rts (Array Value):=⟨λx=>#[.int .u64 x.rd,.int .u64 x.wr,.int .u64 x.ow]⟩
structure aS_ where
 u:Unit:=()
def aS:aS_:={ }
instance:CoeDep aS_ (aS) (Array Value):=⟨#[.int .i64 0,.slice none 0 0,.slice none 0 0,.slice none 0 0,.slice none 0 0,.slice none 0 0,.int .i64 0,.slice none 0 0]⟩
structure aB_ where
 a:Int
def aB (a:Int):aB_:={ a:=a }
instance (a:Int):CoeDep aB_ (aB a) (Array Value):=⟨#[.int .i64 a,.slice none 0 0,.slice none 0 0,.slice none 0 0,.slice none 0 0,.slice none 0 0,.int .i64 0]⟩
structure aT_ where
 u:Unit:=()
def aT:aT_:={ }
instance:CoeDep aT_ (aT) (Array Value):=⟨#[.int .u8 0,.int .i64 0,str [],.int .i64 0,.int .i64 0,.int .i64 0,.int .i64 0,.int .i64 0]⟩
structure aU_ where
 u:Unit:=()
def aU:aU_:={ }
instance:CoeDep aU_ (aU) (Array Value):=⟨#[.int .u8 0,.int .i64 0,.string ⟨#[]⟩,.int .i64 0,.int .i64 0,.int .i64 0,.int .i64 0,.int .i64 0]⟩
structure aR_ where
 k:Int
 r:Rct
def aR (k:Int) (r:Rct):aR_:={ k:=k,r:=r }
instance (k:Int) (r:Rct):CoeDep aR_ (aR k r) (Array Value):=⟨#[.int .u8 k,.int .u8 0,.int .i64 0,str [],.int .i64 r.c1,.int .i64 r.r1,.int .i64 r.c2,.int .i64 r.r2,.int .i64 0,.int .u8 0,.int .i64 0]⟩
structure aF_ where
 f:Int
 n:Int
def aF (f:Int) (n:Int):aF_:={ f:=f,n:=n }
instance (f:Int) (n:Int):CoeDep aF_ (aF f n) (Array Value):=⟨#[.int .u8 7,.int .u8 0,.int .i64 0,str [],.int .i64 0,.int .i64 0,.int .i64 0,.int .i64 0,.int .i64 0,.int .u8 f,.int .i64 n]⟩
structure aO_ where
 k:Int
 a:Int
def aO (k:Int) (a:Int):aO_:={ k:=k,a:=a }
instance (k:Int) (a:Int):CoeDep aO_ (aO k a) (Array Value):=⟨#[.int .u8 k,.int .u8 0,.int .i64 0,str [],.int .i64 0,.int .i64 0,.int .i64 0,.int .i64 0,.int .i64 a,.int .u8 0,.int .i64 0]⟩
structure aV_ where
 k:Int
 a:Int
def aV (k:Int) (a:Int):aV_:={ k:=k,a:=a }
instance (k:Int) (a:Int):CoeDep aV_ (aV k a) (Array Value):=⟨#[.int .u8 1,.int .u8 k,.int .i64 a,str [],.int .i64 0,.int .i64 0,.int .i64 0,.int .i64 0,.int .i64 0,.int .u8 0,.int .i64 0]⟩
structure aX_ where
 b:zaa
def aX (b:zaa):aX_:={ b:=b }
instance (b:zaa):CoeDep aX_ (aX b) (Array Value):=⟨#[.int .u8 1,.int .u8 3,.int .i64 0,str b,.int .i64 0,.int .i64 0,.int .i64 0,.int .i64 0,.int .i64 0,.int .u8 0,.int .i64 0]⟩
structure aN_ where
 k:Int
def aN (k:Int):aN_:={ k:=k }
instance (k:Int):CoeDep aN_ (aN k) (Array Value):=⟨#[.int .u8 k,.int .u8 0,.int .i64 0,str [],.int .i64 0,.int .i64 0,.int .i64 0,.int .i64 0,.int .i64 0,.int .u8 0,.int .i64 0]⟩
structure aK_ where
 k:Int
def aK (k:Int):aK_:={ k:=k }
instance (k:Int):CoeDep aK_ (aK k) (Array Value):=⟨#[.int .u8 k,.int .i64 0,.int .i64 0,.int .i64 0,.int .i64 0,.int .i64 0,str [],.int .u64 0,.int .u64 0,.int .u64 0,.int .u8 0,.int .u64 0,.int .i64 0]⟩
structure aL_ where
 k:Int
def aL (k:Int):aL_:={ k:=k }
instance (k:Int):CoeDep aL_ (aL k) (Array Value):=⟨#[.int .u8 k,.int .i64 0,.int .i64 0,.int .i64 0,.int .i64 0,.int .i64 0,.string ⟨#[]⟩,.int .u64 0,.int .u64 0,.int .u64 0,.int .u8 0,.int .u64 0,.int .i64 0]⟩
structure aP_ where
 g:Nat
def aP (g:Nat):aP_:={ g:=g }
instance (g:Nat):CoeDep aP_ (aP g) (Array Value):=⟨#[.pointer (some ⟨g,0,none⟩)]⟩
structure aQ_ where
 g:Nat
 h:Nat
def aQ (g:Nat) (h:Nat):aQ_:={ g:=g,h:=h }
instance (g:Nat) (h:Nat):CoeDep aQ_ (aQ g h) (Array Value):=⟨#[.pointer (some ⟨g,0,none⟩),.pointer (some ⟨h,0,none⟩)]⟩
structure aZ_ where
 u:Unit:=()
def aZ:aZ_:={ }
instance:CoeDep aZ_ (aZ) (Array Value):=⟨#[str [],str [35,68,73,86,47,48,33],str [35,86,65,76,85,69,33],str [35,78,85,77,33],str [35,78,47,65],str [35,82,69,70,33],str [35,67,89,67,76,69,33]]⟩
structure aJ_ where
 k:Int
 u:Int
 a:Int
 b:Int
 c:Int
 d:Int
 s:zaa
 e:Int
 f:Int
 g:Int
 h:Int
 i:Int
 j:Int
def aJ (k:Int) (u:Int) (a:Int) (b:Int) (c:Int) (d:Int) (s:zaa) (e:Int) (f:Int) (g:Int) (h:Int) (i:Int) (j:Int):aJ_:={ k:=k,u:=u,a:=a,b:=b,c:=c,d:=d,s:=s,e:=e,f:=f,g:=g,h:=h,i:=i,j:=j }
instance (k:Int) (u:Int) (a:Int) (b:Int) (c:Int) (d:Int) (s:zaa) (e:Int) (f:Int) (g:Int) (h:Int) (i:Int) (j:Int):CoeDep aJ_ (aJ k u a b c d s e f g h i j) (Array Value):=⟨#[.int .u8 k,.int .i64 u,.int .i64 a,.int .i64 b,.int .i64 c,.int .i64 d,str s,.int .u64 e,.int .u64 f,.int .u64 g,.int .u8 h,.int .u64 i,.int .i64 j]⟩
structure aG_ where
 b:Bok
 p0:Option Addr
 p1:Option Addr
 p2:Option Addr
 p3:Option Addr
 p4:Option Addr
 c0:Nat
 c1:Nat
 c2:Nat
 c3:Nat
 c4:Nat
def aG (b:Bok) (p0:Option Addr) (p1:Option Addr) (p2:Option Addr) (p3:Option Addr) (p4:Option Addr) (c0:Nat) (c1:Nat) (c2:Nat) (c3:Nat) (c4:Nat):aG_:={ b:=b,p0:=p0,p1:=p1,p2:=p2,p3:=p3,p4:=p4,c0:=c0,c1:=c1,c2:=c2,c3:=c3,c4:=c4 }
instance (b:Bok) (p0:Option Addr) (p1:Option Addr) (p2:Option Addr) (p3:Option Addr) (p4:Option Addr) (c0:Nat) (c1:Nat) (c2:Nat) (c3:Nat) (c4:Nat):CoeDep aG_ (aG b p0 p1 p2 p3 p4 c0 c1 c2 c3 c4) (Array Value):=⟨#[.int .i64 b.users,.slice p0 b.entries.length c0,.slice p1 b.rules.length c1,.slice p2 b.grants.length c2,.slice p3 b.log.length c3,.slice p4 b.releases.length c4,.int .i64 b.step]⟩
structure aA_ where
 g:Nat
def aA (g:Nat):aA_:={ g:=g }
instance (g:Nat):CoeDep aA_ (aA g) Value:=⟨.pointer (some ⟨g,0,none⟩)⟩
theorem zfi (c r:Int) (w:World):
 Calls prog 168 #[.agg #[.int .i64 c,.int .i64 r]] w λe w'=>e=.returned (.bool (za6 c r))/\Below w w w':=by
 rcases zxd (1<=c) (c<=1024) (1<=r) (r<=1024) with ⟨h1,h2,h3,h4⟩ | h1 | ⟨h1,h2⟩ | ⟨h1,h2,h3⟩ | ⟨h1,h2,h3,h4⟩
 all_goals
  go_enter func168,ntmps168;go_wp2;go_ret;exact ⟨by simp[za6, *];try omega,by go_grown⟩
theorem zjj (c r:Int) (w:World):
 Calls prog 199 #[.agg #[.int .i64 c,.int .i64 r]] w λe w'=>e=.returned (.bool (za6 c r))/\Below w w w':=by
 rcases zxd (1<=c) (c<=1024) (1<=r) (r<=1024) with ⟨h1,h2,h3,h4⟩ | h1 | ⟨h1,h2⟩ | ⟨h1,h2,h3⟩ | ⟨h1,h2,h3,h4⟩
 all_goals
  go_enter func199,ntmps199;go_wp2;go_ret;exact ⟨by simp[za6, *];try omega,by go_grown⟩
theorem zpd (c r:Int) (w:World):
 Calls prog 204 #[.agg #[.int .i64 c,.int .i64 r]] w λe w'=>e=.returned (.bool (za6 c r))/\Below w w w':=by
 rcases zxd (1<=c) (c<=1024) (1<=r) (r<=1024) with ⟨h1,h2,h3,h4⟩ | h1 | ⟨h1,h2⟩ | ⟨h1,h2,h3⟩ | ⟨h1,h2,h3,h4⟩
 all_goals
  go_enter func204,ntmps204;go_wp2;go_ret;exact ⟨by simp[za6, *];try omega,by go_grown⟩
theorem zk6 (r r' c c':Int):r<r'\/(¬r<r'/\(r==r')=true/\(c<c'\/¬c<c'))\/(¬r<r'/\(r==r')=false/\¬r=r'):=by
 by_cases h:r<r'
 ·exact .inl h
 by_cases e:r=r'
 ·exact .inr (.inl ⟨h,by simp[e],by omega⟩)
 exact .inr (.inr ⟨h,by simp[e],e⟩)
theorem zxx (c r c' r':Int) (w:World):
 Calls prog 126 #[.agg #[.int .i64 c,.int .i64 r],.agg #[.int .i64 c',.int .i64 r']] w λe w'=>e=.returned (.bool (zh3 ⟨c,r⟩ ⟨c',r'⟩))/\Below w w w':=by
 rcases zk6 r r' c c' with h | ⟨h,e,h2 | h2⟩ | ⟨h,e,h2⟩
 all_goals
  go_enter func126,ntmps126;go_wp2;go_ret;exact ⟨by simp[zh3, *];try simp_all;try omega,by go_grown⟩
theorem zzd (c r c' r':Int) (w:World):
 Calls prog 137 #[.agg #[.int .i64 c,.int .i64 r],.agg #[.int .i64 c',.int .i64 r']] w λe w'=>e=.returned (.bool (zh3 ⟨c,r⟩ ⟨c',r'⟩))/\Below w w w':=by
 rcases zk6 r r' c c' with h | ⟨h,e,h2 | h2⟩ | ⟨h,e,h2⟩
 all_goals
  go_enter func137,ntmps137;go_wp2;go_ret;exact ⟨by simp[zh3, *];try simp_all;try omega,by go_grown⟩
end Go.Proofs.YtamcgggmfghljaaGreatDoor
