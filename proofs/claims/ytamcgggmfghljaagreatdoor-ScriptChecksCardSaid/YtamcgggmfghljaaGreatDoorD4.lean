/- Lists of api.Entry: equal or not (the kit's loop and the library's). -/
import Derived.Deep.QuietTactic
import Derived.BigQuiet
import Derived.Laws.IdiomStrings
import Derived.Test.YtamcgggmfghljaaGreatDoorD2
set_option maxRecDepth 100000
set_option maxHeartbeats 8000000
open Go.Proofs.Tryz
namespace Go.Proofs.YtamcgggmfghljaaGreatDoor
open Go.RowKit
theorem zj4 (v u:Value) (l m:List Ent) (B1 B2:Nat) (w:World) (hv:Sls cEnt w B1 v l) (hu:Sls cEnt w B2 u m):
 Calls prog 118 #[v,u] w fun e w'=>e=.returned (.bool (decide (l=m)))∧Same w w':=by
 obtain ⟨A1,cap1,rfl,hc1,hm1,hr1⟩:=id hv
 obtain ⟨A2,cap2,rfl,hc2,hm2,hr2⟩:=id hu
 have HV:=Hd hv
 have HU:=Hd hu
 clear hr1 hr2 hv hu
 unfold maxLen at hm1 hm2
 by_cases hl:l.length=m.length
 rotate_left
 ·have h0:((l.length:Int) != (m.length:Int))=true:=by simpa using fun e=>hl (by omega)
  have h1:(l.length != m.length)=true:=by simpa using hl
  have hne:¬l=m:=fun e=>hl (by rw [e])
  have HN:=Hd hne
  clear hne
  go_enter func118,ntmps118
  go_wp2
  go_ret
  exact ⟨by simp [HN.out],Same.refl _⟩
 have h0:((l.length:Int) != (m.length:Int))=false:=by simp [hl]
 have h1:(l.length != m.length)=false:=by simp [hl]
 have HL:=Hd hl
 clear hl
 go_enter func118,ntmps118
 go_wp2
 go_loopw [5] (fun i wr=>∃k:Nat,k≤l.length∧i=.int .i64 k∧l.take k=m.take k∧Same w wr) (fun i _=>l.length-(intOf i).toNat)
 case atStart=>exact ⟨0,by omega,rfl,by simp,Same.refl _⟩
 obtain ⟨k,hk,rfl,he,hs⟩:=hrel
 have HE:=Hd he
 clear he
 by_cases hlt:k<l.length
 rotate_left
 ·go_wp2
  go_ret
  have h1:k=l.length:=by omega
  have h2:=HE.out
  rw [h1,List.take_length,HL.out,List.take_length] at h2
  exact ⟨by simp [h2],hs⟩
 have hx:l[k]?=some l[k]:=List.getElem?_eq_getElem hlt
 have hlt2:k<m.length:=by rw [← HL.out];exact hlt
 have hy:m[k]?=some m[k]:=List.getElem?_eq_getElem hlt2
 obtain ⟨b1,o1,rfl,_,r1⟩:=(HV.out.same hs).get 3 zbw hx
 obtain ⟨b2,o2,rfl,_,r2⟩:=(HU.out.same hs).get 3 zbw hy
 have ht1:l.take (k+1)=l.take k++ [l[k]]:=by rw [List.take_succ_eq_append_getElem hlt]
 have ht2:m.take (k+1)=m.take k++ [m[k]]:=by rw [List.take_succ_eq_append_getElem hlt2]
 have HT1:=Hd ht1
 have HT2:=Hd ht2
 have HS:=Hd hs
 clear hx hy ht1 ht2 hs
 generalize l[k]=x at *
 generalize m[k]=y at *
 have r1_0:wr.cell? ⟨b1,o1+k*3,none⟩=some (.int .i64 x.at_.col):=r1 0 _ rfl
 have r1_1:wr.cell? ⟨b1,o1+k*3+1,none⟩=some (.int .i64 x.at_.row):=r1 1 _ rfl
 have r1_2:wr.cell? ⟨b1,o1+k*3+2,none⟩=some (str x.input):=r1 2 _ rfl
 have r2_0:wr.cell? ⟨b2,o2+k*3,none⟩=some (.int .i64 y.at_.col):=r2 0 _ rfl
 have r2_1:wr.cell? ⟨b2,o2+k*3+1,none⟩=some (.int .i64 y.at_.row):=r2 1 _ rfl
 have r2_2:wr.cell? ⟨b2,o2+k*3+2,none⟩=some (str y.input):=r2 2 _ rfl
 have hn:∀W,(binOp .neq 58 (.agg #[.int .i64 x.at_.col,.int .i64 x.at_.row,str x.input]) (.agg #[.int .i64 y.at_.col,.int .i64 y.at_.row,str y.input])).run prog W=.ok (.bool (!decide (x=y))) W:=fun W=>zyu x y W
 have hi0:(0:Int)≤(k:Int):=Int.natCast_nonneg _
 have hi1:(k:Int)<(l.length:Int):=by omega
 have hi2:(k:Int)<(m.length:Int):=by omega
 clear r1 r2
 by_cases hxy:x=y
 ·have hd:decide (x=y)=true:=by simpa using hxy
  rw [hd] at hn
  have HXY:=Hd hxy
  clear hd hxy
  go_wp2
  go_quiet (fail)
  go_wp2
  exact ⟨⟨k+1,by omega,by go_num,by rw [HT1.out,HT2.out,HE.out,HXY.out],HS.out.drewN _⟩,by simp [intOf];omega⟩
 have hd:decide (x=y)=false:=by simpa using hxy
 rw [hd] at hn
 have HXY:=Hd hxy
 clear hd hxy
 go_wp2
 go_quiet (fail)
 go_wp2
 go_ret
 have hne:¬l=m:=by
  intro e
  have h2:=HT1.out
  rw [e,HT2.out,← HE.out] at h2
  exact HXY.out (by simpa using h2.symm)
 exact ⟨by simp [hne],HS.out.drewN _⟩
theorem zj1 (v u:Value) (l m:List Opr) (B1 B2:Nat) (w:World) (hv:Sls cOpr w B1 v l) (hu:Sls cOpr w B2 u m):
 Calls prog 34 #[v,u] w fun e w'=>e=.returned (.bool (decide (l=m)))∧Same w w':=by
 obtain ⟨A1,cap1,rfl,hc1,hm1,hr1⟩:=id hv
 obtain ⟨A2,cap2,rfl,hc2,hm2,hr2⟩:=id hu
 have HV:=Hd hv
 have HU:=Hd hu
 clear hr1 hr2 hv hu
 unfold maxLen at hm1 hm2
 by_cases hl:l.length=m.length
 rotate_left
 ·have h0:((l.length:Int) != (m.length:Int))=true:=by simpa using fun e=>hl (by omega)
  have h1:(l.length != m.length)=true:=by simpa using hl
  have hne:¬l=m:=fun e=>hl (by rw [e])
  have HN:=Hd hne
  clear hne
  go_enter func34,ntmps34
  go_wp2
  go_ret
  exact ⟨by simp [HN.out],Same.refl _⟩
 have h0:((l.length:Int) != (m.length:Int))=false:=by simp [hl]
 have h1:(l.length != m.length)=false:=by simp [hl]
 have HL:=Hd hl
 clear hl
 go_enter func34,ntmps34
 go_wp2
 go_loopw [5] (fun i wr=>∃k:Nat,k≤l.length∧i=.int .i64 k∧l.take k=m.take k∧Same w wr) (fun i _=>l.length-(intOf i).toNat)
 case atStart=>exact ⟨0,by omega,rfl,by simp,Same.refl _⟩
 obtain ⟨k,hk,rfl,he,hs⟩:=hrel
 have HE:=Hd he
 clear he
 by_cases hlt:k<l.length
 rotate_left
 ·go_wp2
  go_ret
  have h1:k=l.length:=by omega
  have h2:=HE.out
  rw [h1,List.take_length,HL.out,List.take_length] at h2
  exact ⟨by simp [h2],hs⟩
 have hx:l[k]?=some l[k]:=List.getElem?_eq_getElem hlt
 have hlt2:k<m.length:=by rw [← HL.out];exact hlt
 have hy:m[k]?=some m[k]:=List.getElem?_eq_getElem hlt2
 obtain ⟨b1,o1,rfl,_,r1⟩:=(HV.out.same hs).get 13 zdl hx
 obtain ⟨b2,o2,rfl,_,r2⟩:=(HU.out.same hs).get 13 zdl hy
 have ht1:l.take (k+1)=l.take k++ [l[k]]:=by rw [List.take_succ_eq_append_getElem hlt]
 have ht2:m.take (k+1)=m.take k++ [m[k]]:=by rw [List.take_succ_eq_append_getElem hlt2]
 have HT1:=Hd ht1
 have HT2:=Hd ht2
 have HS:=Hd hs
 clear hx hy ht1 ht2 hs
 generalize l[k]=x at *
 generalize m[k]=y at *
 have r1_0:wr.cell? ⟨b1,o1+k*13,none⟩=some (.int .u8 x.kind):=r1 0 _ rfl
 have r1_1:wr.cell? ⟨b1,o1+k*13+1,none⟩=some (.int .i64 x.user):=r1 1 _ rfl
 have r1_2:wr.cell? ⟨b1,o1+k*13+2,none⟩=some (.int .i64 x.rect.c1):=r1 2 _ rfl
 have r1_3:wr.cell? ⟨b1,o1+k*13+3,none⟩=some (.int .i64 x.rect.r1):=r1 3 _ rfl
 have r1_4:wr.cell? ⟨b1,o1+k*13+4,none⟩=some (.int .i64 x.rect.c2):=r1 4 _ rfl
 have r1_5:wr.cell? ⟨b1,o1+k*13+5,none⟩=some (.int .i64 x.rect.r2):=r1 5 _ rfl
 have r1_6:wr.cell? ⟨b1,o1+k*13+6,none⟩=some (str x.input):=r1 6 _ rfl
 have r1_7:wr.cell? ⟨b1,o1+k*13+7,none⟩=some (.int .u64 x.rights.rd):=r1 7 _ rfl
 have r1_8:wr.cell? ⟨b1,o1+k*13+8,none⟩=some (.int .u64 x.rights.wr):=r1 8 _ rfl
 have r1_9:wr.cell? ⟨b1,o1+k*13+9,none⟩=some (.int .u64 x.rights.ow):=r1 9 _ rfl
 have r1_10:wr.cell? ⟨b1,o1+k*13+10,none⟩=some (.int .u8 x.fns):=r1 10 _ rfl
 have r1_11:wr.cell? ⟨b1,o1+k*13+11,none⟩=some (.int .u64 x.to_):=r1 11 _ rfl
 have r1_12:wr.cell? ⟨b1,o1+k*13+12,none⟩=some (.int .i64 x.index):=r1 12 _ rfl
 have r2_0:wr.cell? ⟨b2,o2+k*13,none⟩=some (.int .u8 y.kind):=r2 0 _ rfl
 have r2_1:wr.cell? ⟨b2,o2+k*13+1,none⟩=some (.int .i64 y.user):=r2 1 _ rfl
 have r2_2:wr.cell? ⟨b2,o2+k*13+2,none⟩=some (.int .i64 y.rect.c1):=r2 2 _ rfl
 have r2_3:wr.cell? ⟨b2,o2+k*13+3,none⟩=some (.int .i64 y.rect.r1):=r2 3 _ rfl
 have r2_4:wr.cell? ⟨b2,o2+k*13+4,none⟩=some (.int .i64 y.rect.c2):=r2 4 _ rfl
 have r2_5:wr.cell? ⟨b2,o2+k*13+5,none⟩=some (.int .i64 y.rect.r2):=r2 5 _ rfl
 have r2_6:wr.cell? ⟨b2,o2+k*13+6,none⟩=some (str y.input):=r2 6 _ rfl
 have r2_7:wr.cell? ⟨b2,o2+k*13+7,none⟩=some (.int .u64 y.rights.rd):=r2 7 _ rfl
 have r2_8:wr.cell? ⟨b2,o2+k*13+8,none⟩=some (.int .u64 y.rights.wr):=r2 8 _ rfl
 have r2_9:wr.cell? ⟨b2,o2+k*13+9,none⟩=some (.int .u64 y.rights.ow):=r2 9 _ rfl
 have r2_10:wr.cell? ⟨b2,o2+k*13+10,none⟩=some (.int .u8 y.fns):=r2 10 _ rfl
 have r2_11:wr.cell? ⟨b2,o2+k*13+11,none⟩=some (.int .u64 y.to_):=r2 11 _ rfl
 have r2_12:wr.cell? ⟨b2,o2+k*13+12,none⟩=some (.int .i64 y.index):=r2 12 _ rfl
 have hn:∀W,(binOp .neq 48 (.agg #[.int .u8 x.kind,.int .i64 x.user,.int .i64 x.rect.c1,.int .i64 x.rect.r1,.int .i64 x.rect.c2,.int .i64 x.rect.r2,str x.input,.int .u64 x.rights.rd,.int .u64 x.rights.wr,.int .u64 x.rights.ow,.int .u8 x.fns,.int .u64 x.to_,.int .i64 x.index]) (.agg #[.int .u8 y.kind,.int .i64 y.user,.int .i64 y.rect.c1,.int .i64 y.rect.r1,.int .i64 y.rect.c2,.int .i64 y.rect.r2,str y.input,.int .u64 y.rights.rd,.int .u64 y.rights.wr,.int .u64 y.rights.ow,.int .u8 y.fns,.int .u64 y.to_,.int .i64 y.index])).run prog W=.ok (.bool (!decide (x=y))) W:=fun W=>zyr x y W
 have hi0:(0:Int)≤(k:Int):=Int.natCast_nonneg _
 have hi1:(k:Int)<(l.length:Int):=by omega
 have hi2:(k:Int)<(m.length:Int):=by omega
 clear r1 r2
 by_cases hxy:x=y
 ·have hd:decide (x=y)=true:=by simpa using hxy
  rw [hd] at hn
  have HXY:=Hd hxy
  clear hd hxy
  go_wp2
  go_quiet (fail)
  go_wp2
  exact ⟨⟨k+1,by omega,by go_num,by rw [HT1.out,HT2.out,HE.out,HXY.out],HS.out.drewN _⟩,by simp [intOf];omega⟩
 have hd:decide (x=y)=false:=by simpa using hxy
 rw [hd] at hn
 have HXY:=Hd hxy
 clear hd hxy
 go_wp2
 go_quiet (fail)
 go_wp2
 go_ret
 have hne:¬l=m:=by
  intro e
  have h2:=HT1.out
  rw [e,HT2.out,← HE.out] at h2
  exact HXY.out (by simpa using h2.symm)
 exact ⟨by simp [hne],HS.out.drewN _⟩
theorem zef (c r:Int) (w:World):
 Calls prog 168 #[.agg #[.int .i64 c,.int .i64 r]] w fun e w'=>e=.returned (.bool (za1 c r))∧Below w.heap.size w w':=by
 rcases zs1 (1≤c) (c≤1024) (1≤r) (r≤1024) with ⟨h1,h2,h3,h4⟩ | h1 | ⟨h1,h2⟩ | ⟨h1,h2,h3⟩ | ⟨h1,h2,h3,h4⟩
 all_goals
  go_enter func168,ntmps168
  go_wp2
  go_ret
  exact ⟨by simp [za1, *];try omega,by go_grown⟩
theorem zhi (c r:Int) (w:World):
 Calls prog 199 #[.agg #[.int .i64 c,.int .i64 r]] w fun e w'=>e=.returned (.bool (za1 c r))∧Below w.heap.size w w':=by
 rcases zs1 (1≤c) (c≤1024) (1≤r) (r≤1024) with ⟨h1,h2,h3,h4⟩ | h1 | ⟨h1,h2⟩ | ⟨h1,h2,h3⟩ | ⟨h1,h2,h3,h4⟩
 all_goals
  go_enter func199,ntmps199
  go_wp2
  go_ret
  exact ⟨by simp [za1, *];try omega,by go_grown⟩
theorem zmc (c r:Int) (w:World):
 Calls prog 204 #[.agg #[.int .i64 c,.int .i64 r]] w fun e w'=>e=.returned (.bool (za1 c r))∧Below w.heap.size w w':=by
 rcases zs1 (1≤c) (c≤1024) (1≤r) (r≤1024) with ⟨h1,h2,h3,h4⟩ | h1 | ⟨h1,h2⟩ | ⟨h1,h2,h3⟩ | ⟨h1,h2,h3,h4⟩
 all_goals
  go_enter func204,ntmps204
  go_wp2
  go_ret
  exact ⟨by simp [za1, *];try omega,by go_grown⟩
theorem ziy (r r' c c':Int):r<r'∨(¬r<r'∧(r==r')=true∧(c<c'∨¬c<c'))∨(¬r<r'∧(r==r')=false∧¬r=r'):=by
 by_cases h:r<r'
 ·exact .inl h
 by_cases e:r=r'
 ·exact .inr (.inl ⟨h,by simp [e],by omega⟩)
 exact .inr (.inr ⟨h,by simp [e],e⟩)
theorem ztj (c r c' r':Int) (w:World):
 Calls prog 126 #[.agg #[.int .i64 c,.int .i64 r],.agg #[.int .i64 c',.int .i64 r']] w fun e w'=>e=.returned (.bool (zgb ⟨c,r⟩ ⟨c',r'⟩))∧Below w.heap.size w w':=by
 rcases ziy r r' c c' with h | ⟨h,e,h2 | h2⟩ | ⟨h,e,h2⟩
 all_goals
  go_enter func126,ntmps126
  go_wp2
  go_ret
  exact ⟨by simp [zgb, *];try simp_all;try omega,by go_grown⟩
theorem zux (c r c' r':Int) (w:World):
 Calls prog 137 #[.agg #[.int .i64 c,.int .i64 r],.agg #[.int .i64 c',.int .i64 r']] w fun e w'=>e=.returned (.bool (zgb ⟨c,r⟩ ⟨c',r'⟩))∧Below w.heap.size w w':=by
 rcases ziy r r' c c' with h | ⟨h,e,h2 | h2⟩ | ⟨h,e,h2⟩
 all_goals
  go_enter func137,ntmps137
  go_wp2
  go_ret
  exact ⟨by simp [zgb, *];try simp_all;try omega,by go_grown⟩
def ub (s:zaa) (i:Nat):Nat:=(s.getD i 0).toNat
def digB (c:UInt8):Bool:=decide (48≤c.toNat)&&decide (c.toNat≤57)
def letB (c:UInt8):Bool:=(decide (65≤c.toNat)&&decide (c.toNat≤90))||(decide (97≤c.toNat)&&decide (c.toNat≤122))
def alnB (c:UInt8):Bool:=letB c||digB c
def lenB (p:UInt8→Bool) (s:zaa) (i:Nat):Nat:=((s.drop i).takeWhile p).length
def zci:Nat:=9223372036854775807
def natB:Nat→zaa→Nat
 | v,[]=>v
 | v,c::s=>natB (10*v+(c.toNat-48)) s
def negB (s:zaa):Bool:=s.head?==some 45
def unsB (s:zaa):zaa:=if negB s then s.tail else s
def zcn:zaa→Option zaa
 | []=>some []
 | c::t=>if c=46∧t≠ []∧t.all digB=true then some t else none
def zgf (p:zaa):zaa:=p++ [48,48,48,48,48]
def zhb (whole p:zaa):Nat:=natB 0 (whole++(zgf p).take 4)+if 53≤ub (zgf p) 4 then 1 else 0
def zbc (s:zaa):Int × Int:=
 match zcn ((unsB s).drop (lenB digB (unsB s) 0)) with
 | none=>(0,4)
 | some p=>
  if lenB digB (unsB s) 0=0 then (0,4)
  else if zci<zhb ((unsB s).take (lenB digB (unsB s) 0)) p then (0,3)
  else (if negB s then -(zhb ((unsB s).take (lenB digB (unsB s) 0)) p:Int) else zhb ((unsB s).take (lenB digB (unsB s) 0)) p,0)
structure Pcs where
 m0:Int
 m1:Int
 v0:Int
 v1:Int
 ok:Bool
def addP (p:Pcs) (c:Nat) (letter:Bool):Pcs:=
 if letter then { p with ok:=p.ok&&decide (p.m1=0),m0:=p.m0+1,v0:=min (26*p.v0+((c:Int)-65)+1) 1025 }
 else { p with ok:=p.ok&&(decide (c≠48)||decide (0<p.m1)),m1:=p.m1+1,v1:=min (10*p.v1+((c:Int)-48)) 1025 }
def zcf (p:Pcs) (c:UInt8):Pcs:=
 if 97≤c.toNat∧c.toNat≤122 then addP p (c.toNat-32) true
 else if 65≤c.toNat∧c.toNat≤90 then addP p c.toNat true
 else if digB c then addP p c.toNat false
 else { p with ok:=false }
def zas (s:zaa):Pcs:=s.foldl zcf ⟨0,0,0,0,true⟩
def parA (s:zaa):Ref × Int:=
 if (zas s).ok=false∨(zas s).m0=0∨(zas s).m1=0 then (⟨0,0⟩,4)
 else if za1 (zas s).v0 (zas s).v1 then (⟨(zas s).v0,(zas s).v1⟩,0) else (⟨0,0⟩,3)
def unqL:zaa→Option zaa
 | []=>some []
 | [c]=>if c=34 then none else some [c]
 | c::d::t=>if c=34 then (if d=34 then (unqL t).map (34::·) else none) else (unqL (d::t)).map (c::·)
def pltB (s:zaa):Bool:=s.all fun c=>decide (32≤c.toNat)&&decide (c.toNat≤126)
def unqB (s:zaa):zaa × Int:=
 if s.length<2∨ub s 0≠34∨ub s (s.length-1)≠34∨pltB s=false then ([],4)
 else match unqL ((s.drop 1).take (s.length-2)) with
  | none=>([],4)
  | some o=>if 256<o.length then ([],5) else (o,0)
def upU (c:UInt8):UInt8:=if 97≤c.toNat∧c.toNat≤122 then UInt8.ofNat (c.toNat-32) else c
structure Tok where
 kind:Int
 num:Int
 text:zaa
 rect:Rct
 at_:Int
 deriving DecidableEq
def z4:Rct:=⟨0,0,0,0⟩
def tok0:Tok:=⟨0,0,[],z4,0⟩
def dotB (s:zaa) (p:Nat):Bool:=decide (p+1<s.length)&&decide (ub s p=46)&&digB (s.getD (p+1) 0)
def zbe (s:zaa) (i:Nat):Nat:=
 if dotB s (i+lenB digB s i) then lenB digB s i+1+lenB digB s (i+lenB digB s i+1) else lenB digB s i
def zao (s:zaa) (i:Nat):Tok × Nat:=
 if lenB digB s i=0 then (tok0,0)
 else if dotB s (i+lenB digB s i)=true∧4<lenB digB s (i+lenB digB s i+1) then (tok0,0)
 else if (zbc ((s.drop i).take (zbe s i))).2≠0 then (tok0,0)
 else (⟨1,(zbc ((s.drop i).take (zbe s i))).1,[],z4,i⟩,zbe s i)
def endQ (s:zaa):Nat→Nat→Option Nat
 | 0,_=>none
 | f+1,k=>if s.length≤k then none else if ub s k≠34 then endQ s f (k+1) else if k+1<s.length∧ub s (k+1)=34 then endQ s f (k+2) else some k
def zc1 (s:zaa) (i:Nat):Tok × Nat:=
 if ub s i≠34 then (tok0,0) else
 match endQ s s.length (i+1) with
 | none=>(tok0,0)
 | some k=>if (unqB ((s.drop i).take (k+1-i))).2≠0 then (tok0,0) else (⟨3-1,0,(unqB ((s.drop i).take (k+1-i))).1,z4,i⟩,k+1-i)
def zaf (s:zaa) (i:Nat):zaa:=((s.drop i).take (lenB alnB s i)).map upU
def zlk (a b:Ref):Rct:=⟨min a.col b.col,min a.row b.row,max a.col b.col,max a.row b.row⟩
def ztu:zaa:=[84,82,85,69]
def zn6:zaa:=[70,65,76,83,69]
def twoB (s:zaa) (p:Nat):Bool:=decide (ub s p=58)&&letB (s.getD (p+1) 0)&&decide ((parA (zaf s (p+1))).2=0)&&decide (ub s (p+1+(zaf s (p+1)).length)≠40)
def zbj (s:zaa) (i:Nat):Tok × Nat:=
 if letB (s.getD i 0)=false then (tok0,0)
 else if ub s (i+(zaf s i).length)=40 then (⟨7,0,zaf s i,z4,i⟩,(zaf s i).length)
 else if zaf s i=ztu then (⟨3,1,[],z4,i⟩,(zaf s i).length)
 else if zaf s i=zn6 then (⟨3,0,[],z4,i⟩,(zaf s i).length)
 else if (parA (zaf s i)).2≠0 then (tok0,0)
 else if twoB s (i+(zaf s i).length) then
  (⟨if (parA (zaf s i)).1=(parA (zaf s (i+(zaf s i).length+1))).1 then 5 else 6,0,[],zlk (parA (zaf s i)).1 (parA (zaf s (i+(zaf s i).length+1))).1,i⟩,(zaf s i).length+1+(zaf s (i+(zaf s i).length+1)).length)
 else (⟨5,0,[],⟨(parA (zaf s i)).1.col,(parA (zaf s i)).1.row,(parA (zaf s i)).1.col,(parA (zaf s i)).1.row⟩,i⟩,(zaf s i).length)
def zfw:List zaa:=[[35,68,73,86,47,48,33],[35,86,65,76,85,69,33],[35,78,85,77,33],[35,78,47,65],[35,82,69,70,33]]
def zdd (s:zaa) (i:Nat):Int→List zaa→Tok × Nat
 | _,[]=>(tok0,0)
 | code,x::l=>if i+x.length≤s.length∧((s.drop i).take x.length).map upU=x then (⟨4,code,[],z4,i⟩,x.length) else zdd s i (code+1) l
def zc6 (s:zaa) (i:Nat):Tok × Nat:=zdd s i 1 zfw
def opsW:List (zaa × Int):=[([60,62],8),([60,61],10),([62,61],12),([43],1),([45],2),([42],3),([47],4),([94],5),([38],6),([61],7),([60],9),([62],11),([37],13)]
def opsL (s:zaa) (i:Nat):List (zaa × Int)→Option (Tok × Nat)
 | []=>none
 | (x,n)::l=>if x.isPrefixOf (s.drop i) then some (⟨8,n,[],z4,i⟩,x.length) else opsL s i l
def zc3 (s:zaa) (i:Nat):Tok × Nat:=
 match opsL s i opsW with
 | some r=>r
 | none=>if ub s i=40 then (⟨9,0,[],z4,i⟩,1) else if ub s i=41 then (⟨10,0,[],z4,i⟩,1) else if ub s i=44 then (⟨11,0,[],z4,i⟩,1) else (tok0,0)
def zck (s:zaa) (i:Nat):Tok × Nat:=
 if 0<(zao s i).2 then zao s i else if 0<(zc1 s i).2 then zc1 s i else if 0<(zbj s i).2 then zbj s i else if 0<(zc6 s i).2 then zc6 s i else zc3 s i
def zd1 (s:zaa):Nat→Nat→Option (List Tok)
 | 0,_=>none
 | f+1,i=>if s.length≤i then some [] else if ub s i=32 then zd1 s f (i+1) else if (zck s i).2=0 then none else (zd1 s f (i+(zck s i).2)).map ((zck s i).1::·)
def zae (s:zaa):List Tok × Int:=
 if 256<s.length then ([],5) else if pltB s=false then ([],4) else match zd1 s (s.length+1) 0 with
  | none=>([],4)
  | some l=>(l,0)
theorem zqk {p:UInt8→Bool}:∀(l:zaa) (k:Nat),k≤l.length→(l.take k).all p=true→(∀c,l[k]?=some c→p c=false)→(l.takeWhile p).length=k
 | l,0,_,_,h=>by
  cases l with
  | nil=>rfl
  | cons c l=>rw [List.takeWhile_cons_of_neg (by rw [h c rfl];simp)];rfl
 | [],k+1,hk,_,_=>by simp at hk
 | c::l,k+1,hk,ha,h=>by
  simp only [List.take_succ_cons,List.all_cons,Bool.and_eq_true] at ha
  rw [List.takeWhile_cons_of_pos ha.1,List.length_cons,zqk l k (by simpa using hk) ha.2 (fun c hc=>h c (by simpa using hc))]
theorem zwu {p:UInt8→Bool} (s:ByteArray) (k:Nat) (h:k<s.size) (ha:(s.data.toList.take k).all p=true) (hc:p s[k]=true):(s.data.toList.take (k+1)).all p=true:=by
 have hk:k<s.data.toList.length:=by simpa using h
 rw [List.take_succ_eq_append_getElem hk,List.all_append,ha]
 simp only [List.all_cons,List.all_nil,Bool.and_true,Bool.true_and]
 exact hc
theorem zxd (s:ByteArray) (k:Nat) (h:k<s.size):s.data.toList[k]?=some s[k]:=by
 have hk:k<s.data.toList.length:=by simpa using h
 rw [List.getElem?_eq_getElem hk]
 rfl
theorem ze7 (s:ByteArray) (w:World) (hl:s.size≤1000000000):
 Calls prog 244 #[.string s] w fun u w'=>u=.returned (.int .i64 (lenB digB s.data.toList 0))∧w=w':=by
 go_enter func244,ntmps244
 go_wp2
 go_loopw [6] (fun i wr=>∃k:Nat,k≤s.size∧i=.int .i64 k∧(s.data.toList.take k).all digB=true∧w=wr) (fun i _=>s.size-(intOf i).toNat)
 case atStart=>exact ⟨0,by omega,rfl,by simp,rfl⟩
 obtain ⟨k,hk,rfl,ha,rfl⟩:=hrel
 have HA:=Hd ha
 clear ha
 by_cases hlt:k<s.size
 rotate_left
 ·have hk2:k=s.size:=by omega
  have HE:=Hd (show lenB digB s.data.toList 0=s.size from zqk _ _ (by simp) (by have:=HA.out;rw [hk2] at this;exact this) (fun c hc=>by simp at hc))
  clear hk2
  go_wp2
  go_ret
  exact ⟨by rw [HE.out];rfl,rfl⟩
 have hi0:(0:Int)≤(k:Int):=Int.natCast_nonneg _
 have hi1:(k:Int)<(s.size:Int):=by omega
 have hd:=zwu s k hlt HA.out
 have HG:=Hd (zxd s k hlt)
 by_cases hdig:digB s[k]=true
 ·have HD:=Hd (hd hdig)
  have d1:¬((s[k].toNat:Int)<48):=by simp [digB] at hdig;omega
  have d2:¬(57<(s[k].toNat:Int)):=by simp [digB] at hdig;omega
  clear hd hdig
  go_wp2
  exact ⟨⟨k+1,by omega,by go_num,HD.out,trivial⟩,by simp [intOf];omega⟩
 have HN:=Hd (show digB s[k]=false by simpa using hdig)
 have dd:((s[k].toNat:Int)<48)∨(57<(s[k].toNat:Int)):=by simp [digB] at hdig;omega
 have HE:=Hd (show lenB digB s.data.toList 0=k from zqk _ k (by simp;omega) HA.out (fun c hc=>by rw [List.drop_zero,HG.out] at hc;cases hc;exact HN.out))
 clear hd hdig
 rcases dd with dd | dd
 ·go_wp2
  go_ret
  exact ⟨by rw [HE.out];rfl,rfl⟩
 have dd2:¬((s[k].toNat:Int)<48):=by omega
 go_wp2
 go_ret
 exact ⟨by rw [HE.out];rfl,rfl⟩
theorem zfn (lo:Int) (n:Bool) (w:World) (h0:0≤lo) (h1:lo≤9223372036854775807):
 Calls prog 245 #[.int .u64 0,.int .u64 lo,.bool n] w fun u w'=>u=.returned (.tuple #[.int .i64 (if n=true then -lo else lo),.bool true])∧w=w':=by
 have hn:¬9223372036854775807<lo:=by omega
 cases n with
 | true=>
  go_enter func245,ntmps245
  go_wp2
  go_ret2
  exact ⟨rfl,rfl⟩
 | false=>
  go_enter func245,ntmps245
  go_wp2
  go_ret2
  exact ⟨rfl,rfl⟩
end Go.Proofs.YtamcgggmfghljaaGreatDoor
