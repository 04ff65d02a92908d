/- walk -/
import Derived.BigQuiet
import Derived.Deep.QuietTactic
import Derived.Laws.IdiomStrings
import Derived.RangeFuncFrom
import Derived.RangeFuncNested
import Derived.RangeFuncBound
import Derived.RangeFuncCalls
import Derived.RangeFuncLeaves
import Derived.Shelf.Abstract
import Derived.Shelf.RegionOpen
import Derived.OwnWalkIn
import Derived.TacticsInMore
import Derived.LoopNIn
import Derived.LoopIn
import Derived.RegionTactic
import Derived.ChangeAlike
import Derived.BigRegion
import Derived.Test.YtamcgggmfghljaaGreatDoorE3
set_option maxRecDepth 100000
set_option maxHeartbeats 8000000
open Go.Proofs.Tryz
namespace Go.Proofs.YtamcgggmfghljaaGreatDoor
open Go.RowKit
open Go.RowKit Go.Shelf
variable {g:Nat} {t:TypeId} {w:World}
theorem zua {p:UInt8->Bool}:∀(l:zaa) (k:Nat),k<=l.length->(l.take k).all p=true->(∀c,l[k]?=some c->p c=false)->(l.takeWhile p).length=k
 | l,0,_,_,h=>by
  cases l with
  | nil=>rfl
  | cons c l=>rw[List.takeWhile_cons_of_neg (by rw[h c rfl];simp)];rfl
 | [],k+1,hk,_,_=>by simp at hk
 | c::l,k+1,hk,ha,h=>by
  simp only[jr,List.all_cons,ji] at ha;rw[List.takeWhile_cons_of_pos ha.1,jk,zua l k (by simpa using hk) ha.2 (λc hc=>h c (by simpa using hc))]
theorem z0x {p:UInt8->Bool} (s:ByteArray) (k:Nat) (h:k<s.size) (ha:(s.data.toList.take k).all p=true) (hc:p s[k]=true):(s.data.toList.take (k+1)).all p=true:=by
 have hk:k<s.data.toList.length:=by simpa using h
 rw[jC hk,List.all_append,ha];simp only[List.all_cons,List.all_nil,Bool.and_true,Bool.true_and];exact hc
theorem z1g (s:ByteArray) (k:Nat) (h:k<s.size):s.data.toList[k]?=some s[k]:=by
 have hk:k<s.data.toList.length:=by simpa using h
 rw[jz hk];rfl
theorem zgl (s:ByteArray) (w:World) (hl:s.size<=1000000000):
 Calls prog 244 #[.string s] w λu w'=>u=.returned (.int .i64 (lenB digB s.data.toList 0))/\w=w':=by
 go_enter func244,ntmps244;go_wp2;go_loopw [6] (λi wr=>∃k:Nat,k<=s.size/\i=.int .i64 k/\(s.data.toList.take k).all digB=true/\w=wr) (λi _=>s.size-(intOf i).toNat)
 case atStart=>exact ⟨0,by omega,rfl,by simp,rfl⟩
 obtain ⟨k,hk,rfl,ha,rfl⟩:=hrel;have HA:=Hd ha;clear ha;by_cases hlt:k<s.size;rotate_left
 ·have hk2:k=s.size:=by omega
  have HE:=jM (lenB digB s.data.toList 0=s.size) (zua _ _ (by simp) (by have:=HA.o;rw[hk2] at this;exact this) (λc hc=>by simp at hc));clear hk2;go_wp2;go_ret;exact ⟨by rw[HE.o];rfl,rfl⟩
 have hi0:(0:Int)<=(k:Int):=jw _;have hi1:(k:Int)<(s.size:Int):=by omega
 have hd:=z0x s k hlt HA.o;have HG:=Hd (z1g s k hlt);by_cases hdig:digB s[k]=true
 ·have HD:=Hd (hd hdig);have d1:¬((s[k].toNat:Int)<48):=by simp[digB] at hdig;omega
  have d2:¬(57<(s[k].toNat:Int)):=by simp[digB] at hdig;omega
  clear hd hdig;go_wp2;exact ⟨⟨k+1,by omega,by go_num,HD.o,trivial⟩,by simp[intOf];omega⟩
 have HN:=jM (digB s[k]=false) (by simpa using hdig);have dd:((s[k].toNat:Int)<48)\/(57<(s[k].toNat:Int)):=by simp[digB] at hdig;omega
 have HE:=jM (lenB digB s.data.toList 0=k) (zua _ k (by simp;omega) HA.o (λc hc=>by rw[List.drop_zero,HG.o] at hc;cases hc;exact HN.o));clear hd hdig;rcases dd with dd | dd
 ·go_wp2;go_ret;exact ⟨by rw[HE.o];rfl,rfl⟩
 have dd2:¬((s[k].toNat:Int)<48):=by omega
 go_wp2;go_ret;exact ⟨by rw[HE.o];rfl,rfl⟩
theorem zhe (lo:Int) (n:Bool) (w:World) (h0:0<=lo) (h1:lo<=9223372036854775807):
 Calls prog 245 #[.int .u64 0,.int .u64 lo,.bool n] w λu w'=>u=.returned (.tuple #[.int .i64 (if n=true then -lo else lo),.bool true])/\w=w':=by
 have hn:¬9223372036854775807<lo:=by omega
 cases n;rotate_left
 ·go_enter func245,ntmps245;go_wp2;go_ret2;exact ⟨rfl,rfl⟩
 go_enter func245,ntmps245;go_wp2;go_ret2;exact ⟨rfl,rfl⟩
theorem zmh (v u:Value) (l m:List Ent) (B1 B2:Nat) (w:World) (hv:Sls cEnt w B1 v l) (hu:Sls cEnt w B2 u m):
 Calls prog 118 #[v,u] w λe w'=>e=.returned (.bool (decide (l=m)))/\Same w w':=by
 obtain ⟨A1,cap1,rfl,hc1,hm1,hr1⟩:=id hv;obtain ⟨A2,cap2,rfl,hc2,hm2,hr2⟩:=id hu;have HV:=Hd hv;have HU:=Hd hu;clear hr1 hr2 hv hu;unfold maxLen at hm1 hm2;by_cases hl:l.length=m.length;rotate_left
 ·have h0:((l.length:Int) != (m.length:Int))=true:=by simpa using λe=>hl (by omega)
  have h1:(l.length != m.length)=true:=by simpa using hl
  have hne:¬l=m:=λe=>hl (by rw[e]);have HN:=Hd hne;clear hne;go_enter func118,ntmps118;go_wp2;go_ret;exact ⟨by simp[HN.o],Same.refl _⟩
 have h0:((l.length:Int) != (m.length:Int))=false:=by simp[hl]
 have h1:(l.length != m.length)=false:=by simp[hl]
 have HL:=Hd hl;clear hl;go_enter func118,ntmps118;go_wp2;go_loopw [5] (λi wr=>∃k:Nat,k<=l.length/\i=.int .i64 k/\l.take k=m.take k/\Same w wr) (λi _=>l.length-(intOf i).toNat)
 case atStart=>exact ⟨0,by omega,rfl,by simp,Same.refl _⟩
 obtain ⟨k,hk,rfl,he,hs⟩:=hrel;have HE:=Hd he;clear he;by_cases hlt:k<l.length;rotate_left
 ·go_wp2;go_ret;have h1:k=l.length:=by omega
  have h2:=HE.o;rw[h1,jt,HL.o,jt] at h2;exact ⟨by simp[h2],hs⟩
 have hx:l[k]?=some l[k]:=jz hlt;have hlt2:k<m.length:=by rw[<- HL.o];exact hlt
 have hy:m[k]?=some m[k]:=jz hlt2;obtain ⟨b1,o1,rfl,_,r1⟩:=(HV.o.same hs).get 3 zct hx;obtain ⟨b2,o2,rfl,_,r2⟩:=(HU.o.same hs).get 3 zct hy;have ht1:l.take (k+1)=l.take k++ [l[k]]:=by rw[jC hlt]
 have ht2:m.take (k+1)=m.take k++ [m[k]]:=by rw[jC hlt2]
 have HT1:=Hd ht1;have HT2:=Hd ht2;have HS:=Hd hs;clear hx hy ht1 ht2 hs;generalize l[k]=x at *;generalize m[k]=y at *;obtain ⟨r1_0,r1_1,r1_2⟩:=rEnt r1;obtain ⟨r2_0,r2_1,r2_2⟩:=rEnt r2;have hn:∀W,(binOp .neq 58 (.agg x) (.agg y)).run prog W=.ok (.bool (!decide (x=y))) W:=λW=>z3a x y W;have hi0:(0:Int)<=(k:Int):=jw _;have hi1:(k:Int)<(l.length:Int):=by omega
 have hi2:(k:Int)<(m.length:Int):=by omega
 clear r1 r2;by_cases hxy:x=y
 ·have hd:decide (x=y)=true:=by simpa using hxy
  rw[hd] at hn;have HXY:=Hd hxy;clear hd hxy;go_wp2;go_quiet (fail);go_wp2;exact ⟨⟨k+1,by omega,by go_num,by rw[HT1.o,HT2.o,HE.o,HXY.o],HS.o.drewN _⟩,by simp[intOf];omega⟩
 have hd:decide (x=y)=false:=by simpa using hxy
 rw[hd] at hn;have HXY:=Hd hxy;clear hd hxy;go_wp2;go_quiet (fail);go_wp2;go_ret;have hne:¬l=m:=by intro e;have h2:=HT1.o;rw[e,HT2.o,<- HE.o] at h2;exact HXY.o (by simpa using h2.symm)
 exact ⟨by simp[hne],HS.o.drewN _⟩
theorem zmc (v u:Value) (l m:List Rul) (B1 B2:Nat) (w:World) (hv:Sls cRul w B1 v l) (hu:Sls cRul w B2 u m):
 Calls prog 119 #[v,u] w λe w'=>e=.returned (.bool (decide (l=m)))/\Same w w':=by
 obtain ⟨A1,cap1,rfl,hc1,hm1,hr1⟩:=id hv;obtain ⟨A2,cap2,rfl,hc2,hm2,hr2⟩:=id hu;have HV:=Hd hv;have HU:=Hd hu;clear hr1 hr2 hv hu;unfold maxLen at hm1 hm2;by_cases hl:l.length=m.length;rotate_left
 ·have h0:((l.length:Int) != (m.length:Int))=true:=by simpa using λe=>hl (by omega)
  have h1:(l.length != m.length)=true:=by simpa using hl
  have hne:¬l=m:=λe=>hl (by rw[e]);have HN:=Hd hne;clear hne;go_enter func119,ntmps119;go_wp2;go_ret;exact ⟨by simp[HN.o],Same.refl _⟩
 have h0:((l.length:Int) != (m.length:Int))=false:=by simp[hl]
 have h1:(l.length != m.length)=false:=by simp[hl]
 have HL:=Hd hl;clear hl;go_enter func119,ntmps119;go_wp2;go_loopw [5] (λi wr=>∃k:Nat,k<=l.length/\i=.int .i64 k/\l.take k=m.take k/\Same w wr) (λi _=>l.length-(intOf i).toNat)
 case atStart=>exact ⟨0,by omega,rfl,by simp,Same.refl _⟩
 obtain ⟨k,hk,rfl,he,hs⟩:=hrel;have HE:=Hd he;clear he;by_cases hlt:k<l.length;rotate_left
 ·go_wp2;go_ret;have h1:k=l.length:=by omega
  have h2:=HE.o;rw[h1,jt,HL.o,jt] at h2;exact ⟨by simp[h2],hs⟩
 have hx:l[k]?=some l[k]:=jz hlt;have hlt2:k<m.length:=by rw[<- HL.o];exact hlt
 have hy:m[k]?=some m[k]:=jz hlt2;obtain ⟨b1,o1,rfl,_,r1⟩:=(HV.o.same hs).get 7 zdr hx;obtain ⟨b2,o2,rfl,_,r2⟩:=(HU.o.same hs).get 7 zdr hy;have ht1:l.take (k+1)=l.take k++ [l[k]]:=by rw[jC hlt]
 have ht2:m.take (k+1)=m.take k++ [m[k]]:=by rw[jC hlt2]
 have HT1:=Hd ht1;have HT2:=Hd ht2;have HS:=Hd hs;clear hx hy ht1 ht2 hs;generalize l[k]=x at *;generalize m[k]=y at *;obtain ⟨r1_0,r1_1,r1_2,r1_3,r1_4,r1_5,r1_6⟩:=rRul r1;obtain ⟨r2_0,r2_1,r2_2,r2_3,r2_4,r2_5,r2_6⟩:=rRul r2;have hn:∀W,(binOp .neq 79 (.agg x) (.agg y)).run prog W=.ok (.bool (!decide (x=y))) W:=λW=>z25 x y W;have hi0:(0:Int)<=(k:Int):=jw _;have hi1:(k:Int)<(l.length:Int):=by omega
 have hi2:(k:Int)<(m.length:Int):=by omega
 clear r1 r2;by_cases hxy:x=y
 ·have hd:decide (x=y)=true:=by simpa using hxy
  rw[hd] at hn;have HXY:=Hd hxy;clear hd hxy;go_wp2;go_quiet (fail);go_wp2;exact ⟨⟨k+1,by omega,by go_num,by rw[HT1.o,HT2.o,HE.o,HXY.o],HS.o.drewN _⟩,by simp[intOf];omega⟩
 have hd:decide (x=y)=false:=by simpa using hxy
 rw[hd] at hn;have HXY:=Hd hxy;clear hd hxy;go_wp2;go_quiet (fail);go_wp2;go_ret;have hne:¬l=m:=by intro e;have h2:=HT1.o;rw[e,HT2.o,<- HE.o] at h2;exact HXY.o (by simpa using h2.symm)
 exact ⟨by simp[hne],HS.o.drewN _⟩
theorem zjv (c:UInt8) (w:World):
 Calls prog 274 #[.int .u8 c.toNat] w λu w'=>u=.returned (.bool (digB c))/\w=w':=by
 rcases chain2 (48<=(c.toNat:Int)) ((c.toNat:Int)<=57) with ⟨h1,h2⟩ | h1 | ⟨h1,h2⟩
 ·have e:digB c=true:=by simp[digB];omega
  go_enter func274,ntmps274;go_wp2;go_ret;exact ⟨by first | rfl | (rw[e];rfl),rfl⟩
 ·have e:digB c=false:=by simp[digB];omega
  go_enter func274,ntmps274;go_wp2;go_ret;exact ⟨by first | rfl | (rw[e];rfl),rfl⟩
 have e:digB c=false:=by simp[digB];omega
 go_enter func274,ntmps274;go_wp2;go_ret;exact ⟨by first | rfl | (rw[e];rfl),rfl⟩
theorem zgi (c:UInt8) (w:World):
 Calls prog 276 #[.int .u8 c.toNat] w λu w'=>u=.returned (.bool (letB c))/\w=w':=by
 have hc:(c.toNat:Int)<65\/(65<=(c.toNat:Int)/\(c.toNat:Int)<=90)\/(90<(c.toNat:Int)/\(c.toNat:Int)<97)\/(97<=(c.toNat:Int)/\(c.toNat:Int)<=122)\/122<(c.toNat:Int):=by omega
 rcases hc with h | ⟨h,h'⟩ | ⟨h,h'⟩ | ⟨h,h'⟩ | h
 ·have e:letB c=false:=by simp[letB];omega
  have q1:¬65<=(c.toNat:Int):=by omega
  have q2:¬97<=(c.toNat:Int):=by omega
  go_enter func276,ntmps276;go_wp2;go_ret;exact ⟨by first | rfl | (rw[e];rfl),rfl⟩
 ·have e:letB c=true:=by simp[letB];omega
  go_enter func276,ntmps276;go_wp2;go_ret;exact ⟨by first | rfl | (rw[e];rfl),rfl⟩
 ·have e:letB c=false:=by simp[letB];omega
  have q1:65<=(c.toNat:Int):=by omega
  have q2:¬(c.toNat:Int)<=90:=by omega
  have q3:¬97<=(c.toNat:Int):=by omega
  go_enter func276,ntmps276;go_wp2;go_ret;exact ⟨by first | rfl | (rw[e];rfl),rfl⟩
 ·have e:letB c=true:=by simp[letB];omega
  have q1:65<=(c.toNat:Int):=by omega
  have q2:¬(c.toNat:Int)<=90:=by omega
  go_enter func276,ntmps276;go_wp2;go_ret;exact ⟨by first | rfl | (rw[e];rfl),rfl⟩
 have e:letB c=false:=by simp[letB];omega
 have q1:65<=(c.toNat:Int):=by omega
 have q2:¬(c.toNat:Int)<=90:=by omega
 have q3:97<=(c.toNat:Int):=by omega
 have q4:¬(c.toNat:Int)<=122:=by omega
 go_enter func276,ntmps276;go_wp2;go_ret;exact ⟨by first | rfl | (rw[e];rfl),rfl⟩
theorem zth (c:UInt8) (w:World):
 Calls prog 303 #[.int .u8 c.toNat] w λu w'=>u=.returned (.bool (alnB c))/\w=w':=by
 by_cases h:letB c=true
 ·have e:alnB c=true:=by simp[alnB,h]
  go_enter func303,ntmps303;go_wp2_with fail;refine (zgi c _).mono ?_;rintro u w1 ⟨rfl,rfl⟩;rw[h];go_wp2;go_ret;exact ⟨by first | rfl | (rw[e];rfl),rfl⟩
 have h':letB c=false:=by simpa using h
 have e:alnB c=digB c:=by simp[alnB,h']
 go_enter func303,ntmps303;go_wp2_with fail;refine (zgi c _).mono ?_;rintro u w1 ⟨rfl,rfl⟩;rw[h'];go_wp2_with fail;refine (zjv c _).mono ?_;rintro u w1 ⟨rfl,rfl⟩;go_wp2;go_ret;exact ⟨by first | rfl | (rw[e];rfl),rfl⟩
theorem zob (s:ByteArray) (i:Int) (f:Value) (w:World) (hf:f.oneCell'=true):
 Calls prog 302 #[.string s,.int .i64 i,f] w λu w'=>u=.returned (.func (.func 320) #[] #[.pointer (some (w.heap.size+1,0)),.pointer (some (w,0)),.pointer (some (w.heap.size+1+1,0))])/\w'=((w.alloc (.cells #[.string s] 9)).alloc (.cells #[.int .i64 i] 3)).alloc (.cells #[f] 219):=by
 have hmf:∀(fn:Fn) (first cap:Array Value) (w:World),(Instr.makeFunc fn first cap).run prog w=.ok (.func fn first cap) w:=λ_ _ _ _=>rfl;go_enter func302,ntmps302;go_wp2;go_ret;exact ⟨rfl,rfl⟩
def cPcs (p:Pcs):List Value:=[.int .i64 p.m0,.int .i64 p.m1,.int .i64 p.v0,.int .i64 p.v1,.bool p.ok]
structure PcsOk (n:Int) (p:Pcs):Prop where
 m0:0<=p.m0/\p.m0<=n
 m1:0<=p.m1/\p.m1<=n
 v0:0<=p.v0/\p.v0<=1025
 v1:0<=p.v1/\p.v1<=1025
theorem chg3 (w:World) (g a b c:Nat) (x y z:Value):Chg (λk=>k=g) w (((w.setCell (g,a) x).setCell (g,b) y).setCell (g,c) z).drew.drew:=
 Chg.drew (Chg.drew ((((Chg.refl (λk=>k=g) w).setCell (p:=⟨g,a,none⟩) (.inl rfl) x).setCell (p:=⟨g,b,none⟩) (.inl rfl) y).setCell (p:=⟨g,c,none⟩) (.inl rfl) z))
theorem zxi (m:Int):(m==0)=decide (m=0):=by rw[Bool.eq_iff_iff];simp
theorem Blk.eqv {cs cs':Array Value} (h:Blk w g t cs) (e:cs=cs'):Blk w g t cs':=e▸h
theorem zlh (g:Nat) (p:Pcs) (n:Int) (c:Nat) (w:World) (hn:n<=2000000) (hp:PcsOk n p) (h0:65<=c) (h1:c<=90) (hg:Blk w g 318 (cPcs p).toArray):
 Calls prog 321 #[(aA g),.int .u8 c,.bool true] w λe w'=>e=.returned (.tuple #[])/\Blk w' g 318 (cPcs (addP p c true)).toArray/\Chg (λk=>k=g) w w':=by
 obtain ⟨m0,m1,v0,v1,ok⟩:=p;obtain ⟨⟨a0,a1⟩,⟨b0,b1⟩,⟨c0,c1⟩,⟨d0,d1⟩⟩:=hp;dsimp only at a0 a1 b0 b1 c0 c1 d0 d1;have HG:=Hd hg;have k0:w.cell? (g,0)=some (.int .i64 m0):=hg.cell 0;have k1:w.cell? (g,1)=some (.int .i64 m1):=hg.cell 1;have k2:w.cell? (g,2)=some (.int .i64 v0):=hg.cell 2;have k3:w.cell? (g,3)=some (.int .i64 v1):=hg.cell 3;have k4:w.cell? (g,4)=some (.bool ok):=hg.cell 4;have fr:=hg.frozen;have e0:(65:Int)<=(c:Int):=by omega
 have e1:(c:Int)<=90:=by omega
 clear hg;cases ok
 ·
  by_cases hb:1025<26*v0+((c:Int)-65)+1
  ·have hm:min (26*v0+((c:Int)-65)+1) 1025=1025:=by omega
   have HM:=Hd hm;clear hm;go_enter func321,ntmps321;go_wp2
   go_region
   go_wp2
   go_region
   go_wp2
   first | go_end0 | refine jD (results_none rfl _ _ _) rfl ?_
   exact ⟨rfl,Blk.drew (Blk.drew ((((HG.o.set_ 4 (.bool false)).set_ 0 (.int .i64 (m0+1))).set_ 2 (.int .i64 (1025))).eqv (by simp[cPcs,addP,HM.o]))),chg3 _ _ _ _ _ _ _ _⟩
  have hm:min (26*v0+((c:Int)-65)+1) 1025=26*v0+((c:Int)-65)+1:=by omega
  have HM:=Hd hm;clear hm;have hb2:26*v0+((c:Int)-65)+1<=1025:=by omega
  go_enter func321,ntmps321;go_wp2
  go_region
  go_wp2
  go_region
  go_wp2
  first | go_end0 | refine jD (results_none rfl _ _ _) rfl ?_
  exact ⟨rfl,Blk.drew (Blk.drew ((((HG.o.set_ 4 (.bool false)).set_ 0 (.int .i64 (m0+1))).set_ 2 (.int .i64 (26*v0+((c:Int)-65)+1))).eqv (by simp[cPcs,addP,HM.o]))),chg3 _ _ _ _ _ _ _ _⟩
 by_cases hb:1025<26*v0+((c:Int)-65)+1
 ·have hm:min (26*v0+((c:Int)-65)+1) 1025=1025:=by omega
  have HM:=Hd hm;clear hm;go_enter func321,ntmps321;go_wp2
  go_region
  go_wp2
  go_region
  go_wp2
  first | go_end0 | refine jD (results_none rfl _ _ _) rfl ?_
  exact ⟨rfl,Blk.drew (Blk.drew ((((HG.o.set_ 4 (.bool (m1==0))).set_ 0 (.int .i64 (m0+1))).set_ 2 (.int .i64 (1025))).eqv (by simp[cPcs,addP,HM.o,zxi]))),chg3 _ _ _ _ _ _ _ _⟩
 have hm:min (26*v0+((c:Int)-65)+1) 1025=26*v0+((c:Int)-65)+1:=by omega
 have HM:=Hd hm;clear hm;have hb2:26*v0+((c:Int)-65)+1<=1025:=by omega
 go_enter func321,ntmps321;go_wp2
 go_region
 go_wp2
 go_region
 go_wp2
 first | go_end0 | refine jD (results_none rfl _ _ _) rfl ?_
 exact ⟨rfl,Blk.drew (Blk.drew ((((HG.o.set_ 4 (.bool (m1==0))).set_ 0 (.int .i64 (m0+1))).set_ 2 (.int .i64 (26*v0+((c:Int)-65)+1))).eqv (by simp[cPcs,addP,HM.o,zxi]))),chg3 _ _ _ _ _ _ _ _⟩
theorem zxy (g:Nat) (p:Pcs) (n:Int) (c:Nat) (w:World) (hn:n<=2000000) (hp:PcsOk n p) (h0:48<=c) (h1:c<=57) (hg:Blk w g 318 (cPcs p).toArray):
 Calls prog 321 #[(aA g),.int .u8 c,.bool false] w λe w'=>e=.returned (.tuple #[])/\Blk w' g 318 (cPcs (addP p c false)).toArray/\Chg (λk=>k=g) w w':=by
 obtain ⟨m0,m1,v0,v1,ok⟩:=p;obtain ⟨⟨a0,a1⟩,⟨b0,b1⟩,⟨c0,c1⟩,⟨d0,d1⟩⟩:=hp;dsimp only at a0 a1 b0 b1 c0 c1 d0 d1;have HG:=Hd hg;have k0:w.cell? (g,0)=some (.int .i64 m0):=hg.cell 0;have k1:w.cell? (g,1)=some (.int .i64 m1):=hg.cell 1;have k2:w.cell? (g,2)=some (.int .i64 v0):=hg.cell 2;have k3:w.cell? (g,3)=some (.int .i64 v1):=hg.cell 3;have k4:w.cell? (g,4)=some (.bool ok):=hg.cell 4;have fr:=hg.frozen;have e0:(48:Int)<=(c:Int):=by omega
 have e1:(c:Int)<=57:=by omega
 clear hg;cases ok
 ·
  by_cases hb:1025<10*v1+((c:Int)-48)
  ·have hm:min (10*v1+((c:Int)-48)) 1025=1025:=by omega
   have HM:=Hd hm;clear hm;go_enter func321,ntmps321;go_wp2
   go_region
   go_wp2
   go_region
   go_wp2
   first | go_end0 | refine jD (results_none rfl _ _ _) rfl ?_
   exact ⟨rfl,Blk.drew (Blk.drew ((((HG.o.set_ 4 (.bool false)).set_ 1 (.int .i64 (m1+1))).set_ 3 (.int .i64 (1025))).eqv (by simp[cPcs,addP,HM.o]))),chg3 _ _ _ _ _ _ _ _⟩
  have hm:min (10*v1+((c:Int)-48)) 1025=10*v1+((c:Int)-48):=by omega
  have HM:=Hd hm;clear hm;have hb2:10*v1+((c:Int)-48)<=1025:=by omega
  go_enter func321,ntmps321;go_wp2
  go_region
  go_wp2
  go_region
  go_wp2
  first | go_end0 | refine jD (results_none rfl _ _ _) rfl ?_
  exact ⟨rfl,Blk.drew (Blk.drew ((((HG.o.set_ 4 (.bool false)).set_ 1 (.int .i64 (m1+1))).set_ 3 (.int .i64 (10*v1+((c:Int)-48)))).eqv (by simp[cPcs,addP,HM.o]))),chg3 _ _ _ _ _ _ _ _⟩
 by_cases h48:c=48;rotate_left
 ·have h48b:((c:Int) != 48)=true:=by simp;omega
  have HK:=jM ((decide (c≠48)||decide (0<m1))=true) (by simp[h48]);clear h48;by_cases hb:1025<10*v1+((c:Int)-48)
  ·have hm:min (10*v1+((c:Int)-48)) 1025=1025:=by omega
   have HM:=Hd hm;clear hm;go_enter func321,ntmps321;go_wp2
   go_region
   go_wp2
   go_region
   go_wp2
   first | go_end0 | refine jD (results_none rfl _ _ _) rfl ?_
   exact ⟨rfl,Blk.drew (Blk.drew ((((HG.o.set_ 4 (.bool true)).set_ 1 (.int .i64 (m1+1))).set_ 3 (.int .i64 (1025))).eqv (by simp only[addP,HM.o,HK.o,cPcs,Bool.false_eq_true,if_false,Bool.true_and];simp))),chg3 _ _ _ _ _ _ _ _⟩
  have hm:min (10*v1+((c:Int)-48)) 1025=10*v1+((c:Int)-48):=by omega
  have HM:=Hd hm;clear hm;have hb2:10*v1+((c:Int)-48)<=1025:=by omega
  go_enter func321,ntmps321;go_wp2
  go_region
  go_wp2
  go_region
  go_wp2
  first | go_end0 | refine jD (results_none rfl _ _ _) rfl ?_
  exact ⟨rfl,Blk.drew (Blk.drew ((((HG.o.set_ 4 (.bool true)).set_ 1 (.int .i64 (m1+1))).set_ 3 (.int .i64 (10*v1+((c:Int)-48)))).eqv (by simp only[addP,HM.o,HK.o,cPcs,Bool.false_eq_true,if_false,Bool.true_and];simp))),chg3 _ _ _ _ _ _ _ _⟩
 have h48b:((c:Int) != 48)=false:=by simp[h48]
 by_cases hp0:0<m1
 ·have hp1:decide (0<m1)=true:=by simpa using hp0
  have HK:=jM ((decide (c≠48)||decide (0<m1))=true) (by simp[hp0]);clear h48;by_cases hb:1025<10*v1+((c:Int)-48)
  ·have hm:min (10*v1+((c:Int)-48)) 1025=1025:=by omega
   have HM:=Hd hm;clear hm;go_enter func321,ntmps321;go_wp2
   go_region
   go_wp2
   go_region
   go_wp2
   first | go_end0 | refine jD (results_none rfl _ _ _) rfl ?_
   exact ⟨rfl,Blk.drew (Blk.drew ((((HG.o.set_ 4 (.bool true)).set_ 1 (.int .i64 (m1+1))).set_ 3 (.int .i64 (1025))).eqv (by simp only[addP,HM.o,HK.o,cPcs,Bool.false_eq_true,if_false,Bool.true_and];simp))),chg3 _ _ _ _ _ _ _ _⟩
  have hm:min (10*v1+((c:Int)-48)) 1025=10*v1+((c:Int)-48):=by omega
  have HM:=Hd hm;clear hm;have hb2:10*v1+((c:Int)-48)<=1025:=by omega
  go_enter func321,ntmps321;go_wp2
  go_region
  go_wp2
  go_region
  go_wp2
  first | go_end0 | refine jD (results_none rfl _ _ _) rfl ?_
  exact ⟨rfl,Blk.drew (Blk.drew ((((HG.o.set_ 4 (.bool true)).set_ 1 (.int .i64 (m1+1))).set_ 3 (.int .i64 (10*v1+((c:Int)-48)))).eqv (by simp only[addP,HM.o,HK.o,cPcs,Bool.false_eq_true,if_false,Bool.true_and];simp))),chg3 _ _ _ _ _ _ _ _⟩
 have hp1:decide (0<m1)=false:=by simpa using hp0
 have HK:=jM ((decide (c≠48)||decide (0<m1))=false) (by simp[h48];omega);clear h48;by_cases hb:1025<10*v1+((c:Int)-48)
 ·have hm:min (10*v1+((c:Int)-48)) 1025=1025:=by omega
  have HM:=Hd hm;clear hm;go_enter func321,ntmps321;go_wp2
  go_region
  go_wp2
  go_region
  go_wp2
  first | go_end0 | refine jD (results_none rfl _ _ _) rfl ?_
  exact ⟨rfl,Blk.drew (Blk.drew ((((HG.o.set_ 4 (.bool false)).set_ 1 (.int .i64 (m1+1))).set_ 3 (.int .i64 (1025))).eqv (by simp only[addP,HM.o,HK.o,cPcs,Bool.false_eq_true,if_false,Bool.true_and];simp))),chg3 _ _ _ _ _ _ _ _⟩
 have hm:min (10*v1+((c:Int)-48)) 1025=10*v1+((c:Int)-48):=by omega
 have HM:=Hd hm;clear hm;have hb2:10*v1+((c:Int)-48)<=1025:=by omega
 go_enter func321,ntmps321;go_wp2
 go_region
 go_wp2
 go_region
 go_wp2
 first | go_end0 | refine jD (results_none rfl _ _ _) rfl ?_
 exact ⟨rfl,Blk.drew (Blk.drew ((((HG.o.set_ 4 (.bool false)).set_ 1 (.int .i64 (m1+1))).set_ 3 (.int .i64 (10*v1+((c:Int)-48)))).eqv (by simp only[addP,HM.o,HK.o,cPcs,Bool.false_eq_true,if_false,Bool.true_and];simp))),chg3 _ _ _ _ _ _ _ _⟩
def zgt (c:UInt8):Int:=if 65<=c.toNat/\c.toNat<=90 then (c.toNat:Int)-65+1 else if 97<=c.toNat/\c.toNat<=122 then (c.toNat:Int)-97+1 else 0
def colI:Int->zaa->Int
 | n,[]=>n
 | n,c::s=>colI (min (26*n+zgt c) 1025) s
def rowI:Int->zaa->Int
 | n,[]=>n
 | n,c::s=>rowI (min (10*n+((c.toNat:Int)-48)) 1025) s
def parR (s:zaa):Ref × Int:=
 if lenB letB s 0=0\/s.drop (lenB letB s 0)=[]\/(s.drop (lenB letB s 0)).head?=some 48\/(s.drop (lenB letB s 0)).all digB=false then (⟨0,0⟩,4)
 else if 1024<colI 0 (s.take (lenB letB s 0))\/1024<rowI 0 (s.drop (lenB letB s 0)) then (⟨0,0⟩,3)
 else (⟨colI 0 (s.take (lenB letB s 0)),rowI 0 (s.drop (lenB letB s 0))⟩,0)
theorem zfn (c:UInt8):letB c=true↔(65<=c.toNat/\c.toNat<=90)\/(97<=c.toNat/\c.toNat<=122):=by simp[letB]
theorem zf7 (c:UInt8):(0<zgt c↔letB c=true)/\0<=zgt c/\zgt c<=26:=by
 rw[zfn];unfold zgt;split
 ·omega
 split
 ·omega
 omega
theorem zdq (c:UInt8):digB c=true↔48<=c.toNat/\c.toNat<=57:=by simp[digB]
theorem zye (p:Pcs) (c:UInt8) (h:letB c=true) (hm:p.m1=0):zcw p c={ p with m0:=p.m0+1,v0:=min (26*p.v0+zgt c) 1025 }:=by
 rw[zfn] at h;unfold zcw zgt;by_cases h1:97<=c.toNat/\c.toNat<=122
 ·rw[jb h1,jS,jb h1];unfold addP;simp only[if_true,hm,decide_true,Bool.and_true,Pcs.mk.injEq,true_and,and_true]
  congr 1
  omega
 rw[ja h1,jT,jT];unfold addP;simp only[if_true,hm,decide_true,Bool.and_true,Pcs.mk.injEq,true_and,and_true]
 congr 1
 omega
theorem zqf (p:Pcs) (c:UInt8) (h:digB c=true):zcw p c={ p with ok:=p.ok&&(decide (c.toNat≠48)||decide (0<p.m1)),m1:=p.m1+1,v1:=min (10*p.v1+((c.toNat:Int)-48)) 1025 }:=by
 have h':=h;rw[zdq] at h';unfold zcw;rw[jS,jS,jb h];rfl
theorem zqe (p:Pcs) (c:UInt8) (h1:letB c=false) (h2:digB c=false):(zcw p c).ok=false:=by
 have h:¬((65<=c.toNat/\c.toNat<=90)\/(97<=c.toNat/\c.toNat<=122)):=λq=>by rw[(zfn c).2 q] at h1;cases h1
 unfold zcw;rw[jS,jS,ja (by rw[h2];decide)]
theorem zyf (p:Pcs) (c:UInt8) (h:p.ok=false):(zcw p c).ok=false:=by
 unfold zcw addP;split
 ·simp[h]
 split
 ·simp[h]
 split
 ·simp[h]
 rfl
theorem zix:∀(s:zaa) (p:Pcs),p.ok=false->(s.foldl zcw p).ok=false
 | [],_,h=>h
 | c::s,p,h=>zix s _ (zyf p c h)
theorem zrj:∀(a:zaa) (n:Int) (v:Int),(∀c∈a,letB c=true)->a.foldl zcw ⟨n,0,v,0,true⟩=⟨n+a.length,0,colI v a,0,true⟩
 | [],n,v,_=>by simp[colI]
 | c::a,n,v,h=>by
  rw[List.foldl_cons,zye _ c (h c (by simp)) rfl];have e:=zrj a (n+1) (min (26*v+zgt c) 1025) (λd hd=>h d (by simp[hd]));rw[e];simp only[colI,jk,Pcs.mk.injEq,and_self,and_true];omega
theorem zrk:∀(b:zaa) (m0 m1 v0 v1:Int),0<m1->b.foldl zcw ⟨m0,m1,v0,v1,true⟩=⟨m0,m1+b.length,v0,rowI v1 b,true⟩/\b.all digB=true\/(b.foldl zcw ⟨m0,m1,v0,v1,true⟩).ok=false/\b.all digB=false
 | [],m0,m1,v0,v1,_=>.inl (by simp[rowI])
 | c::b,m0,m1,v0,v1,h=>by
  rw[List.foldl_cons];by_cases hd:digB c=true
  ·rw[zqf _ c hd];have e:(true&&(decide (c.toNat≠48)||decide (0<m1)))=true:=by simp[h]
   simp only[e];rcases zrk b m0 (m1+1) v0 (min (10*v1+((c.toNat:Int)-48)) 1025) (by omega) with ⟨k1,k2⟩ | ⟨k1,k2⟩
   ·refine .inl ⟨?_,by simp[hd,k2]⟩;rw[k1];simp only[rowI,jk,Pcs.mk.injEq,true_and,and_true];omega
   exact .inr ⟨k1,by simp[k2]⟩
  have hd':digB c=false:=by simpa using hd
  refine .inr ⟨zix b _ ?_,by simp[hd']⟩;by_cases hl:letB c=true
  ·rw[zfn] at hl;unfold zcw addP;by_cases q:97<=c.toNat/\c.toNat<=122
   ·rw[jb q];simp;omega
   rw[ja q,jT];simp;omega
  exact zqe _ c (by simpa using hl) hd'
theorem zot:∀(s:zaa) (n:Int) (c:UInt8),colI n (s++ [c])=min (26*colI n s+zgt c) 1025
 | [],_,_=>rfl
 | _::s,_,c=>zot s _ c
theorem znh:∀(s:zaa) (n:Int) (c:UInt8),rowI n (s++ [c])=min (10*rowI n s+((c.toNat:Int)-48)) 1025
 | [],_,_=>rfl
 | _::s,_,c=>znh s _ c
theorem zmr:∀(s:zaa) (n:Int),n<=1025->colI n s<=1025
 | [],n,h=>h
 | c::s,n,_=>zmr s _ (by omega)
theorem zxc:∀(s:zaa) (n:Int),0<=n->0<=colI n s
 | [],n,h=>h
 | c::s,n,h=>zxc s _ (by have:=zf7 c;omega)
theorem zmq:∀(s:zaa) (n:Int),(∀c∈s,letB c=true)->0<=n->(s≠ []\/0<n)->0<colI n s
 | [],n,_,h0,h=>h.elim (λq=>absurd rfl q) (λq=>q)
 | c::s,n,h,h0,_=>zmq s _ (λd hd=>h d (by simp[hd])) (by have:=zf7 c;omega) (.inr (by have:=(zf7 c).1.2 (h c (by simp));omega))
theorem zu1:∀(s:zaa) (n:Int),n<=1025->rowI n s<=1025
 | [],n,h=>h
 | c::s,n,_=>zu1 s _ (by omega)
theorem zu0:∀(s:zaa) (n:Int),0<=n->s.all digB=true->0<=rowI n s
 | [],n,h,_=>h
 | c::s,n,h,hd=>by
  simp only[List.all_cons,ji] at hd;have:=(zdq c).1 hd.1;exact zu0 s _ (by omega) hd.2
theorem zql:∀(s:zaa) (n:Int),s.all digB=true->0<=n->(0<n\/(s≠ []/\s.head?≠some 48))->0<rowI n s
 | [],n,_,_,h=>h.elim (λq=>q) (λq=>absurd rfl q.1)
 | c::s,n,h,h0,hh=>by
  simp only[List.all_cons,ji] at h;have hd:=(zdq c).1 h.1;refine zql s _ h.2 (by omega) (.inl ?_);rcases hh with hh | ⟨_,hh⟩
  ·omega
  have:c.toNat≠48:=λe=>hh (by simp;exact UInt8.toNat_inj.1 (by simpa using e));omega
theorem zkp (p:UInt8->Bool) (s:zaa):(∀c∈s.take (lenB p s 0),p c=true)/\(∀c,(s.drop (lenB p s 0)).head?=some c->p c=false):=by
 unfold lenB;rw[List.drop_zero]
 induction s with
 | nil=>simp
 | cons d s ih=>
  by_cases h:p d=true
  ·simp only[List.takeWhile_cons,h,if_true,jk,jr,List.drop_succ_cons];refine ⟨λc hc=>?_,ih.2⟩;rcases List.mem_cons.1 hc with rfl | hc
   ·exact h
   exact ih.1 c hc
  simp[h]
theorem z2v (s:zaa):parA s=parR s:=by
 obtain ⟨ht,hd⟩:=zkp letB s;have hsplit:s=s.take (lenB letB s 0)++s.drop (lenB letB s 0):=(List.take_append_drop _ _).symm;have hlen:(s.take (lenB letB s 0)).length=lenB letB s 0:=by rw[List.length_take];unfold lenB;have:=(List.takeWhile_prefix letB (l:=s.drop 0)).length_le;simp at this ⊢;omega
 have hread:zau s=(s.drop (lenB letB s 0)).foldl zcw ⟨lenB letB s 0,0,colI 0 (s.take (lenB letB s 0)),0,true⟩:=by
  unfold zau
  conv=>lhs;rw[hsplit]
  rw[List.foldl_append,zrj _ 0 0 ht,hlen];simp
 unfold parA parR;rw[hread];have hcp:=zmq (s.take (lenB letB s 0)) 0 ht (by omega);have hcl:=zmr (s.take (lenB letB s 0)) 0 (by omega);generalize hc:colI 0 (s.take (lenB letB s 0))=col at *;generalize hb:s.drop (lenB letB s 0)=b at *;generalize ha:lenB letB s 0=a at *
 cases b with
 | nil=>rw[jb (by simp),jb (by simp)]
 | cons c t=>
  have hlc:=hd c rfl;rw[List.foldl_cons];by_cases hdc:digB c=true;rotate_left
  ·have hdc':digB c=false:=by simpa using hdc
   rw[jb (.inl (zix t _ (zqe _ c hlc hdc'))),jb (by simp[hdc'])]
  rw[zqf _ c hdc];by_cases h48:c.toNat=48
  ·have e48:c=48:=UInt8.toNat_inj.1 (by simpa using h48);have hbad:(List.foldl zcw { m0:=(a:Int),m1:=(0:Int)+1,v0:=col,v1:=min (10*0+((c.toNat:Int)-48)) 1025,ok:=true&&(decide (c.toNat≠48)||decide ((0:Int)<0)) } t).ok=false:=zix t _ (by simp[h48]);rw[jb (.inl hbad),jb (by rw[e48];simp)]
  have e:(true&&(decide (c.toNat≠48)||decide ((0:Int)<0)))=true:=by simp[h48]
  simp only[e];have hne:c≠48:=λq=>h48 (by rw[q];rfl);rcases zrk t a (0+1) col (min (10*0+((c.toNat:Int)-48)) 1025) (by omega) with ⟨k1,k2⟩ | ⟨k1,k2⟩
  ·have hrow:rowI 0 (c::t)=rowI (min (10*0+((c.toNat:Int)-48)) 1025) t:=rfl;have hrp:=zql (c::t) 0 (by simp[hdc,k2]) (by omega) (.inr ⟨by simp,by simpa using hne⟩);rw[k1,<- hrow];by_cases h0:a=0
   ·rw[jb (by simp[h0]),jb (.inl h0)]
   have n1:¬(true=false\/(a:Int)=0\/(0:Int)+1+(t.length:Int)=0):=by simp;omega
   have n2:¬(a=0\/c::t=[]\/(c::t).head?=some 48\/(c::t).all digB=false):=by simp[h0,hne,hdc,k2]
   have hcp':=hcp (.inl (λq=>h0 (by rw[<- hlen,q];rfl)));rw[ja n1,ja n2];by_cases hv:1024<col\/1024<rowI 0 (c::t)
   ·have:za6 col (rowI 0 (c::t))=false:=by
     rw[Bool.eq_false_iff];unfold za6;simp;omega
    rw[jb hv,this];rfl
   have:za6 col (rowI 0 (c::t))=true:=by unfold za6;simp;omega
   rw[ja hv,this];rfl
  rw[jb (.inl k1),jb (by simp[k2])]
end Go.Proofs.YtamcgggmfghljaaGreatDoor
