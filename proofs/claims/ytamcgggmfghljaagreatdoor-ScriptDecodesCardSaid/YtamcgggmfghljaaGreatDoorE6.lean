/- walk -/
import Derived.Test.YtamcgggmfghljaaGreatDoorE4
set_option maxRecDepth 100000
set_option maxHeartbeats 8000000
open Go.Proofs.Tryz
namespace Go.Proofs.YtamcgggmfghljaaGreatDoor
open Go.RowKit
variable {b c:Bok} {a:Bool} {B j n:Nat} {p:Pcs} {e g l r x:Value} {w w':World}
def beB (n:Nat):zaa:=if _h:n=0 then [] else beB (n / 256)++ [UInt8.ofNat (n % 256)]
termination_by n
decreasing_by omega
def numB (n:Nat):zaa:=UInt8.ofNat (beB n).length::beB n
def numI (n:Int):zaa:=numB (n % 18446744073709551616).toNat
theorem zey:beB 0=[]:=by rw[beB];simp
theorem zmv (h:n≠0):beB n=beB (n / 256)++ [UInt8.ofNat (n % 256)]:=by rw[beB];simp[h]
theorem zen (h:n≠0):(beB n).length=(beB (n / 256)).length+1:=by rw[zmv h];simp
theorem z1f:∀(k n:Nat),n<256 ^ k->(beB n).length<=k
 | 0,n,h=>by
  have:n=0:=by simpa using h
  subst this;simp[zey]
 | k+1,n,h=>by
  by_cases h0:n=0
  ·subst h0;simp[zey]
  rw[zen h0];have:=z1f k (n / 256) (by rw[Nat.pow_succ] at h;exact Nat.div_lt_of_lt_mul (by omega));omega
theorem zib (h:n<18446744073709551616):(beB n).length<=8:=z1f 8 n (by simpa using h)
theorem beB_at:∀(n i:Nat),i<(beB n).length->(beB n)[(beB n).length-1-i]?=some (UInt8.ofNat (n / 256 ^ i % 256)):=by
 intro n
 induction n using Nat.strongRecOn with
 | _ n ih=>
  intro i hi;by_cases h0:n=0
  ·subst h0;simp[zey] at hi
  have hl:=zen h0;rw[zmv h0] at hi ⊢;rw[jH,List.length_singleton] at hi ⊢;rcases i with _ | i
  ·rw[List.getElem?_append_right (by omega)];simp
  rw[List.getElem?_append_left (by omega)];have h:=ih (n / 256) (by omega) i (by omega);rw[show (beB (n / 256)).length+1-1-(i+1)=(beB (n / 256)).length-1-i by omega,h,Nat.div_div_eq_div_mul,Nat.pow_succ,Nat.mul_comm]
theorem zmu (h:j<(beB n).length):(beB n).take (j+1)=(beB n).take j++ [UInt8.ofNat (n / 256 ^ ((beB n).length-1-j) % 256)]:=by
 have h2:=beB_at n ((beB n).length-1-j) (by omega);rw[show (beB n).length-1-((beB n).length-1-j)=j by omega] at h2;rw[List.take_add_one,h2];rfl
theorem zmw (m i:Nat):((m:Int) / 2 ^ (8*i) % 256).toNat=m / 256 ^ i % 256:=by
 have e:((m:Int) / 2 ^ (8*i) % 256)=((m / 2 ^ (8*i) % 256:Nat):Int):=by simp
 rw[e,Nat.pow_mul];rfl
theorem z24 (h:n<18446744073709551616):(numB n).length<=9:=by have:=zib h;simp[numB];omega
theorem zab (n:Int):(numI n).length<=9:=z24 (by omega)
def zh7 (b:Bool):zaa:=numI (if b then 1 else 0)
def zcv (s:zaa):zaa:=numI s.length++s
def zb0 (r:Ref):zaa:=numI r.col++numI r.row
def za7 (r:Rct):zaa:=numI r.c1++numI r.r1++numI r.c2++numI r.r2
def zce (r:Rts):zaa:=numI r.rd++numI r.wr++numI r.ow
def entB (x:Ent):zaa:=zb0 x.at_++zcv x.input
def rulB (x:Rul):zaa:=za7 x.rect++zce x.rights
def grtB (x:Grt):zaa:=za7 x.rect++numI x.fns++numI x.to_++numI x.by_++zh7 x.revoked
def evtB (x:Evt):zaa:=numI x.step++numI x.user++numI x.kind++za7 x.rect++zh7 x.done_++numI x.to_
def rlsB (x:Rls):zaa:=numI x.step++zb0 x.at_++numI x.node++numI x.fn++za7 x.rect++numI x.grant++numI x.to_
def oprF (x:Opr):List (Bool × zaa):=
 [(decide (x.user≠0),numI x.user),(decide (x.rect≠⟨0,0,0,0⟩),za7 x.rect),(decide (x.input≠ []),zcv x.input),(decide (x.rights≠⟨0,0,0⟩),zce x.rights),
  (decide (x.fns≠0),numI x.fns),(decide (x.to_≠0),numI x.to_),(decide (x.index≠0),numI x.index)]
def zdh:List (Bool × zaa)->Int
 | []=>0
 | (b,_)::l=>(if b then 1 else 0)+2*zdh l
def oprB (x:Opr):zaa:=numI x.kind++numI (zdh (oprF x))++(oprF x).flatMap λp=>if p.1 then p.2 else []
def zar {α:Type} (f:α->zaa) (l:List α):zaa:=numI l.length++l.flatMap f
def scpB (s:Scp):zaa:=
 numI s.book.users++zar entB s.book.entries++zar rulB s.book.rules++zar grtB s.book.grants++zar evtB s.book.log++zar rlsB s.book.releases++numI s.book.step++zar oprB s.ops
theorem zmf (v u:Value) (l m:List Grt) (B1 B2:Nat) (w:World) (hv:Sls cGrt w B1 v l) (hu:Sls cGrt w B2 u m):
 Calls prog 120 #[v,u] w λe w'=>e=.returned (.bool (decide (l=m)))/\Same w w':=by
 obtain ⟨A1,cap1,rfl,hc1,hm1,hr1⟩:=id hv;obtain ⟨A2,cap2,rfl,hc2,hm2,hr2⟩:=id hu;have HV:=Hd hv;have HU:=Hd hu;clear hr1 hr2 hv hu;unfold maxLen at hm1 hm2;by_cases hl:l.length=m.length;rotate_left
 ·have h0:((l.length:Int) != (m.length:Int))=true:=by simpa using λe=>hl (by omega)
  have h1:(l.length != m.length)=true:=by simpa using hl
  have hne:¬l=m:=λe=>hl (by rw[e]);have HN:=Hd hne;clear hne;go_enter func120,ntmps120;go_wp2;go_ret;exact ⟨by simp[HN.o],Same.refl _⟩
 have h0:((l.length:Int) != (m.length:Int))=false:=by simp[hl]
 have h1:(l.length != m.length)=false:=by simp[hl]
 have HL:=Hd hl;clear hl;go_enter func120,ntmps120;go_wp2;go_loopw [5] (λi wr=>∃k:Nat,k<=l.length/\i=.int .i64 k/\l.take k=m.take k/\Same w wr) (λi _=>l.length-(intOf i).toNat)
 case atStart=>exact ⟨0,by omega,rfl,by simp,Same.refl _⟩
 obtain ⟨k,hk,rfl,he,hs⟩:=hrel;have HE:=Hd he;clear he;by_cases hlt:k<l.length;rotate_left
 ·go_wp2;go_ret;have h1:k=l.length:=by omega
  have h2:=HE.o;rw[h1,jt,HL.o,jt] at h2;exact ⟨by simp[h2],hs⟩
 have hx:l[k]?=some l[k]:=jz hlt;have hlt2:k<m.length:=by rw[<- HL.o];exact hlt
 have hy:m[k]?=some m[k]:=jz hlt2;obtain ⟨b1,o1,rfl,_,r1⟩:=(HV.o.same hs).get 8 zex hx;obtain ⟨b2,o2,rfl,_,r2⟩:=(HU.o.same hs).get 8 zex hy;have ht1:l.take (k+1)=l.take k++ [l[k]]:=by rw[jC hlt]
 have ht2:m.take (k+1)=m.take k++ [m[k]]:=by rw[jC hlt2]
 have HT1:=Hd ht1;have HT2:=Hd ht2;have HS:=Hd hs;clear hx hy ht1 ht2 hs;generalize l[k]=x at *;generalize m[k]=y at *;obtain ⟨r1_0,r1_1,r1_2,r1_3,r1_4,r1_5,r1_6,r1_7⟩:=rGrt r1;obtain ⟨r2_0,r2_1,r2_2,r2_3,r2_4,r2_5,r2_6,r2_7⟩:=rGrt r2;have hn:∀W,(binOp .neq 85 (.agg x) (.agg y)).run prog W=.ok (.bool (!decide (x=y))) W:=λW=>z28 x y W;have hi0:(0:Int)<=(k:Int):=jw _;have hi1:(k:Int)<(l.length:Int):=by omega
 have hi2:(k:Int)<(m.length:Int):=by omega
 clear r1 r2;by_cases hxy:x=y
 ·have hd:decide (x=y)=true:=by simpa using hxy
  rw[hd] at hn;have HXY:=Hd hxy;clear hd hxy;go_wp2;go_quiet (fail);go_wp2;exact ⟨⟨k+1,by omega,by go_num,by rw[HT1.o,HT2.o,HE.o,HXY.o],HS.o.drewN _⟩,by simp[intOf];omega⟩
 have hd:decide (x=y)=false:=by simpa using hxy
 rw[hd] at hn;have HXY:=Hd hxy;clear hd hxy;go_wp2;go_quiet (fail);go_wp2;go_ret;have hne:¬l=m:=by intro e;have h2:=HT1.o;rw[e,HT2.o,<- HE.o] at h2;exact HXY.o (by simpa using h2.symm)
 exact ⟨by simp[hne],HS.o.drewN _⟩
theorem zmg (v u:Value) (l m:List Evt) (B1 B2:Nat) (w:World) (hv:Sls cEvt w B1 v l) (hu:Sls cEvt w B2 u m):
 Calls prog 121 #[v,u] w λe w'=>e=.returned (.bool (decide (l=m)))/\Same w w':=by
 obtain ⟨A1,cap1,rfl,hc1,hm1,hr1⟩:=id hv;obtain ⟨A2,cap2,rfl,hc2,hm2,hr2⟩:=id hu;have HV:=Hd hv;have HU:=Hd hu;clear hr1 hr2 hv hu;unfold maxLen at hm1 hm2;by_cases hl:l.length=m.length;rotate_left
 ·have h0:((l.length:Int) != (m.length:Int))=true:=by simpa using λe=>hl (by omega)
  have h1:(l.length != m.length)=true:=by simpa using hl
  have hne:¬l=m:=λe=>hl (by rw[e]);have HN:=Hd hne;clear hne;go_enter func121,ntmps121;go_wp2;go_ret;exact ⟨by simp[HN.o],Same.refl _⟩
 have h0:((l.length:Int) != (m.length:Int))=false:=by simp[hl]
 have h1:(l.length != m.length)=false:=by simp[hl]
 have HL:=Hd hl;clear hl;go_enter func121,ntmps121;go_wp2;go_loopw [5] (λi wr=>∃k:Nat,k<=l.length/\i=.int .i64 k/\l.take k=m.take k/\Same w wr) (λi _=>l.length-(intOf i).toNat)
 case atStart=>exact ⟨0,by omega,rfl,by simp,Same.refl _⟩
 obtain ⟨k,hk,rfl,he,hs⟩:=hrel;have HE:=Hd he;clear he;by_cases hlt:k<l.length;rotate_left
 ·go_wp2;go_ret;have h1:k=l.length:=by omega
  have h2:=HE.o;rw[h1,jt,HL.o,jt] at h2;exact ⟨by simp[h2],hs⟩
 have hx:l[k]?=some l[k]:=jz hlt;have hlt2:k<m.length:=by rw[<- HL.o];exact hlt
 have hy:m[k]?=some m[k]:=jz hlt2;obtain ⟨b1,o1,rfl,_,r1⟩:=(HV.o.same hs).get 9 zdt hx;obtain ⟨b2,o2,rfl,_,r2⟩:=(HU.o.same hs).get 9 zdt hy;have ht1:l.take (k+1)=l.take k++ [l[k]]:=by rw[jC hlt]
 have ht2:m.take (k+1)=m.take k++ [m[k]]:=by rw[jC hlt2]
 have HT1:=Hd ht1;have HT2:=Hd ht2;have HS:=Hd hs;clear hx hy ht1 ht2 hs;generalize l[k]=x at *;generalize m[k]=y at *;obtain ⟨r1_0,r1_1,r1_2,r1_3,r1_4,r1_5,r1_6,r1_7,r1_8⟩:=rEvt r1;obtain ⟨r2_0,r2_1,r2_2,r2_3,r2_4,r2_5,r2_6,r2_7,r2_8⟩:=rEvt r2;have hn:∀W,(binOp .neq 110 (.agg x) (.agg y)).run prog W=.ok (.bool (!decide (x=y))) W:=λW=>z29 x y W;have hi0:(0:Int)<=(k:Int):=jw _;have hi1:(k:Int)<(l.length:Int):=by omega
 have hi2:(k:Int)<(m.length:Int):=by omega
 clear r1 r2;by_cases hxy:x=y
 ·have hd:decide (x=y)=true:=by simpa using hxy
  rw[hd] at hn;have HXY:=Hd hxy;clear hd hxy;go_wp2;go_quiet (fail);go_wp2;exact ⟨⟨k+1,by omega,by go_num,by rw[HT1.o,HT2.o,HE.o,HXY.o],HS.o.drewN _⟩,by simp[intOf];omega⟩
 have hd:decide (x=y)=false:=by simpa using hxy
 rw[hd] at hn;have HXY:=Hd hxy;clear hd hxy;go_wp2;go_quiet (fail);go_wp2;go_ret;have hne:¬l=m:=by intro e;have h2:=HT1.o;rw[e,HT2.o,<- HE.o] at h2;exact HXY.o (by simpa using h2.symm)
 exact ⟨by simp[hne],HS.o.drewN _⟩
theorem zmd (v u:Value) (l m:List Rls) (B1 B2:Nat) (w:World) (hv:Sls cRls w B1 v l) (hu:Sls cRls w B2 u m):
 Calls prog 122 #[v,u] w λe w'=>e=.returned (.bool (decide (l=m)))/\Same w w':=by
 obtain ⟨A1,cap1,rfl,hc1,hm1,hr1⟩:=id hv;obtain ⟨A2,cap2,rfl,hc2,hm2,hr2⟩:=id hu;have HV:=Hd hv;have HU:=Hd hu;clear hr1 hr2 hv hu;unfold maxLen at hm1 hm2;by_cases hl:l.length=m.length;rotate_left
 ·have h0:((l.length:Int) != (m.length:Int))=true:=by simpa using λe=>hl (by omega)
  have h1:(l.length != m.length)=true:=by simpa using hl
  have hne:¬l=m:=λe=>hl (by rw[e]);have HN:=Hd hne;clear hne;go_enter func122,ntmps122;go_wp2;go_ret;exact ⟨by simp[HN.o],Same.refl _⟩
 have h0:((l.length:Int) != (m.length:Int))=false:=by simp[hl]
 have h1:(l.length != m.length)=false:=by simp[hl]
 have HL:=Hd hl;clear hl;go_enter func122,ntmps122;go_wp2;go_loopw [5] (λi wr=>∃k:Nat,k<=l.length/\i=.int .i64 k/\l.take k=m.take k/\Same w wr) (λi _=>l.length-(intOf i).toNat)
 case atStart=>exact ⟨0,by omega,rfl,by simp,Same.refl _⟩
 obtain ⟨k,hk,rfl,he,hs⟩:=hrel;have HE:=Hd he;clear he;by_cases hlt:k<l.length;rotate_left
 ·go_wp2;go_ret;have h1:k=l.length:=by omega
  have h2:=HE.o;rw[h1,jt,HL.o,jt] at h2;exact ⟨by simp[h2],hs⟩
 have hx:l[k]?=some l[k]:=jz hlt;have hlt2:k<m.length:=by rw[<- HL.o];exact hlt
 have hy:m[k]?=some m[k]:=jz hlt2;obtain ⟨b1,o1,rfl,_,r1⟩:=(HV.o.same hs).get 11 zds hx;obtain ⟨b2,o2,rfl,_,r2⟩:=(HU.o.same hs).get 11 zds hy;have ht1:l.take (k+1)=l.take k++ [l[k]]:=by rw[jC hlt]
 have ht2:m.take (k+1)=m.take k++ [m[k]]:=by rw[jC hlt2]
 have HT1:=Hd ht1;have HT2:=Hd ht2;have HS:=Hd hs;clear hx hy ht1 ht2 hs;generalize l[k]=x at *;generalize m[k]=y at *;obtain ⟨r1_0,r1_1,r1_2,r1_3,r1_4,r1_5,r1_6,r1_7,r1_8,r1_9,r1_10⟩:=rRls r1;obtain ⟨r2_0,r2_1,r2_2,r2_3,r2_4,r2_5,r2_6,r2_7,r2_8,r2_9,r2_10⟩:=rRls r2;have hn:∀W,(binOp .neq 116 (.agg x) (.agg y)).run prog W=.ok (.bool (!decide (x=y))) W:=λW=>z26 x y W;have hi0:(0:Int)<=(k:Int):=jw _;have hi1:(k:Int)<(l.length:Int):=by omega
 have hi2:(k:Int)<(m.length:Int):=by omega
 clear r1 r2;by_cases hxy:x=y
 ·have hd:decide (x=y)=true:=by simpa using hxy
  rw[hd] at hn;have HXY:=Hd hxy;clear hd hxy;go_wp2;go_quiet (fail);go_wp2;exact ⟨⟨k+1,by omega,by go_num,by rw[HT1.o,HT2.o,HE.o,HXY.o],HS.o.drewN _⟩,by simp[intOf];omega⟩
 have hd:decide (x=y)=false:=by simpa using hxy
 rw[hd] at hn;have HXY:=Hd hxy;clear hd hxy;go_wp2;go_quiet (fail);go_wp2;go_ret;have hne:¬l=m:=by intro e;have h2:=HT1.o;rw[e,HT2.o,<- HE.o] at h2;exact HXY.o (by simpa using h2.symm)
 exact ⟨by simp[hne],HS.o.drewN _⟩
theorem zme (v u:Value) (l m:List Opr) (B1 B2:Nat) (w:World) (hv:Sls cOpr w B1 v l) (hu:Sls cOpr w B2 u m):
 Calls prog 34 #[v,u] w λe w'=>e=.returned (.bool (decide (l=m)))/\Same w w':=by
 obtain ⟨A1,cap1,rfl,hc1,hm1,hr1⟩:=id hv;obtain ⟨A2,cap2,rfl,hc2,hm2,hr2⟩:=id hu;have HV:=Hd hv;have HU:=Hd hu;clear hr1 hr2 hv hu;unfold maxLen at hm1 hm2;by_cases hl:l.length=m.length;rotate_left
 ·have h0:((l.length:Int) != (m.length:Int))=true:=by simpa using λe=>hl (by omega)
  have h1:(l.length != m.length)=true:=by simpa using hl
  have hne:¬l=m:=λe=>hl (by rw[e]);have HN:=Hd hne;clear hne;go_enter func34,ntmps34;go_wp2;go_ret;exact ⟨by simp[HN.o],Same.refl _⟩
 have h0:((l.length:Int) != (m.length:Int))=false:=by simp[hl]
 have h1:(l.length != m.length)=false:=by simp[hl]
 have HL:=Hd hl;clear hl;go_enter func34,ntmps34;go_wp2;go_loopw [5] (λi wr=>∃k:Nat,k<=l.length/\i=.int .i64 k/\l.take k=m.take k/\Same w wr) (λi _=>l.length-(intOf i).toNat)
 case atStart=>exact ⟨0,by omega,rfl,by simp,Same.refl _⟩
 obtain ⟨k,hk,rfl,he,hs⟩:=hrel;have HE:=Hd he;clear he;by_cases hlt:k<l.length;rotate_left
 ·go_wp2;go_ret;have h1:k=l.length:=by omega
  have h2:=HE.o;rw[h1,jt,HL.o,jt] at h2;exact ⟨by simp[h2],hs⟩
 have hx:l[k]?=some l[k]:=jz hlt;have hlt2:k<m.length:=by rw[<- HL.o];exact hlt
 have hy:m[k]?=some m[k]:=jz hlt2;obtain ⟨b1,o1,rfl,_,r1⟩:=(HV.o.same hs).get 13 zgo hx;obtain ⟨b2,o2,rfl,_,r2⟩:=(HU.o.same hs).get 13 zgo hy;have ht1:l.take (k+1)=l.take k++ [l[k]]:=by rw[jC hlt]
 have ht2:m.take (k+1)=m.take k++ [m[k]]:=by rw[jC hlt2]
 have HT1:=Hd ht1;have HT2:=Hd ht2;have HS:=Hd hs;clear hx hy ht1 ht2 hs;generalize l[k]=x at *;generalize m[k]=y at *;obtain ⟨r1_0,r1_1,r1_2,r1_3,r1_4,r1_5,r1_6,r1_7,r1_8,r1_9,r1_10,r1_11,r1_12⟩:=rOpr r1;obtain ⟨r2_0,r2_1,r2_2,r2_3,r2_4,r2_5,r2_6,r2_7,r2_8,r2_9,r2_10,r2_11,r2_12⟩:=rOpr r2;have hn:∀W,(binOp .neq 48 (.agg x) (.agg y)).run prog W=.ok (.bool (!decide (x=y))) W:=λW=>z27 x y W;have hi0:(0:Int)<=(k:Int):=jw _;have hi1:(k:Int)<(l.length:Int):=by omega
 have hi2:(k:Int)<(m.length:Int):=by omega
 clear r1 r2;by_cases hxy:x=y
 ·have hd:decide (x=y)=true:=by simpa using hxy
  rw[hd] at hn;have HXY:=Hd hxy;clear hd hxy;go_wp2;go_quiet (fail);go_wp2;exact ⟨⟨k+1,by omega,by go_num,by rw[HT1.o,HT2.o,HE.o,HXY.o],HS.o.drewN _⟩,by simp[intOf];omega⟩
 have hd:decide (x=y)=false:=by simpa using hxy
 rw[hd] at hn;have HXY:=Hd hxy;clear hd hxy;go_wp2;go_quiet (fail);go_wp2;go_ret;have hne:¬l=m:=by intro e;have h2:=HT1.o;rw[e,HT2.o,<- HE.o] at h2;exact HXY.o (by simpa using h2.symm)
 exact ⟨by simp[hne],HS.o.drewN _⟩
structure RdBok (w:World) (B:Nat) (b:Bok) (e r g l x:Value):Prop where
 ents:Sls cEnt w B e b.entries
 ruls:Sls cRul w B r b.rules
 grts:Sls cGrt w B g b.grants
 evts:Sls cEvt w B l b.log
 rlss:Sls cRls w B x b.releases
theorem RdBok.below (h:RdBok w B b e r g l x) (hb:Below B w w'):RdBok w' B b e r g l x:=
 ⟨h.ents.below hb,h.ruls.below hb,h.grts.below hb,h.evts.below hb,h.rlss.below hb⟩
abbrev vBok (b:Bok) (e r g l x:Value):Value:=.agg #[b.users,e,r,g,l,x,b.step]
theorem z30:b=c↔b.users=c.users/\b.step=c.step/\b.entries=c.entries/\b.rules=c.rules/\b.grants=c.grants/\b.log=c.log/\b.releases=c.releases:=by
 obtain ⟨a1,a2,a3,a4,a5,a6,a7⟩:=b;obtain ⟨b1,b2,b3,b4,b5,b6,b7⟩:=c;simp only[Bok.mk.injEq];constructor
 ·rintro ⟨h1,h2,h3,h4,h5,h6,h7⟩;exact ⟨h1,h7,h2,h3,h4,h5,h6⟩
 rintro ⟨h1,h7,h2,h3,h4,h5,h6⟩;exact ⟨h1,h2,h3,h4,h5,h6,h7⟩
theorem zc6 {b:Bool} (h:a=b):Ending.returned (.bool a)=.returned (.bool b):=by rw[h]
theorem zkh (b c:Bok) (e r g l x e' r' g' l' x':Value) (B:Nat) (w:World) (hB:B<=w.heap.size) (hb:RdBok w B b e r g l x) (hc:RdBok w B c e' r' g' l' x'):
 Calls prog 33 #[vBok b e r g l x,vBok c e' r' g' l' x'] w λe w'=>e=.returned (.bool (decide (b=c)))/\Below w w w':=by
 have HB:=Hd hb;have HC:=Hd hc;clear hb hc;have H:=Hd (@z30 b c);by_cases q1:b.users=c.users;rotate_left
 ·have t1:(b.users==c.users)=false:=by simpa using q1
  have hd:Hid (decide (b=c)=false):=jA (λh=>q1 (H.o.1 h).1);clear q1;go_enter func33,ntmps33;go_wp2;go_ret;exact ⟨zc6 hd.o.symm,by go_grown⟩
 have t1:(b.users==c.users)=true:=by simpa using q1
 by_cases q2:b.step=c.step;rotate_left
 ·have t2:(b.step==c.step)=false:=by simpa using q2
  have hd:Hid (decide (b=c)=false):=jA (λh=>q2 (H.o.1 h).2.1);clear q1 q2;go_enter func33,ntmps33;go_wp2;go_ret;exact ⟨zc6 hd.o.symm,by go_grown⟩
 have t2:(b.step==c.step)=true:=by simpa using q2
 have Q1:=Hd q1;have Q2:=Hd q2;clear q1 q2;go_enter func33,ntmps33;go_wp2_with fail;refine (zmh _ _ _ _ B B _ (HB.o.ents.below (Below.mono (B:=w.heap.size) (by go_grown) hB)) (HC.o.ents.below (Below.mono (B:=w.heap.size) (by go_grown) hB))).mono ?_;rintro e w1 ⟨rfl,hs1⟩;have hc1:=hs1.cell;have hz1:w1.heap.size=_:=congrArg Array.size hs1.heap;have hB1:Below w w w1:=Below.trans (by go_grown) (hs1.below _);clear hz1;by_cases p1:b.entries=c.entries;rotate_left
 ·rw[jA p1];go_wp2;go_ret;exact ⟨zc6 (jA (λh=>p1 (H.o.1 h).2.2.1)).symm,by go_grown⟩
 rw[jB p1];have P1:=Hd p1;clear p1;go_wp2_with fail;refine (zmc _ _ _ _ B B _ (HB.o.ruls.below (Below.mono (B:=w.heap.size) (by go_grown) hB)) (HC.o.ruls.below (Below.mono (B:=w.heap.size) (by go_grown) hB))).mono ?_;rintro e w2 ⟨rfl,hs2⟩;have hc2:=hs2.cell;have hz2:w2.heap.size=_:=congrArg Array.size hs2.heap;have hB2:Below w w w2:=Below.trans (by go_grown) (hs2.below _);clear hz2;by_cases p2:b.rules=c.rules;rotate_left
 ·rw[jA p2];go_wp2;go_ret;exact ⟨zc6 (jA (λh=>p2 (H.o.1 h).2.2.2.1)).symm,by go_grown⟩
 rw[jB p2];have P2:=Hd p2;clear p2;go_wp2_with fail;refine (zmf _ _ _ _ B B _ (HB.o.grts.below (Below.mono (B:=w.heap.size) (by go_grown) hB)) (HC.o.grts.below (Below.mono (B:=w.heap.size) (by go_grown) hB))).mono ?_;rintro e w3 ⟨rfl,hs3⟩;have hc3:=hs3.cell;have hz3:w3.heap.size=_:=congrArg Array.size hs3.heap;have hB3:Below w w w3:=Below.trans (by go_grown) (hs3.below _);clear hz3;by_cases p3:b.grants=c.grants;rotate_left
 ·rw[jA p3];go_wp2;go_ret;exact ⟨zc6 (jA (λh=>p3 (H.o.1 h).2.2.2.2.1)).symm,by go_grown⟩
 rw[jB p3];have P3:=Hd p3;clear p3;go_wp2_with fail;refine (zmg _ _ _ _ B B _ (HB.o.evts.below (Below.mono (B:=w.heap.size) (by go_grown) hB)) (HC.o.evts.below (Below.mono (B:=w.heap.size) (by go_grown) hB))).mono ?_;rintro e w4 ⟨rfl,hs4⟩;have hc4:=hs4.cell;have hz4:w4.heap.size=_:=congrArg Array.size hs4.heap;have hB4:Below w w w4:=Below.trans (by go_grown) (hs4.below _);clear hz4;by_cases p4:b.log=c.log;rotate_left
 ·rw[jA p4];go_wp2;go_ret;exact ⟨zc6 (jA (λh=>p4 (H.o.1 h).2.2.2.2.2.1)).symm,by go_grown⟩
 rw[jB p4];have P4:=Hd p4;clear p4;go_wp2_with fail;refine (zmd _ _ _ _ B B _ (HB.o.rlss.below (Below.mono (B:=w.heap.size) (by go_grown) hB)) (HC.o.rlss.below (Below.mono (B:=w.heap.size) (by go_grown) hB))).mono ?_;rintro e w5 ⟨rfl,hs5⟩;have hc5:=hs5.cell;have hz5:w5.heap.size=_:=congrArg Array.size hs5.heap;have hB5:Below w w w5:=Below.trans (by go_grown) (hs5.below _);clear hz5;by_cases p5:b.releases=c.releases
 ·rw[jB p5];have P5:=Hd p5;clear p5;go_wp2;go_ret;exact ⟨zc6 (jB (H.o.2 ⟨Q1.o,Q2.o,P1.o,P2.o,P3.o,P4.o,P5.o⟩)).symm,by go_grown⟩
 rw[jA p5];go_wp2;go_ret;exact ⟨zc6 (jA (λh=>p5 (H.o.1 h).2.2.2.2.2.2)).symm,by go_grown⟩
theorem zpc (l:zaa) (c:UInt8):zau (l++ [c])=zcw (zau l) c:=by unfold zau;rw[List.foldl_append];rfl
theorem zve (s:ByteArray) (k:Nat) (h:k<s.size):zau (s.data.toList.take (k+1))=zcw (zau (s.data.toList.take k)) s[k]:=by
 have hk:k<s.data.toList.length:=by simpa using h
 rw[jC hk,zpc];rfl
theorem PcsOk.add {n:Int} (h:PcsOk n p) (c:Nat) (b:Bool) (hb:b=true->65<=c) (hb2:b=false->48<=c):PcsOk (n+1) (addP p c b):=by
 obtain ⟨⟨a0,a1⟩,⟨b0,b1⟩,⟨c0,c1⟩,⟨d0,d1⟩⟩:=h;unfold addP;cases b;rotate_left
 ·exact ⟨⟨by simp;omega,by simp;omega⟩,⟨by simp;omega,by simp;omega⟩,⟨by have:=hb rfl;simp;omega,by simp;omega⟩,⟨by simp;omega,by simp;omega⟩⟩
 exact ⟨⟨by simp;omega,by simp;omega⟩,⟨by simp;omega,by simp;omega⟩,⟨by simp;omega,by simp;omega⟩,⟨by have:=hb2 rfl;simp;omega,by simp;omega⟩⟩
theorem PcsOk.bad {n:Int} (h:PcsOk n p):PcsOk (n+1) { p with ok:=false }:=
 ⟨⟨h.m0.1,by have:=h.m0.2;show p.m0<=_;omega⟩,⟨h.m1.1,by have:=h.m1.2;show p.m1<=_;omega⟩,h.v0,h.v1⟩
theorem zxw (s:ByteArray) (w:World) (hl:s.size<=1000000):
 Calls prog 304 #[.string s] w λu w'=>u=.returned (.agg (cPcs (zau s.data.toList)).toArray)/\Below w w w':=by
 have kb0:Blk ((w.alloc (.cells #[.int .i64 0,.int .i64 0,.int .i64 0,.int .i64 0,.bool false] 318)).alloc (.cells #[.int .i64 0,.int .i64 0,.int .i64 0,.int .i64 0,.bool true] 318)) w.heap.size 318 #[.int .i64 0,.int .i64 0,.int .i64 0,.int .i64 0,.bool false]:=(je w _ _).alloc _;have kb1:Blk ((w.alloc (.cells #[.int .i64 0,.int .i64 0,.int .i64 0,.int .i64 0,.bool false] 318)).alloc (.cells #[.int .i64 0,.int .i64 0,.int .i64 0,.int .i64 0,.bool true] 318)) (w.heap.size+1) 318 (cPcs (zau [])).toArray:=by have:=je (w.alloc (.cells #[.int .i64 0,.int .i64 0,.int .i64 0,.int .i64 0,.bool false] 318)) 318 #[.int .i64 0,.int .i64 0,.int .i64 0,.int .i64 0,.bool true];simpa [zau,cPcs] using this
 have KB0:=Hd kb0;have KB1:=Hd kb1;clear kb0 kb1;go_enter func304,ntmps304;go_wp2_with fail;go_loopw [10] (λi wr=>∃k:Nat,k<=s.size/\i=.int .i64 k/\Blk wr w 318 #[.int .i64 0,.int .i64 0,.int .i64 0,.int .i64 0,.bool false]/\Blk wr (w.heap.size+1) 318 (cPcs (zau (s.data.toList.take k))).toArray/\PcsOk k (zau (s.data.toList.take k))/\Below w w wr) (λi _=>s.size-(intOf i).toNat)
 case atStart=>exact ⟨0,by omega,rfl,KB0.o,KB1.o,⟨⟨Int.le_refl 0,Int.le_refl 0⟩,⟨Int.le_refl 0,Int.le_refl 0⟩,⟨Int.le_refl 0,by show (0:Int)<=1025;omega⟩,⟨Int.le_refl 0,by show (0:Int)<=1025;omega⟩⟩,by go_grown⟩
 obtain ⟨k,hk,rfl,h0,h1,hok,hbw⟩:=hrel;have H0:=Hd h0;have H1:=Hd h1;have HOK:=Hd hok;have HBW:=Hd hbw;clear h0 h1 hok hbw;by_cases hlt:k<s.size;rotate_left
 ·have hks:k=s.size:=by omega
  have HE:=jM (zau (s.data.toList.take k)=zau s.data.toList) (by rw[hks,jK (by simp)]);obtain ⟨x0,x1,x2,x3,x4⟩:=H1.o.c5 0 1 2 3 4;rw[HE.o] at x0 x1 x2 x3 x4;have y0:wr.cell? (w.heap.size+1,0)=some (.int .i64 (zau s.data.toList).m0):=x0;have y1:wr.cell? (w.heap.size+1,1)=some (.int .i64 (zau s.data.toList).m1):=x1;have y2:wr.cell? (w.heap.size+1,2)=some (.int .i64 (zau s.data.toList).v0):=x2;have y3:wr.cell? (w.heap.size+1,3)=some (.int .i64 (zau s.data.toList).v1):=x3;have y4:wr.cell? (w.heap.size+1,4)=some (.bool (zau s.data.toList).ok):=x4;obtain ⟨z0,z1,z2,z3,z4⟩:=H0.o.c5 0 1 2 3 4;have zf:=H0.o.frozen;clear x0 x1 x2 x3 x4 hks;go_wp2;refine jO results304 (v:=.agg (cPcs (zau s.data.toList)).toArray) ?_ (by simp (maxDischargeDepth:=9) [jQ,go_sem,z0,z1,z2,z3,z4,cPcs]);refine ⟨rfl,?_⟩
  iterate 5 refine jc ?_ (by simp) _
  exact HBW.o
 have hi0:(0:Int)<=(k:Int):=jw _;have hi1:(k:Int)<(s.size:Int):=by omega
 have HS:=Hd (zve s k hlt);have hk2:(k:Int)<=2000000:=by omega
 by_cases d1:97<=s[k].toNat/\s[k].toNat<=122
 ·obtain ⟨d1,d2⟩:=d1;have e1:97<=(s[k].toNat:Int):=by omega
  have e2:(s[k].toNat:Int)<=122:=by omega
  have HP:=jM (zcw (zau (s.data.toList.take k)) s[k]=addP (zau (s.data.toList.take k)) (s[k].toNat-32) true) (by unfold zcw;rw[jb ⟨d1,d2⟩]);go_wp2_with fail;rw[show ((s[k].toNat:Int)-32)=((s[k].toNat-32:Nat):Int) by omega];refine (zlh _ _ k _ _ hk2 HOK.o (by omega) (by omega) H1.o).mono ?_;rintro e w1 ⟨rfl,hb1,hc1⟩;have HB1:=jM (Blk w1 (w.heap.size+1) 318 (cPcs (zau (s.data.toList.take (k+1)))).toArray) (by rw[HS.o,HP.o];exact hb1);have HOK1:=jM (PcsOk ((k:Int)+1) (zau (s.data.toList.take (k+1)))) (by rw[HS.o,HP.o];exact HOK.o.add _ _ (λh=>by first | omega | cases h) (λh=>by first | omega | cases h));have H01:=Hd (H0.o.chg hc1 (by omega));have HBW1:=Hd (HBW.o.trans (hc1.to_below HBW.o.size (by omega)));clear hb1 hc1;go_wp2;exact ⟨⟨k+1,by omega,by go_num,H01.o,HB1.o,HOK1.o,HBW1.o⟩,by simp[intOf];omega⟩
 have q1:(97<=(s[k].toNat:Int))=False\/((97<=(s[k].toNat:Int))=True/\((s[k].toNat:Int)<=122)=False):=by
  rcases Nat.lt_or_ge s[k].toNat 97 with h | h
  ·exact .inl (eq_false (by omega))
  exact .inr ⟨eq_true (by omega),eq_false (by omega)⟩
 by_cases d2:65<=s[k].toNat/\s[k].toNat<=90
 ·have HP:=jM (zcw (zau (s.data.toList.take k)) s[k]=addP (zau (s.data.toList.take k)) s[k].toNat true) (by unfold zcw;rw[ja d1,jb d2]);obtain ⟨d2,d3⟩:=d2;have e0:¬97<=(s[k].toNat:Int):=by omega
  have e1:65<=(s[k].toNat:Int):=by omega
  have e2:(s[k].toNat:Int)<=90:=by omega
  clear q1 d1;go_wp2_with fail;refine (zlh _ _ k _ _ hk2 HOK.o (by omega) (by omega) H1.o).mono ?_;rintro e w1 ⟨rfl,hb1,hc1⟩;have HB1:=jM (Blk w1 (w.heap.size+1) 318 (cPcs (zau (s.data.toList.take (k+1)))).toArray) (by rw[HS.o,HP.o];exact hb1);have HOK1:=jM (PcsOk ((k:Int)+1) (zau (s.data.toList.take (k+1)))) (by rw[HS.o,HP.o];exact HOK.o.add _ _ (λh=>by first | omega | cases h) (λh=>by first | omega | cases h));have H01:=Hd (H0.o.chg hc1 (by omega));have HBW1:=Hd (HBW.o.trans (hc1.to_below HBW.o.size (by omega)));clear hb1 hc1;go_wp2;exact ⟨⟨k+1,by omega,by go_num,H01.o,HB1.o,HOK1.o,HBW1.o⟩,by simp[intOf];omega⟩
 by_cases d3:digB s[k]=true
 ·have HP:=jM (zcw (zau (s.data.toList.take k)) s[k]=addP (zau (s.data.toList.take k)) s[k].toNat false) (by unfold zcw;rw[ja d1,ja d2,jb d3]);have e1:48<=(s[k].toNat:Int):=by simp[digB] at d3;omega
  have e2:(s[k].toNat:Int)<=57:=by simp[digB] at d3;omega
  have e0:¬97<=(s[k].toNat:Int):=by omega
  have e3:¬65<=(s[k].toNat:Int):=by omega
  clear q1 d1 d2 d3;go_wp2_with fail;refine (zxy _ _ k _ _ hk2 HOK.o (by omega) (by omega) H1.o).mono ?_;rintro e w1 ⟨rfl,hb1,hc1⟩;have HB1:=jM (Blk w1 (w.heap.size+1) 318 (cPcs (zau (s.data.toList.take (k+1)))).toArray) (by rw[HS.o,HP.o];exact hb1);have HOK1:=jM (PcsOk ((k:Int)+1) (zau (s.data.toList.take (k+1)))) (by rw[HS.o,HP.o];exact HOK.o.add _ _ (λh=>by first | omega | cases h) (λh=>by first | omega | cases h));have H01:=Hd (H0.o.chg hc1 (by omega));have HBW1:=Hd (HBW.o.trans (hc1.to_below HBW.o.size (by omega)));clear hb1 hc1;go_wp2;exact ⟨⟨k+1,by omega,by go_num,H01.o,HB1.o,HOK1.o,HBW1.o⟩,by simp[intOf];omega⟩
 have HP:=jM (zcw (zau (s.data.toList.take k)) s[k]={ zau (s.data.toList.take k) with ok:=false }) (by unfold zcw;rw[ja d1,ja d2,ja d3]);have d4:s[k].toNat<48\/(57<s[k].toNat/\s[k].toNat<65)\/(90<s[k].toNat/\s[k].toNat<97)\/122<s[k].toNat:=by simp[digB] at d3;omega
 have f4:=H1.o.cell 4;have ff:=H1.o.frozen;have HB1:=Hd (show Blk (wr.setCell (w.heap.size+1,4) (.bool false)) (w.heap.size+1) 318 (cPcs (zau (s.data.toList.take (k+1)))).toArray by
  rw[HS.o,HP.o];exact (H1.o.set_ 4 (.bool false)).eqv (by simp[cPcs]))
 have HOK1:=jM (PcsOk ((k:Int)+1) (zau (s.data.toList.take (k+1)))) (by rw[HS.o,HP.o];exact HOK.o.bad);have H01:=Hd (H0.o.far (p:=⟨w.heap.size+1,4,none⟩) (by simp) (.bool false));have HBW1:=Hd (HBW.o.setCell (p:=⟨w.heap.size+1,4,none⟩) (by simp) (.bool false));have f4':wr.cell? (w.heap.size+1,4)=some (.bool (zau (s.data.toList.take k)).ok):=f4;clear q1 d1 d2 d3 f4;rcases d4 with d4 | ⟨d4,d5⟩ | ⟨d4,d5⟩ | d4
 ·have e0:¬97<=(s[k].toNat:Int):=by omega
  have e1:¬65<=(s[k].toNat:Int):=by omega
  have e2:¬48<=(s[k].toNat:Int):=by omega
  go_wp2;exact ⟨⟨k+1,by omega,by go_num,H01.o,HB1.o,HOK1.o,HBW1.o⟩,by simp[intOf];omega⟩
 ·have e0:¬97<=(s[k].toNat:Int):=by omega
  have e1:¬65<=(s[k].toNat:Int):=by omega
  have e2:48<=(s[k].toNat:Int):=by omega
  have e3:¬(s[k].toNat:Int)<=57:=by omega
  go_wp2;exact ⟨⟨k+1,by omega,by go_num,H01.o,HB1.o,HOK1.o,HBW1.o⟩,by simp[intOf];omega⟩
 ·have e0:¬97<=(s[k].toNat:Int):=by omega
  have e1:65<=(s[k].toNat:Int):=by omega
  have e2:¬(s[k].toNat:Int)<=90:=by omega
  have e3:48<=(s[k].toNat:Int):=by omega
  have e4:¬(s[k].toNat:Int)<=57:=by omega
  go_wp2;exact ⟨⟨k+1,by omega,by go_num,H01.o,HB1.o,HOK1.o,HBW1.o⟩,by simp[intOf];omega⟩
 have e0:97<=(s[k].toNat:Int):=by omega
 have e1:¬(s[k].toNat:Int)<=122:=by omega
 have e2:65<=(s[k].toNat:Int):=by omega
 have e3:¬(s[k].toNat:Int)<=90:=by omega
 have e4:48<=(s[k].toNat:Int):=by omega
 have e5:¬(s[k].toNat:Int)<=57:=by omega
 go_wp2;exact ⟨⟨k+1,by omega,by go_num,H01.o,HB1.o,HOK1.o,HBW1.o⟩,by simp[intOf];omega⟩
theorem zt5 (s:ByteArray) (w:World) (hl:s.size<=1000000):
 Calls prog 279 #[.string s] w λu w'=>u=.returned (.tuple #[.agg #[.int .i64 (parA s.data.toList).1.col,.int .i64 (parA s.data.toList).1.row],.int .i64 (parA s.data.toList).2])/\Below w w w':=by
 have KB0:=Hd (je w 56 #[.int .i64 0,.int .i64 0]);go_enter func279,ntmps279;go_wp2_with fail;refine (zxw s _ hl).mono ?_;rintro e w1 ⟨rfl,hb1⟩;have HB1:=jM (Below w w w1) (nxt hb1);have K1:=Hd (KB0.o.below_ hb1);clear hb1 KB0;obtain ⟨p,hp⟩:=jN (zau s.data.toList);rw[hp];have HP:=Hd hp;clear hp;obtain ⟨m0,m1,v0,v1,ok⟩:=p;have hz:=K1.o.lt;have K2:=Hd (K1.o.alloc (.cells #[.int .i64 m0,.int .i64 m1,.int .i64 v0,.int .i64 v1,.bool ok] 318));have HB2:=jM (Below w w (w1.alloc (.cells #[.int .i64 m0,.int .i64 m1,.int .i64 v0,.int .i64 v1,.bool ok] 318))) (HB1.o.alloc HB1.o.size _);rw[show Value.agg (cPcs ⟨m0,m1,v0,v1,ok⟩).toArray=.agg #[.int .i64 m0,.int .i64 m1,.int .i64 v0,.int .i64 v1,.bool ok] from rfl];obtain ⟨z0,z1⟩:=K1.o.c2 0 1;have zf:=K1.o.frozen;by_cases hno:ok=false\/m0=0\/m1=0
 ·have HE:=jM (parA s.data.toList=(⟨0,0⟩,4)) (by unfold parA;rw[HP.o];exact jb hno);have hcases:ok=false\/(ok=true/\m0=0)\/(ok=true/\m0≠0/\m1=0):=by
   cases ok <;> simp at hno ⊢
   by_cases h:m0=0
   ·exact .inl h
   exact .inr ⟨h,hno.resolve_left h⟩
  clear hno;rcases hcases with rfl | ⟨rfl,rfl⟩ | ⟨rfl,hm0,rfl⟩
  ·go_wp2;refine jO results279 (v:=.tuple #[.agg #[.int .i64 0,.int .i64 0],.int .i64 4]) ?_ (by simp (maxDischargeDepth:=9) [jQ,go_sem,z0,z1,hz]);rw[HE.o];exact ⟨rfl,(jc (jc HB1.o (by simp) _) (by simp) _).alloc (by have:=HB1.o.size;simpa [World.setCell] using this) _⟩
  ·go_wp2;refine jO results279 (v:=.tuple #[.agg #[.int .i64 0,.int .i64 0],.int .i64 4]) ?_ (by simp (maxDischargeDepth:=9) [jQ,go_sem,z0,z1,hz]);rw[HE.o];exact ⟨rfl,(jc (jc HB1.o (by simp) _) (by simp) _).alloc (by have:=HB1.o.size;simpa [World.setCell] using this) _⟩
  have hm1:(m0==0)=false:=by simpa using hm0
  go_wp2;refine jO results279 (v:=.tuple #[.agg #[.int .i64 0,.int .i64 0],.int .i64 4]) ?_ (by simp (maxDischargeDepth:=9) [jQ,go_sem,z0,z1,hz]);rw[HE.o];exact ⟨rfl,(jc (jc HB1.o (by simp) _) (by simp) _).alloc (by have:=HB1.o.size;simpa [World.setCell] using this) _⟩
 have hok:ok=true:=by cases ok <;> simp_all
 subst hok;have hm0:(m0==0)=false:=by simp at hno ⊢;exact hno.1
 have hm1:(m1==0)=false:=by simp at hno ⊢;exact hno.2
 have HE:=jM (parA s.data.toList=if za6 v0 v1 then (⟨v0,v1⟩,0) else (⟨0,0⟩,3)) (by unfold parA;rw[HP.o];exact ja hno);clear hno;go_wp2_with fail;refine (zfi v0 v1 _).mono ?_;rintro e w2 ⟨rfl,hb2⟩;have hz2:w.heap.size<w2.heap.size:=by have:=hb2.size;simp at this;omega
 have hz1:w1.heap.size+1<w2.heap.size:=by have:=hb2.size;simp at this;omega
 have K3:=Hd ((K2.o.alloc (.cells #[.int .i64 v0,.int .i64 v1] 56)).below_ hb2);have K4:=Hd (show Blk w2 (w1.heap.size+1) 56 #[.int .i64 v0,.int .i64 v1] by
  have:=(je (w1.alloc (.cells #[.int .i64 m0,.int .i64 m1,.int .i64 v0,.int .i64 v1,.bool true] 318)) 56 #[.int .i64 v0,.int .i64 v1]).below_ hb2;simpa using this)
 have HB3:=jM (Below w w w2) (jd (HB2.o.alloc HB2.o.size _) hb2 (by have:=HB2.o.size;simp at this ⊢;omega));obtain ⟨y0,y1⟩:=K3.o.c2 0 1;have yf:=K3.o.frozen;obtain ⟨x0,x1⟩:=K4.o.c2 0 1;clear hb2 z0 z1 zf;by_cases hv:za6 v0 v1=true
 ·rw[hv] at HE ⊢;go_wp2;refine jO results279 (v:=.tuple #[.agg #[.int .i64 v0,.int .i64 v1],.int .i64 0]) ?_ (by simp (maxDischargeDepth:=9) [jQ,go_sem,y0,y1]);rw[HE.o];exact ⟨rfl,jc (jc HB3.o (by simp) _) (by simp) _⟩
 have hv2:za6 v0 v1=false:=by simpa using hv
 rw[hv2] at HE ⊢;clear hv;go_wp2;refine jO results279 (v:=.tuple #[.agg #[.int .i64 0,.int .i64 0],.int .i64 3]) ?_ (by simp (maxDischargeDepth:=9) [jQ,go_sem,y0,y1]);rw[HE.o];exact ⟨rfl,jc (jc HB3.o (by simp) _) (by simp) _⟩
end Go.Proofs.YtamcgggmfghljaaGreatDoor
