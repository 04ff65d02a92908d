/- Layer 4 (program): strings changed byte by byte. -/
import Derived.Laws.IdiomStrings
import Derived.Deep.QuietTactic
import Derived.BigQuiet
import Derived.Test.YtamcgggmfghljaaGreatDoorD2
set_option maxRecDepth 100000
set_option maxHeartbeats 8000000
open Go.Proofs.Tryz
namespace Go.Proofs.YtamcgggmfghljaaGreatDoor
open Go.RowKit
theorem zf2 (b j:Nat):(⟨b,0,none⟩:Addr).add j=⟨b,j,none⟩:=by unfold Addr.add;split <;> simp_all
def Rowb (w:World) (g:Nat) (cs:Array Value):Prop:=w.heap[g]?=some (.cells cs 5 (cs.size,cs.size+1))
section
variable {w:World} {g:Nat} {cs:Array Value}
theorem Rowb.cell (h:Rowb w g cs) (i:Nat):w.cell? ⟨g,i,none⟩=cs[i]?:=by simp [World.cell?,show w.heap[g]?=_ from h]
theorem Rowb.frozen (h:Rowb w g cs) (i:Nat) (hi:i<cs.size):w.frozen? ⟨g,i,none⟩=false:=by
 simp [World.frozen?,show w.heap[g]?=_ from h]
 omega
theorem Rowb.lt (h:Rowb w g cs):g<w.heap.size:=by
 rcases Nat.lt_or_ge g w.heap.size with hlt | hge
 ·exact hlt
 unfold Rowb at h;rw [Array.getElem?_eq_none hge] at h;cases h
theorem Rowb.set_ (h:Rowb w g cs) (i:Nat) (u:Value):Rowb (w.setCell ⟨g,i,none⟩ u) g (cs.setIfInBounds i u):=by
 unfold Rowb at h ⊢
 simp [World.setCell,Array.getElem?_modify,h]
theorem Rowb.drew (h:Rowb w g cs):Rowb w.drew g cs:=h
theorem Rowb.below {w':World} {B:Nat} (h:Rowb w g cs) (hb:Below B w w') (hg:g<B):Rowb w' g cs:=(hb.block g hg).trans h
end
def zzj (v:Value) (φ:UInt8→UInt8) (w0:World):Prop:=
 ∃K fs,v=.func (.func K) #[] fs∧(∀(args:Array Value) (w:World),(callFunc K args).run prog w=.ok (.enter K args) w)∧∀(c:UInt8) (w:World),Below w0.heap.size w0 w→Calls prog K (#[.int .u8 c.toNat]++fs) w fun e w'=>e=.returned (.int .u8 (φ c).toNat)∧Below w.heap.size w w'
def prC (c:UInt8):UInt8:=if c.toNat<32∨126<c.toNat then 0 else 32
theorem pr_1 (c:UInt8) (w:World):
 Calls prog 193 #[.int .u8 c.toNat] w fun u w'=>u=.returned (.int .u8 (prC c).toNat)∧Below w.heap.size w w':=by
 have hc:=c.toNat_lt
 by_cases h1:c.toNat<32
 ·have H:=Hd (show prC c=0 by unfold prC;rw [if_pos (.inl h1)])
  go_enter func193,ntmps193
  go_wp2
  go_ret
  exact ⟨by rw [H.out];rfl,by go_grown⟩
 by_cases h2:126<c.toNat
 ·have H:=Hd (show prC c=0 by unfold prC;rw [if_pos (.inr h2)])
  go_enter func193,ntmps193
  go_wp2
  go_ret
  exact ⟨by rw [H.out];rfl,by go_grown⟩
 have H:=Hd (show prC c=32 by unfold prC;rw [if_neg (by omega)])
 go_enter func193,ntmps193
 go_wp2
 go_ret
 exact ⟨by rw [H.out];rfl,by go_grown⟩
theorem zh3 (s:zaa) (f:Value) (φ:UInt8→UInt8) (w:World) (hs:s.length≤1000000) (hf:zzj f φ w):
 Calls prog 192 #[str s,f] w fun u w'=>∃(g cap:Nat) (cs:Array Value),u=.returned (.slice (some ⟨g,0,none⟩) s.length cap)∧Rowb w' g cs∧w.heap.size≤g∧(∀(j:Nat) (c:UInt8),s[j]?=some c→cs[j]?=some (.int .u8 (φ c).toNat))∧Below w.heap.size w w':=by
 obtain ⟨K,fs,rfl,hE,hK⟩:=hf
 have HK:=Hd hK
 clear hK
 have hcv:=run_bytes_of_string (P:=prog) w 9 59 5 ⟨s.toArray⟩ rfl rfl rfl
 have hsz:(⟨s.toArray⟩:ByteArray).size=s.length:=by show s.toArray.size=_;simp
 rw [hsz] at hcv
 generalize hcap:grownCap w s.length 0 5=cap at hcv
 have hge:s.length≤cap:=hcap▸grownCap_ge w s.length 0 5
 generalize hrow:bytesRow ⟨s.toArray⟩ cap=row at hcv
 have hat:∀(j:Nat) (c:UInt8),s[j]?=some c→row[j]?=some (.int .u8 c.toNat):=fun j c hj=>by
  have hjl:=(List.getElem?_eq_some_iff.1 hj).1
  rw [← hrow,bytesRow_at _ cap j (by simpa using hjl)]
  have:s[j]=c:=by rw [List.getElem?_eq_getElem hjl] at hj;simpa using hj
  simp [this]
 have hrs:s.length≤row.size:=by
  rw [← hrow]
  simp [bytesRow]
 have HR:=Hd hat
 clear hat hcap hrow
 have H1:=Hd (show Rowb (w.alloc (.cells row 5 (row.size,row.size+1))).drew w.heap.size row from heap_alloc_new w _)
 go_enter func192,ntmps192
 go_wp2
 go_loopw [12] (fun i wr=>∃(k:Nat) (cs:Array Value),k≤s.length∧i=.int .i64 k∧Rowb wr w.heap.size cs∧s.length≤cs.size∧(∀(j:Nat) (c:UInt8),s[j]?=some c→cs[j]?=some (.int .u8 (if j<k then φ c else c).toNat))∧Below w.heap.size w wr) (fun i _=>s.length-(intOf i).toNat)
 case atStart=>exact ⟨0,row,by omega,rfl,H1.out,hrs,by simpa using HR.out,by go_grown⟩
 obtain ⟨k,cs,hk,rfl,hrb,hcs,hall,hbw⟩:=hrel
 have RB:=Hd hrb
 have HA:=Hd hall
 have HBW:=Hd hbw
 by_cases hlt:k<s.length
 rotate_left
 ·go_wp2
  go_ret
  obtain rfl:k=s.length:=by omega
  refine ⟨_,_,cs,rfl,RB.out,Nat.le_refl _,fun j c hj=>?_,HBW.out⟩
  have hjl:=(List.getElem?_eq_some_iff.1 hj).1
  have:=HA.out j c hj
  rwa [if_pos hjl] at this
 have hx:s[k]?=some s[k]:=List.getElem?_eq_getElem hlt
 have hc0:=(hrb.cell k).trans (hall k _ hx)
 rw [if_neg (by omega)] at hc0
 have hlw:=hrb.lt
 have HX:=Hd hx
 clear hrb hall hbw hx
 generalize s[k]=c at *
 have hi0:(0:Int)≤(k:Int):=Int.natCast_nonneg _
 have hi1:(k:Int)<(s.length:Int):=by omega
 go_wp2_with fail
 refine (HK.out c _ HBW.out).mono ?_
 rintro e w1 ⟨rfl,hb1⟩
 have r1:=Rowb.below RB.out hb1 hlw
 have hf1:=r1.frozen k (by omega)
 have hc1:=(r1.cell k).trans (HA.out k c HX.out)
 have R1:=Hd r1
 have B1:=Hd (HBW.out.trans (hb1.mono HBW.out.size))
 clear r1 hb1 hc0
 go_wp2
 refine ⟨⟨k+1,cs.setIfInBounds k (.int .u8 (φ c).toNat),by omega,by go_num,R1.out.set_ k _,by simpa using hcs,fun j d hj=>?_,B1.out.setCell (Nat.le_refl _) _⟩,by simp [intOf];omega⟩
 have h0:=HA.out j d hj
 have hjl:=(List.getElem?_eq_some_iff.1 hj).1
 by_cases hjk:j=k
 ·subst hjk
  rw [Array.getElem?_setIfInBounds_self_of_lt (by omega),if_pos (by omega)]
  have:=HX.out.symm.trans hj
  simp at this
  rw [this]
 rw [Array.getElem?_setIfInBounds_ne (by omega),h0]
 by_cases hjk2:j<k
 ·rw [if_pos hjk2,if_pos (by omega)]
 rw [if_neg hjk2,if_neg (by omega)]
theorem zjz (v u:Value) (l m:List Rul) (B1 B2:Nat) (w:World) (hv:Sls cRul w B1 v l) (hu:Sls cRul w B2 u m):
 Calls prog 119 #[v,u] w fun e w'=>e=.returned (.bool (decide (l=m)))∧Same w w':=by
 obtain ⟨A1,cap1,rfl,hc1,hm1,hr1⟩:=id hv
 obtain ⟨A2,cap2,rfl,hc2,hm2,hr2⟩:=id hu
 have HV:=Hd hv
 have HU:=Hd hu
 clear hr1 hr2 hv hu
 unfold maxLen at hm1 hm2
 by_cases hl:l.length=m.length
 rotate_left
 ·have h0:((l.length:Int) != (m.length:Int))=true:=by simpa using fun e=>hl (by omega)
  have h1:(l.length != m.length)=true:=by simpa using hl
  have hne:¬l=m:=fun e=>hl (by rw [e])
  have HN:=Hd hne
  clear hne
  go_enter func119,ntmps119
  go_wp2
  go_ret
  exact ⟨by simp [HN.out],Same.refl _⟩
 have h0:((l.length:Int) != (m.length:Int))=false:=by simp [hl]
 have h1:(l.length != m.length)=false:=by simp [hl]
 have HL:=Hd hl
 clear hl
 go_enter func119,ntmps119
 go_wp2
 go_loopw [5] (fun i wr=>∃k:Nat,k≤l.length∧i=.int .i64 k∧l.take k=m.take k∧Same w wr) (fun i _=>l.length-(intOf i).toNat)
 case atStart=>exact ⟨0,by omega,rfl,by simp,Same.refl _⟩
 obtain ⟨k,hk,rfl,he,hs⟩:=hrel
 have HE:=Hd he
 clear he
 by_cases hlt:k<l.length
 rotate_left
 ·go_wp2
  go_ret
  have h1:k=l.length:=by omega
  have h2:=HE.out
  rw [h1,List.take_length,HL.out,List.take_length] at h2
  exact ⟨by simp [h2],hs⟩
 have hx:l[k]?=some l[k]:=List.getElem?_eq_getElem hlt
 have hlt2:k<m.length:=by rw [← HL.out];exact hlt
 have hy:m[k]?=some m[k]:=List.getElem?_eq_getElem hlt2
 obtain ⟨b1,o1,rfl,_,r1⟩:=(HV.out.same hs).get 7 zcu hx
 obtain ⟨b2,o2,rfl,_,r2⟩:=(HU.out.same hs).get 7 zcu hy
 have ht1:l.take (k+1)=l.take k++ [l[k]]:=by rw [List.take_succ_eq_append_getElem hlt]
 have ht2:m.take (k+1)=m.take k++ [m[k]]:=by rw [List.take_succ_eq_append_getElem hlt2]
 have HT1:=Hd ht1
 have HT2:=Hd ht2
 have HS:=Hd hs
 clear hx hy ht1 ht2 hs
 generalize l[k]=x at *
 generalize m[k]=y at *
 have r1_0:wr.cell? ⟨b1,o1+k*7,none⟩=some (.int .i64 x.rect.c1):=r1 0 _ rfl
 have r1_1:wr.cell? ⟨b1,o1+k*7+1,none⟩=some (.int .i64 x.rect.r1):=r1 1 _ rfl
 have r1_2:wr.cell? ⟨b1,o1+k*7+2,none⟩=some (.int .i64 x.rect.c2):=r1 2 _ rfl
 have r1_3:wr.cell? ⟨b1,o1+k*7+3,none⟩=some (.int .i64 x.rect.r2):=r1 3 _ rfl
 have r1_4:wr.cell? ⟨b1,o1+k*7+4,none⟩=some (.int .u64 x.rights.rd):=r1 4 _ rfl
 have r1_5:wr.cell? ⟨b1,o1+k*7+5,none⟩=some (.int .u64 x.rights.wr):=r1 5 _ rfl
 have r1_6:wr.cell? ⟨b1,o1+k*7+6,none⟩=some (.int .u64 x.rights.ow):=r1 6 _ rfl
 have r2_0:wr.cell? ⟨b2,o2+k*7,none⟩=some (.int .i64 y.rect.c1):=r2 0 _ rfl
 have r2_1:wr.cell? ⟨b2,o2+k*7+1,none⟩=some (.int .i64 y.rect.r1):=r2 1 _ rfl
 have r2_2:wr.cell? ⟨b2,o2+k*7+2,none⟩=some (.int .i64 y.rect.c2):=r2 2 _ rfl
 have r2_3:wr.cell? ⟨b2,o2+k*7+3,none⟩=some (.int .i64 y.rect.r2):=r2 3 _ rfl
 have r2_4:wr.cell? ⟨b2,o2+k*7+4,none⟩=some (.int .u64 y.rights.rd):=r2 4 _ rfl
 have r2_5:wr.cell? ⟨b2,o2+k*7+5,none⟩=some (.int .u64 y.rights.wr):=r2 5 _ rfl
 have r2_6:wr.cell? ⟨b2,o2+k*7+6,none⟩=some (.int .u64 y.rights.ow):=r2 6 _ rfl
 have hn:∀W,(binOp .neq 79 (.agg #[.int .i64 x.rect.c1,.int .i64 x.rect.r1,.int .i64 x.rect.c2,.int .i64 x.rect.r2,.int .u64 x.rights.rd,.int .u64 x.rights.wr,.int .u64 x.rights.ow]) (.agg #[.int .i64 y.rect.c1,.int .i64 y.rect.r1,.int .i64 y.rect.c2,.int .i64 y.rect.r2,.int .u64 y.rights.rd,.int .u64 y.rights.wr,.int .u64 y.rights.ow])).run prog W=.ok (.bool (!decide (x=y))) W:=fun W=>zyp x y W
 have hi0:(0:Int)≤(k:Int):=Int.natCast_nonneg _
 have hi1:(k:Int)<(l.length:Int):=by omega
 have hi2:(k:Int)<(m.length:Int):=by omega
 clear r1 r2
 by_cases hxy:x=y
 ·have hd:decide (x=y)=true:=by simpa using hxy
  rw [hd] at hn
  have HXY:=Hd hxy
  clear hd hxy
  go_wp2
  go_quiet (fail)
  go_wp2
  exact ⟨⟨k+1,by omega,by go_num,by rw [HT1.out,HT2.out,HE.out,HXY.out],HS.out.drewN _⟩,by simp [intOf];omega⟩
 have hd:decide (x=y)=false:=by simpa using hxy
 rw [hd] at hn
 have HXY:=Hd hxy
 clear hd hxy
 go_wp2
 go_quiet (fail)
 go_wp2
 go_ret
 have hne:¬l=m:=by
  intro e
  have h2:=HT1.out
  rw [e,HT2.out,← HE.out] at h2
  exact HXY.out (by simpa using h2.symm)
 exact ⟨by simp [hne],HS.out.drewN _⟩
theorem zj2 (v u:Value) (l m:List Grt) (B1 B2:Nat) (w:World) (hv:Sls cGrt w B1 v l) (hu:Sls cGrt w B2 u m):
 Calls prog 120 #[v,u] w fun e w'=>e=.returned (.bool (decide (l=m)))∧Same w w':=by
 obtain ⟨A1,cap1,rfl,hc1,hm1,hr1⟩:=id hv
 obtain ⟨A2,cap2,rfl,hc2,hm2,hr2⟩:=id hu
 have HV:=Hd hv
 have HU:=Hd hu
 clear hr1 hr2 hv hu
 unfold maxLen at hm1 hm2
 by_cases hl:l.length=m.length
 rotate_left
 ·have h0:((l.length:Int) != (m.length:Int))=true:=by simpa using fun e=>hl (by omega)
  have h1:(l.length != m.length)=true:=by simpa using hl
  have hne:¬l=m:=fun e=>hl (by rw [e])
  have HN:=Hd hne
  clear hne
  go_enter func120,ntmps120
  go_wp2
  go_ret
  exact ⟨by simp [HN.out],Same.refl _⟩
 have h0:((l.length:Int) != (m.length:Int))=false:=by simp [hl]
 have h1:(l.length != m.length)=false:=by simp [hl]
 have HL:=Hd hl
 clear hl
 go_enter func120,ntmps120
 go_wp2
 go_loopw [5] (fun i wr=>∃k:Nat,k≤l.length∧i=.int .i64 k∧l.take k=m.take k∧Same w wr) (fun i _=>l.length-(intOf i).toNat)
 case atStart=>exact ⟨0,by omega,rfl,by simp,Same.refl _⟩
 obtain ⟨k,hk,rfl,he,hs⟩:=hrel
 have HE:=Hd he
 clear he
 by_cases hlt:k<l.length
 rotate_left
 ·go_wp2
  go_ret
  have h1:k=l.length:=by omega
  have h2:=HE.out
  rw [h1,List.take_length,HL.out,List.take_length] at h2
  exact ⟨by simp [h2],hs⟩
 have hx:l[k]?=some l[k]:=List.getElem?_eq_getElem hlt
 have hlt2:k<m.length:=by rw [← HL.out];exact hlt
 have hy:m[k]?=some m[k]:=List.getElem?_eq_getElem hlt2
 obtain ⟨b1,o1,rfl,_,r1⟩:=(HV.out.same hs).get 8 zdm hx
 obtain ⟨b2,o2,rfl,_,r2⟩:=(HU.out.same hs).get 8 zdm hy
 have ht1:l.take (k+1)=l.take k++ [l[k]]:=by rw [List.take_succ_eq_append_getElem hlt]
 have ht2:m.take (k+1)=m.take k++ [m[k]]:=by rw [List.take_succ_eq_append_getElem hlt2]
 have HT1:=Hd ht1
 have HT2:=Hd ht2
 have HS:=Hd hs
 clear hx hy ht1 ht2 hs
 generalize l[k]=x at *
 generalize m[k]=y at *
 have r1_0:wr.cell? ⟨b1,o1+k*8,none⟩=some (.int .i64 x.rect.c1):=r1 0 _ rfl
 have r1_1:wr.cell? ⟨b1,o1+k*8+1,none⟩=some (.int .i64 x.rect.r1):=r1 1 _ rfl
 have r1_2:wr.cell? ⟨b1,o1+k*8+2,none⟩=some (.int .i64 x.rect.c2):=r1 2 _ rfl
 have r1_3:wr.cell? ⟨b1,o1+k*8+3,none⟩=some (.int .i64 x.rect.r2):=r1 3 _ rfl
 have r1_4:wr.cell? ⟨b1,o1+k*8+4,none⟩=some (.int .u8 x.fns):=r1 4 _ rfl
 have r1_5:wr.cell? ⟨b1,o1+k*8+5,none⟩=some (.int .u64 x.to_):=r1 5 _ rfl
 have r1_6:wr.cell? ⟨b1,o1+k*8+6,none⟩=some (.int .i64 x.by_):=r1 6 _ rfl
 have r1_7:wr.cell? ⟨b1,o1+k*8+7,none⟩=some (.bool x.revoked):=r1 7 _ rfl
 have r2_0:wr.cell? ⟨b2,o2+k*8,none⟩=some (.int .i64 y.rect.c1):=r2 0 _ rfl
 have r2_1:wr.cell? ⟨b2,o2+k*8+1,none⟩=some (.int .i64 y.rect.r1):=r2 1 _ rfl
 have r2_2:wr.cell? ⟨b2,o2+k*8+2,none⟩=some (.int .i64 y.rect.c2):=r2 2 _ rfl
 have r2_3:wr.cell? ⟨b2,o2+k*8+3,none⟩=some (.int .i64 y.rect.r2):=r2 3 _ rfl
 have r2_4:wr.cell? ⟨b2,o2+k*8+4,none⟩=some (.int .u8 y.fns):=r2 4 _ rfl
 have r2_5:wr.cell? ⟨b2,o2+k*8+5,none⟩=some (.int .u64 y.to_):=r2 5 _ rfl
 have r2_6:wr.cell? ⟨b2,o2+k*8+6,none⟩=some (.int .i64 y.by_):=r2 6 _ rfl
 have r2_7:wr.cell? ⟨b2,o2+k*8+7,none⟩=some (.bool y.revoked):=r2 7 _ rfl
 have hn:∀W,(binOp .neq 85 (.agg #[.int .i64 x.rect.c1,.int .i64 x.rect.r1,.int .i64 x.rect.c2,.int .i64 x.rect.r2,.int .u8 x.fns,.int .u64 x.to_,.int .i64 x.by_,.bool x.revoked]) (.agg #[.int .i64 y.rect.c1,.int .i64 y.rect.r1,.int .i64 y.rect.c2,.int .i64 y.rect.r2,.int .u8 y.fns,.int .u64 y.to_,.int .i64 y.by_,.bool y.revoked])).run prog W=.ok (.bool (!decide (x=y))) W:=fun W=>zys x y W
 have hi0:(0:Int)≤(k:Int):=Int.natCast_nonneg _
 have hi1:(k:Int)<(l.length:Int):=by omega
 have hi2:(k:Int)<(m.length:Int):=by omega
 clear r1 r2
 by_cases hxy:x=y
 ·have hd:decide (x=y)=true:=by simpa using hxy
  rw [hd] at hn
  have HXY:=Hd hxy
  clear hd hxy
  go_wp2
  go_quiet (fail)
  go_wp2
  exact ⟨⟨k+1,by omega,by go_num,by rw [HT1.out,HT2.out,HE.out,HXY.out],HS.out.drewN _⟩,by simp [intOf];omega⟩
 have hd:decide (x=y)=false:=by simpa using hxy
 rw [hd] at hn
 have HXY:=Hd hxy
 clear hd hxy
 go_wp2
 go_quiet (fail)
 go_wp2
 go_ret
 have hne:¬l=m:=by
  intro e
  have h2:=HT1.out
  rw [e,HT2.out,← HE.out] at h2
  exact HXY.out (by simpa using h2.symm)
 exact ⟨by simp [hne],HS.out.drewN _⟩
theorem zj3 (v u:Value) (l m:List Evt) (B1 B2:Nat) (w:World) (hv:Sls cEvt w B1 v l) (hu:Sls cEvt w B2 u m):
 Calls prog 121 #[v,u] w fun e w'=>e=.returned (.bool (decide (l=m)))∧Same w w':=by
 obtain ⟨A1,cap1,rfl,hc1,hm1,hr1⟩:=id hv
 obtain ⟨A2,cap2,rfl,hc2,hm2,hr2⟩:=id hu
 have HV:=Hd hv
 have HU:=Hd hu
 clear hr1 hr2 hv hu
 unfold maxLen at hm1 hm2
 by_cases hl:l.length=m.length
 rotate_left
 ·have h0:((l.length:Int) != (m.length:Int))=true:=by simpa using fun e=>hl (by omega)
  have h1:(l.length != m.length)=true:=by simpa using hl
  have hne:¬l=m:=fun e=>hl (by rw [e])
  have HN:=Hd hne
  clear hne
  go_enter func121,ntmps121
  go_wp2
  go_ret
  exact ⟨by simp [HN.out],Same.refl _⟩
 have h0:((l.length:Int) != (m.length:Int))=false:=by simp [hl]
 have h1:(l.length != m.length)=false:=by simp [hl]
 have HL:=Hd hl
 clear hl
 go_enter func121,ntmps121
 go_wp2
 go_loopw [5] (fun i wr=>∃k:Nat,k≤l.length∧i=.int .i64 k∧l.take k=m.take k∧Same w wr) (fun i _=>l.length-(intOf i).toNat)
 case atStart=>exact ⟨0,by omega,rfl,by simp,Same.refl _⟩
 obtain ⟨k,hk,rfl,he,hs⟩:=hrel
 have HE:=Hd he
 clear he
 by_cases hlt:k<l.length
 rotate_left
 ·go_wp2
  go_ret
  have h1:k=l.length:=by omega
  have h2:=HE.out
  rw [h1,List.take_length,HL.out,List.take_length] at h2
  exact ⟨by simp [h2],hs⟩
 have hx:l[k]?=some l[k]:=List.getElem?_eq_getElem hlt
 have hlt2:k<m.length:=by rw [← HL.out];exact hlt
 have hy:m[k]?=some m[k]:=List.getElem?_eq_getElem hlt2
 obtain ⟨b1,o1,rfl,_,r1⟩:=(HV.out.same hs).get 9 zcw hx
 obtain ⟨b2,o2,rfl,_,r2⟩:=(HU.out.same hs).get 9 zcw hy
 have ht1:l.take (k+1)=l.take k++ [l[k]]:=by rw [List.take_succ_eq_append_getElem hlt]
 have ht2:m.take (k+1)=m.take k++ [m[k]]:=by rw [List.take_succ_eq_append_getElem hlt2]
 have HT1:=Hd ht1
 have HT2:=Hd ht2
 have HS:=Hd hs
 clear hx hy ht1 ht2 hs
 generalize l[k]=x at *
 generalize m[k]=y at *
 have r1_0:wr.cell? ⟨b1,o1+k*9,none⟩=some (.int .i64 x.step):=r1 0 _ rfl
 have r1_1:wr.cell? ⟨b1,o1+k*9+1,none⟩=some (.int .i64 x.user):=r1 1 _ rfl
 have r1_2:wr.cell? ⟨b1,o1+k*9+2,none⟩=some (.int .u8 x.kind):=r1 2 _ rfl
 have r1_3:wr.cell? ⟨b1,o1+k*9+3,none⟩=some (.int .i64 x.rect.c1):=r1 3 _ rfl
 have r1_4:wr.cell? ⟨b1,o1+k*9+4,none⟩=some (.int .i64 x.rect.r1):=r1 4 _ rfl
 have r1_5:wr.cell? ⟨b1,o1+k*9+5,none⟩=some (.int .i64 x.rect.c2):=r1 5 _ rfl
 have r1_6:wr.cell? ⟨b1,o1+k*9+6,none⟩=some (.int .i64 x.rect.r2):=r1 6 _ rfl
 have r1_7:wr.cell? ⟨b1,o1+k*9+7,none⟩=some (.bool x.done_):=r1 7 _ rfl
 have r1_8:wr.cell? ⟨b1,o1+k*9+8,none⟩=some (.int .u64 x.to_):=r1 8 _ rfl
 have r2_0:wr.cell? ⟨b2,o2+k*9,none⟩=some (.int .i64 y.step):=r2 0 _ rfl
 have r2_1:wr.cell? ⟨b2,o2+k*9+1,none⟩=some (.int .i64 y.user):=r2 1 _ rfl
 have r2_2:wr.cell? ⟨b2,o2+k*9+2,none⟩=some (.int .u8 y.kind):=r2 2 _ rfl
 have r2_3:wr.cell? ⟨b2,o2+k*9+3,none⟩=some (.int .i64 y.rect.c1):=r2 3 _ rfl
 have r2_4:wr.cell? ⟨b2,o2+k*9+4,none⟩=some (.int .i64 y.rect.r1):=r2 4 _ rfl
 have r2_5:wr.cell? ⟨b2,o2+k*9+5,none⟩=some (.int .i64 y.rect.c2):=r2 5 _ rfl
 have r2_6:wr.cell? ⟨b2,o2+k*9+6,none⟩=some (.int .i64 y.rect.r2):=r2 6 _ rfl
 have r2_7:wr.cell? ⟨b2,o2+k*9+7,none⟩=some (.bool y.done_):=r2 7 _ rfl
 have r2_8:wr.cell? ⟨b2,o2+k*9+8,none⟩=some (.int .u64 y.to_):=r2 8 _ rfl
 have hn:∀W,(binOp .neq 110 (.agg #[.int .i64 x.step,.int .i64 x.user,.int .u8 x.kind,.int .i64 x.rect.c1,.int .i64 x.rect.r1,.int .i64 x.rect.c2,.int .i64 x.rect.r2,.bool x.done_,.int .u64 x.to_]) (.agg #[.int .i64 y.step,.int .i64 y.user,.int .u8 y.kind,.int .i64 y.rect.c1,.int .i64 y.rect.r1,.int .i64 y.rect.c2,.int .i64 y.rect.r2,.bool y.done_,.int .u64 y.to_])).run prog W=.ok (.bool (!decide (x=y))) W:=fun W=>zyt x y W
 have hi0:(0:Int)≤(k:Int):=Int.natCast_nonneg _
 have hi1:(k:Int)<(l.length:Int):=by omega
 have hi2:(k:Int)<(m.length:Int):=by omega
 clear r1 r2
 by_cases hxy:x=y
 ·have hd:decide (x=y)=true:=by simpa using hxy
  rw [hd] at hn
  have HXY:=Hd hxy
  clear hd hxy
  go_wp2
  go_quiet (fail)
  go_wp2
  exact ⟨⟨k+1,by omega,by go_num,by rw [HT1.out,HT2.out,HE.out,HXY.out],HS.out.drewN _⟩,by simp [intOf];omega⟩
 have hd:decide (x=y)=false:=by simpa using hxy
 rw [hd] at hn
 have HXY:=Hd hxy
 clear hd hxy
 go_wp2
 go_quiet (fail)
 go_wp2
 go_ret
 have hne:¬l=m:=by
  intro e
  have h2:=HT1.out
  rw [e,HT2.out,← HE.out] at h2
  exact HXY.out (by simpa using h2.symm)
 exact ⟨by simp [hne],HS.out.drewN _⟩
end Go.Proofs.YtamcgggmfghljaaGreatDoor
