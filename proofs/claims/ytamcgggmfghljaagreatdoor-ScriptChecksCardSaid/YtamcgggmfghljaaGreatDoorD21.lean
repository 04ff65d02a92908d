/- Layer 7: the rules one after the other. No program in sight. -/
import Derived.Laws.EntriesVeiled
import Derived.Test.YtamcgggmfghljaaGreatDoorD17
import Derived.Test.YtamcgggmfghljaaGreatDoorD19
import Derived.Test.YtamcgggmfghljaaGreatDoorD20
set_option maxRecDepth 100000
set_option maxHeartbeats 8000000
open Go.Proofs.Tryz
namespace Go.Proofs.YtamcgggmfghljaaGreatDoor
open Go.RowKit
def tryS (s:zaa) (i:Nat):Nat→Tok × Nat
 | 0=>zao s i
 | 1=>zc1 s i
 | 2=>zbj s i
 | 3=>zc6 s i
 | _=>zc3 s i
theorem zmv (s:zaa):∀f k r,endQ s f k=some r→r<s.length
 | 0,_,_,h=>by simp [endQ] at h
 | f+1,k,r,h=>by
  unfold endQ at h
  split at h
  ·cases h
  split at h
  ·exact zmv s f _ r h
  split at h
  ·exact zmv s f _ r h
  cases h;omega
theorem zn9 (s:zaa) (i:Nat):∀(l:List zaa) (c:Int),(zdd s i c l).2≤s.length
 | [],c=>by simp [zdd]
 | x::l,c=>by
  unfold zdd
  split
  ·rename_i h;simp;omega
  exact zn9 s i l _
theorem zrk (s:zaa) (i:Nat):∀(l:List (zaa × Int)) r,opsL s i l=some r→r.2≤s.length
 | [],r,h=>by simp [opsL] at h
 | (x,n)::l,r,h=>by
  unfold opsL at h
  split at h
  ·rename_i hp
   cases h
   have:=(List.isPrefixOf_iff_prefix.1 hp).length_le
   simp at this ⊢
   omega
  exact zrk s i l r h
theorem zff (s:zaa) (i k:Nat):(tryS s i k).2≤2*s.length+1:=by
 have hl:∀p j,lenB p s j≤s.length:=fun p j=>Nat.le_trans (zfj p s j) (by omega)
 have hp:∀j,(zaf s j).length≤s.length:=fun j=>by unfold zaf;simp;omega
 unfold tryS
 split
 ·have h1:=hl digB i
  have h2:=hl digB (i+lenB digB s i+1)
  unfold zao
  repeat' split
  all_goals try (simp;done)
  simp only [zbe]
  split <;> omega
 ·unfold zc1
  split
  ·simp
  split
  ·simp
  rename_i k h
  have:=zmv s _ _ _ h
  split
  ·simp
  simp;omega
 ·have h1:=hp i
  have h2:=hp (i+(zaf s i).length+1)
  unfold zbj
  repeat' split
  all_goals simp only []
  all_goals omega
 ·unfold zc6
  have:=zn9 s i zfw 1
  omega
 unfold zc3
 split
 ·rename_i r h
  have:=zrk s i _ r h
  omega
 repeat' split
 all_goals simp
theorem zxz (s:zaa) (i k:Nat) (h:k<5) (h0:∀j,j<k→(tryS s i j).2=0) (h1:0<(tryS s i k).2):zck s i=tryS s i k:=by
 unfold zck
 rcases (by omega:k=0∨k=1∨k=2∨k=3∨k=4) with rfl | rfl | rfl | rfl | rfl
 ·rw [if_pos (show 0<(zao s i).2 from h1)];rfl
 ·have a0:(zao s i).2=0:=h0 0 (by omega)
  rw [if_neg (by omega),if_pos (show 0<(zc1 s i).2 from h1)];rfl
 ·have a0:(zao s i).2=0:=h0 0 (by omega)
  have a1:(zc1 s i).2=0:=h0 1 (by omega)
  rw [if_neg (by omega),if_neg (by omega),if_pos (show 0<(zbj s i).2 from h1)];rfl
 ·have a0:(zao s i).2=0:=h0 0 (by omega)
  have a1:(zc1 s i).2=0:=h0 1 (by omega)
  have a2:(zbj s i).2=0:=h0 2 (by omega)
  rw [if_neg (by omega),if_neg (by omega),if_neg (by omega),if_pos (show 0<(zc6 s i).2 from h1)];rfl
 have a0:(zao s i).2=0:=h0 0 (by omega)
 have a1:(zc1 s i).2=0:=h0 1 (by omega)
 have a2:(zbj s i).2=0:=h0 2 (by omega)
 have a3:(zc6 s i).2=0:=h0 3 (by omega)
 rw [if_neg (by omega),if_neg (by omega),if_neg (by omega),if_neg (by omega)];rfl
theorem zqy (s:zaa) (i:Nat) (h0:∀j,j<5→(tryS s i j).2=0):(zck s i).2=0:=by
 have a0:(zao s i).2=0:=h0 0 (by omega)
 have a1:(zc1 s i).2=0:=h0 1 (by omega)
 have a2:(zbj s i).2=0:=h0 2 (by omega)
 have a3:(zc6 s i).2=0:=h0 3 (by omega)
 unfold zck
 rw [if_neg (by omega),if_neg (by omega),if_neg (by omega),if_neg (by omega)]
 exact h0 4 (by omega)
theorem zep (s:zaa):∀f f' i,s.length<i+f→0<f→s.length<i+f'→0<f'→zd1 s f i=zd1 s f' i
 | 0,_,_,_,h,_,_=>by omega
 | f+1,0,_,_,_,_,h=>by omega
 | f+1,f'+1,i,h1,_,h2,_=>by
  unfold zd1
  by_cases hi:s.length≤i
  ·rw [if_pos hi,if_pos hi]
  rw [if_neg hi,if_neg hi,zep s f f' (i+1) (by omega) (by omega) (by omega) (by omega)]
  by_cases hn:(zck s i).2=0
  ·rw [if_pos hn,if_pos hn]
  rw [if_neg hn,if_neg hn,zep s f f' (i+(zck s i).2) (by omega) (by omega) (by omega) (by omega)]
def zdf (s:zaa) (i:Nat):Option (List Tok):=zd1 s (s.length+1) i
theorem zm5 (s:zaa) (i:Nat) (h:s.length≤i):zdf s i=some []:=by
 unfold zdf zd1;rw [if_pos h]
theorem zih (s:zaa) (i:Nat) (h:i<s.length) (hc:ub s i=32):zdf s i=zdf s (i+1):=by
 unfold zdf
 conv=>lhs;unfold zd1
 rw [if_neg (by omega),if_pos hc]
 exact zep s _ _ _ (by omega) (by omega) (by omega) (by omega)
theorem zqo (s:zaa) (i:Nat) (h:i<s.length) (hc:ub s i≠32) (h0:∀j,j<5→(tryS s i j).2=0):zdf s i=none:=by
 unfold zdf
 conv=>lhs;unfold zd1
 rw [if_neg (by omega),if_neg hc,if_pos (zqy s i h0)]
theorem zeo (s:zaa) (i k:Nat) (h:i<s.length) (hc:ub s i≠32) (hk:k<5) (h0:∀j,j<k→(tryS s i j).2=0) (h1:0<(tryS s i k).2):
 zdf s i=(zdf s (i+(tryS s i k).2)).map ((tryS s i k).1::·):=by
 have hr:=zxz s i k hk h0 h1
 unfold zdf
 conv=>lhs;unfold zd1
 rw [if_neg (by omega),if_neg hc,hr,if_neg (by omega)]
 rw [zep s s.length (s.length+1) (i+(tryS s i k).2) (by omega) (by omega) (by omega) (by omega)]
theorem zg9 (s:zaa) (h:s.length≤256) (hp:pltB s=true) {l:List Tok} (ht:zdf s 0=some l):zae s=(l,0):=by
 unfold zdf at ht
 unfold zae
 rw [if_neg (by omega),if_neg (by simp [hp]),ht]
theorem zha (s:zaa) (h:s.length≤256) (hp:pltB s=true) (ht:zdf s 0=none):zae s=([],4):=by
 unfold zdf at ht
 unfold zae
 rw [if_neg (by omega),if_neg (by simp [hp]),ht]
theorem ze3 (o:List Tok) (c:Tok) (x:Option (List Tok)):(x.map (c::·)).map (o++·)=x.map ((o++ [c])++·):=by cases x <;> simp
theorem zhq (g:Nat) (s:zaa) (i:Nat) (w:World) (hs:s.length≤1000000) (hi:i<s.length) (hg:Blk w g 263 #[str s]) (hw:Words w) (k:Nat) (f:Nat)
 (hf:(k,f)∈ [(0,246),(1,247),(2,248),(3,249),(4,250)]):
 Calls prog f #[.pointer (some ⟨g,0,none⟩),.int .i64 i] w fun u w'=>u=.returned (.tuple #[.agg (cTok (tryS s i k).1).toArray,.int .i64 (tryS s i k).2])∧Below w.heap.size w w':=by
 simp only [List.mem_cons,List.not_mem_nil,or_false,Prod.mk.injEq] at hf
 rcases hf with ⟨rfl,rfl⟩ | ⟨rfl,rfl⟩ | ⟨rfl,rfl⟩ | ⟨rfl,rfl⟩ | ⟨rfl,rfl⟩
 ·exact zpt g s i w hs (by omega) hg
 ·exact zvr g s i w hs hi hg
 ·exact zvq g s i w hs hi hg
 ·exact zvu g s i w hs (by omega) hg hw
 exact zvs g s i w hs hi hg
theorem znm (s:zaa) (k:Nat) (h:k<s.length) (hc:¬(32≤ub s k∧ub s k≤126)):pltB s=false:=by
 have:¬pltB s=true:=fun hp=>by
  unfold pltB at hp
  rw [List.all_eq_true] at hp
  have:=hp (s.getD k 0) (by rw [List.getD_eq_getElem?_getD,List.getElem?_eq_getElem h];simp)
  simp at this
  exact hc this
 exact eq_false_of_ne_true this
theorem zjs (s:zaa) (h:∀j,j<s.length→32≤ub s j∧ub s j≤126):pltB s=true:=by
 unfold pltB
 rw [List.all_eq_true]
 intro c hc
 obtain ⟨j,hj,rfl⟩:=List.getElem_of_mem hc
 have:=h j hj
 unfold ub at this
 rw [List.getD_eq_getElem?_getD,List.getElem?_eq_getElem hj] at this
 simpa using this
theorem znw:∃i,prog.info? 239=some i∧i.zero=some (.agg #[.int .u8 0,.int .i64 0,.string ⟨#[]⟩,.int .i64 0,.int .i64 0,.int .i64 0,.int .i64 0,.int .i64 0])∧i.size=8∧i.bytes=72:=
 info_parts (show (prog.info? 239).map (fun i=>(i.zero,i.size,i.bytes))=some (some (.agg #[.int .u8 0,.int .i64 0,.string ⟨#[]⟩,.int .i64 0,.int .i64 0,.int .i64 0,.int .i64 0,.int .i64 0]),8,72) by kernel_rfl)
theorem ze9 (x:Tok):∀u∈cTok x,u.oneCell'=true:=by
 intro u hu
 simp only [cTok,List.mem_cons,List.not_mem_nil,or_false] at hu
 rcases hu with rfl | rfl | rfl | rfl | rfl | rfl | rfl | rfl <;> rfl
theorem zij (s:zaa) (h:s.length≤256) (hp:pltB s=false):zae s=([],4):=by
 unfold zae
 rw [if_neg (by omega),if_pos hp]
def rulA (g:Nat):Array Value:=#[.func (.func 246) #[.pointer (some ⟨g,0,none⟩)] #[],.func (.func 247) #[.pointer (some ⟨g,0,none⟩)] #[],.func (.func 248) #[.pointer (some ⟨g,0,none⟩)] #[],.func (.func 249) #[.pointer (some ⟨g,0,none⟩)] #[],.func (.func 250) #[.pointer (some ⟨g,0,none⟩)] #[]]
theorem zpr (s:zaa) (w:World) (hs:s.length≤1000000) (hw:Words w):
 Calls prog 222 #[str s] w fun u w'=>∃v,∃p:Int,u=.returned (.tuple #[v,.int .i64 p,.int .i64 (zae s).2])∧Sls cTok w' w'.heap.size v (zae s).1∧Below w.heap.size w w'∧∀q,v.ownBlock=some q→w.heap.size≤q:=by
 have HW:=Hd hw
 obtain ⟨it,ti0,ti1,ti2,ti3⟩:=znw
 clear hw
 by_cases h256:256<s.length
 ·have h256':(256:Int)<s.length:=by omega
  have HE:=Hd (show zae s=([],5) by unfold zae;rw [if_pos h256])
  go_enter func222,ntmps222
  go_wp2
  go_step3
  go_wp2
  try rw [Exit.noGoto_ret]
  go_ret3
  exact ⟨_,_,by rw [HE.out];rfl,by rw [HE.out];exact Sls.nil _ _ _ _ _,by go_grown,fun q hq=>by simp [Value.ownBlock] at hq⟩
 have h256':¬(256:Int)<s.length:=by omega
 have h256n:s.length≤256:=by omega
 go_enter func222,ntmps222
 go_wp2_with fail
 go_step3
 go_wp2_with fail
 go_loopw [2,18] (fun r v wr=>r=.slice none 0 0∧∃k:Nat,k≤s.length∧v=.int .i64 k∧(∀j,j<k→32≤ub s j∧ub s j≤126)∧w=wr) (fun _ v _=>s.length-(intOf v).toNat)
 case atStart=>exact ⟨rfl,0,by omega,rfl,fun j hj=>by omega,rfl⟩
 obtain ⟨rfl,k,hk,rfl,hall,rfl⟩:=hrel
 have HA:=Hd hall
 clear hall
 have k0:(0:Int)≤(k:Int):=by omega
 by_cases hkn:k<s.length
 ·have hk1:(k:Int)<(s.length:Int):=by omega
  have hx:=za2 s k (by rw [zad];exact hkn)
  have HU:=Hd (show ub s k=(s.getD k 0).toNat from rfl)
  generalize s.getD k 0=c at hx HU
  by_cases hc:32≤c.toNat∧c.toNat≤126
  ·have c1:¬(c.toNat:Int)<32:=by omega
   have c2:¬126<(c.toNat:Int):=by omega
   have HA2:=Hd (show ∀j,j<k+1→32≤ub s j∧ub s j≤126 from fun j hj=>by
    rcases Nat.lt_or_ge j k with h | h
    ·exact HA.out j h
    obtain rfl:j=k:=by omega
    rw [HU.out];exact hc)
   clear hc
   go_wp2
   exact ⟨⟨rfl,k+1,by omega,by go_num,HA2.out,trivial⟩,by simp [intOf];omega⟩
  have HE:=Hd (zij s h256n (znm s k hkn (by rw [HU.out];exact hc)))
  by_cases c1:c.toNat<32
  ·have c1':(c.toNat:Int)<32:=by omega
   clear hc
   go_wp2
   try rw [Exit.noGoto_ret]
   go_ret3
   exact ⟨_,_,by rw [HE.out];rfl,by rw [HE.out];exact Sls.nil _ _ _ _ _,by go_grown,fun q hq=>by simp [Value.ownBlock] at hq⟩
  have c1':¬(c.toNat:Int)<32:=by omega
  have c2':126<(c.toNat:Int):=by omega
  clear hc
  go_wp2
  try rw [Exit.noGoto_ret]
  go_ret3
  exact ⟨_,_,by rw [HE.out];rfl,by rw [HE.out];exact Sls.nil _ _ _ _ _,by go_grown,fun q hq=>by simp [Value.ownBlock] at hq⟩
 have hk1:¬(k:Int)<(s.length:Int):=by omega
 have HP:=Hd (zjs s (fun j hj=>HA.out j (by omega)))
 clear HA
 go_wp2_with fail
 have kA:=(Blk.new w 263 #[str s]).alloc (.cells (rulA w.heap.size) 265)
 have kB:Blk ((w.alloc (.cells #[str s] 263)).alloc (.cells (rulA w.heap.size) 265)) (w.heap.size+1) 265 (rulA w.heap.size):=by
  have:=Blk.new (w.alloc (.cells #[str s] 263)) 265 (rulA w.heap.size)
  simpa using this
 have bb:Below w.heap.size w ((w.alloc (.cells #[str s] 263)).alloc (.cells (rulA w.heap.size) 265)):=by go_grown
 obtain ⟨W2,hW2⟩:∃W2,(w.alloc (.cells #[str s] 263)).alloc (.cells (rulA w.heap.size) 265)=W2:=⟨_,rfl⟩
 have sz:W2.heap.size=w.heap.size+1+1:=by rw [← hW2];simp
 rw [hW2] at kA kB bb
 unfold rulA at hW2
 rw [hW2]
 have KA:=Hd kA
 have KB:=Hd kB
 have BB:=Hd bb
 have SZ:=Hd sz
 have WW:=Hd (HW.out.below bb)
 clear hW2 kA kB bb sz HW
 go_step3
 go_wp2_with fail
 go_loopw [2,8] (fun v iv w3=>∃(i:Nat) (l:List Tok),i≤2000∧iv=.int .i64 i∧l.length≤i∧Own cTok 239 8 w3 v l∧OutTo W2 (.slice none 0 0) w3 v∧zdf s 0=(zdf s i).map (l++·)) (fun _ iv _=>2000-(intOf iv).toNat)
 case atStart=>exact ⟨0,[],by omega,rfl,by simp,Own.nil _ _ _ _,OutTo.refl _ _,by cases zdf s 0 <;> simp⟩
 obtain ⟨i,l,hi2,rfl,hll,hown,hot,htk⟩:=hrel
 have HO:=Hd hown
 have HT:=Hd hot
 have HK:=Hd htk
 clear hown hot htk
 have i0:(0:Int)≤(i:Int):=by omega
 have i2:(i:Int)≤2000:=by omega
 by_cases hin:i<s.length
 rotate_left
 ·have hi1:¬(i:Int)<(s.length:Int):=by omega
  have HE:=Hd (zg9 s h256n HP.out (l:=l) (by rw [HK.out,zm5 s i (by omega)];simp))
  have hHK:=HO.out.sls (by unfold maxLen;omega)
  obtain ⟨A,cap,hv, -⟩:=id hHK
  generalize hL9:l.length=L9 at hv
  have HL9:=Hd hL9
  clear hL9
  have HS:=Hd hHK
  have HBE:=Hd (BB.out.trans ((HT.out.old (Nat.le_refl _) (fun k hk=>by simp [Value.ownBlock] at hk)).mono (by have:=BB.out.size;omega)))
  clear hHK
  subst hv
  go_wp2
  try rw [Exit.noGoto_ret]
  go_ret3
  exact ⟨_,_,by rw [HE.out];rfl,by rw [HE.out];exact HS.out,HBE.out,fun q hq=>by
   rcases HT.out.own q hq with e | e
   ·simp [Value.ownBlock] at e
   exact Nat.le_trans BB.out.size e⟩
 have hi1:(i:Int)<(s.length:Int):=by omega
 have hx:=za2 s i (by rw [zad];exact hin)
 have HU:=Hd (show ub s i=(s.getD i 0).toNat from rfl)
 generalize s.getD i 0=c at hx HU
 by_cases h32:c.toNat=32
 ·have HE:=Hd (zih s i hin (HU.out.trans h32))
  have b32:((c.toNat:Int)==32)=true:=by rw [h32];rfl
  clear h32
  go_wp2
  exact ⟨⟨i+1,l,by omega,by go_num,by omega,HO.out,HT.out,by rw [HK.out,HE.out]⟩,by simp [intOf];omega⟩
 have HE:=Hd (show ub s i≠32 by rw [HU.out];exact h32)
 have b32:((c.toNat:Int)==32)=false:=by simp;omega
 clear h32
 have kb:=KB.out.outTo HT.out (by simp [Value.ownBlock])
 have f0:wr.cell? ⟨w.heap.size+1,0,none⟩=some (.func (.func 246) #[.pointer (some ⟨w.heap.size,0,none⟩)] #[]):=kb.cell 0
 have f1:wr.cell? ⟨w.heap.size+1,1,none⟩=some (.func (.func 247) #[.pointer (some ⟨w.heap.size,0,none⟩)] #[]):=kb.cell 1
 have f2:wr.cell? ⟨w.heap.size+1,2,none⟩=some (.func (.func 248) #[.pointer (some ⟨w.heap.size,0,none⟩)] #[]):=kb.cell 2
 have f3:wr.cell? ⟨w.heap.size+1,3,none⟩=some (.func (.func 249) #[.pointer (some ⟨w.heap.size,0,none⟩)] #[]):=kb.cell 3
 have f4:wr.cell? ⟨w.heap.size+1,4,none⟩=some (.func (.func 250) #[.pointer (some ⟨w.heap.size,0,none⟩)] #[]):=kb.cell 4
 clear kb
 have HA:=Hd (KA.out.outTo HT.out (by simp [Value.ownBlock]))
 have HWR:=Hd (HT.out.old (Nat.le_refl _) (fun k hk=>by simp [Value.ownBlock] at hk))
 go_wp2_with fail
 obtain ⟨W3,hW3⟩:∃W3,W3=wr:=⟨_,rfl⟩
 subst hW3
 obtain ⟨sv,hsv⟩:∃sv,sv=u2:=⟨_,rfl⟩
 subst hsv
 go_loopw [2,8,58] (fun sv' iv v w4=>sv'=sv∧iv=.int .i64 i∧∃k:Nat,k≤5∧v=.int .i64 k∧(∀j,j<k→(tryS s i j).2=0)∧Below W3.heap.size W3 w4) (fun _ _ v _=>5-(intOf v).toNat)
 case atStart=>exact ⟨rfl,rfl,0,by omega,rfl,fun j hj=>by omega,Below.refl _ _⟩
 obtain ⟨rfl,rfl,k,hk5,rfl,hz,hbk⟩:=hrel
 have HZ:=Hd hz
 have HBK:=Hd hbk
 clear hz hbk
 rcases (by omega:k=0∨k=1∨k=2∨k=3∨k=4∨k=5) with rfl | rfl | rfl | rfl | rfl | rfl
 ·have hbl:=HBK.out
  have HG:=Hd (HA.out.below_ hbl)
  have HWK:=Hd ((WW.out.below HWR.out).below hbl)
  clear hbl
  have hc:=zhq w.heap.size s i wr hs hin HG.out HWK.out 0 246 (by decide)
  have hle:=zff s i 0
  have HC:=Hd hc
  clear hc
  generalize hr:tryS s i 0=r at HC hle
  have HR:=Hd hr
  clear hr
  obtain ⟨tk,n⟩:=r
  simp only at HC hle
  have hix:∀W:World,(Instr.index 265 (.agg #[.func (.func 246) #[.pointer (some ⟨w.heap.size,0,none⟩)] #[],.func (.func 247) #[.pointer (some ⟨w.heap.size,0,none⟩)] #[],.func (.func 248) #[.pointer (some ⟨w.heap.size,0,none⟩)] #[],.func (.func 249) #[.pointer (some ⟨w.heap.size,0,none⟩)] #[],.func (.func 250) #[.pointer (some ⟨w.heap.size,0,none⟩)] #[]]) (.int .i64 0)).run prog W=.ok (.func (.func 246) #[.pointer (some ⟨w.heap.size,0,none⟩)] #[]) W:=fun W=>by rfl
  go_wp2_with fail
  refine HC.out.mono ?_
  rintro u w5 ⟨rfl,hb5⟩
  have HB5:=Hd (Below.next HBK.out hb5 HBK.out.size)
  clear hb5 HC
  have n1:(n:Int)≤513:=by omega
  by_cases hn:0<n
  ·have hn':(0:Int)<(n:Int):=by omega
   have HT5:=Hd (show OutTo W2 (.slice none 0 0) (w5.alloc (.cells (cTok tk).toArray 239)) u2 from (HT.out.below HB5.out).alloc _)
   rw [show (cTok tk).toArray=#[.int .u8 tk.kind,.int .i64 tk.num,str tk.text,.int .i64 tk.rect.c1,.int .i64 tk.rect.r1,.int .i64 tk.rect.c2,.int .i64 tk.rect.r2,.int .i64 tk.at_] from rfl]
   have KN:=Hd (show Blk ((w5.alloc (.cells (cTok tk).toArray 239)).alloc (.cells (cTok tk).toArray 239)) (w5.heap.size+1) 239 (cTok tk).toArray by
    have:=Blk.new (w5.alloc (.cells (cTok tk).toArray 239)) 239 (cTok tk).toArray
    simpa using this)
   have HO5:=Hd (((HO.out.below HB5.out).alloc (.cells (cTok tk).toArray 239)).alloc (.cells (cTok tk).toArray 239))
   go_wp2_with (at_builtin;refine RowKit.Hid.out ?_)
   refine Hd ?_
   refine zbo cTok rfl _ _ 230 rfl 239 it _ 8 72 underlying230 ti0 ti1 ti2 ti3 rfl (by omega) u2 l rfl HO5.out _ _ [tk] rfl (Sls.one (x:=tk) KN.out rfl) zdk ze9 (by simp;omega) (by omega) ?_
   intro v9 w9 o9 t9
   have O9:=Hd o9
   have T9:=Hd ((HT5.out.alloc (.cells (cTok tk).toArray 239)).trans t9)
   clear o9 t9 KN
   go_wp2
   exact ⟨⟨i+n,l++ [tk],by omega,by go_num,by simp;omega,O9.out,T9.out,by rw [HK.out,zeo s i 0 hin HE.out (by omega) HZ.out (by rw [HR.out];exact hn),HR.out];exact ze3 _ _ _⟩,by simp [intOf];omega⟩
  have hn':¬(0:Int)<(n:Int):=by omega
  have HZ2:=Hd (show ∀j,j<0+1→(tryS s i j).2=0 from fun j hj=>by
   rcases Nat.lt_or_ge j 0 with h | h
   ·exact HZ.out j h
   obtain rfl:j=0:=by omega
   rw [HR.out]
   show n=0
   omega)
  have HB6:=Hd (HB5.out.alloc HB5.out.size (.cells (cTok tk).toArray 239))
  rw [show (cTok tk).toArray=#[.int .u8 tk.kind,.int .i64 tk.num,str tk.text,.int .i64 tk.rect.c1,.int .i64 tk.rect.r1,.int .i64 tk.rect.c2,.int .i64 tk.rect.r2,.int .i64 tk.at_] from rfl]
  go_wp2
  exact ⟨⟨rfl,rfl,0+1,by omega,by go_num,HZ2.out,HB6.out⟩,by simp [intOf]⟩
 ·have hbl:=HBK.out
  have HG:=Hd (HA.out.below_ hbl)
  have HWK:=Hd ((WW.out.below HWR.out).below hbl)
  clear hbl
  have hc:=zhq w.heap.size s i wr hs hin HG.out HWK.out 1 247 (by decide)
  have hle:=zff s i 1
  have HC:=Hd hc
  clear hc
  generalize hr:tryS s i 1=r at HC hle
  have HR:=Hd hr
  clear hr
  obtain ⟨tk,n⟩:=r
  simp only at HC hle
  have hix:∀W:World,(Instr.index 265 (.agg #[.func (.func 246) #[.pointer (some ⟨w.heap.size,0,none⟩)] #[],.func (.func 247) #[.pointer (some ⟨w.heap.size,0,none⟩)] #[],.func (.func 248) #[.pointer (some ⟨w.heap.size,0,none⟩)] #[],.func (.func 249) #[.pointer (some ⟨w.heap.size,0,none⟩)] #[],.func (.func 250) #[.pointer (some ⟨w.heap.size,0,none⟩)] #[]]) (.int .i64 1)).run prog W=.ok (.func (.func 247) #[.pointer (some ⟨w.heap.size,0,none⟩)] #[]) W:=fun W=>by rfl
  go_wp2_with fail
  refine HC.out.mono ?_
  rintro u w5 ⟨rfl,hb5⟩
  have HB5:=Hd (Below.next HBK.out hb5 HBK.out.size)
  clear hb5 HC
  have n1:(n:Int)≤513:=by omega
  by_cases hn:0<n
  ·have hn':(0:Int)<(n:Int):=by omega
   have HT5:=Hd (show OutTo W2 (.slice none 0 0) (w5.alloc (.cells (cTok tk).toArray 239)) u2 from (HT.out.below HB5.out).alloc _)
   rw [show (cTok tk).toArray=#[.int .u8 tk.kind,.int .i64 tk.num,str tk.text,.int .i64 tk.rect.c1,.int .i64 tk.rect.r1,.int .i64 tk.rect.c2,.int .i64 tk.rect.r2,.int .i64 tk.at_] from rfl]
   have KN:=Hd (show Blk ((w5.alloc (.cells (cTok tk).toArray 239)).alloc (.cells (cTok tk).toArray 239)) (w5.heap.size+1) 239 (cTok tk).toArray by
    have:=Blk.new (w5.alloc (.cells (cTok tk).toArray 239)) 239 (cTok tk).toArray
    simpa using this)
   have HO5:=Hd (((HO.out.below HB5.out).alloc (.cells (cTok tk).toArray 239)).alloc (.cells (cTok tk).toArray 239))
   go_wp2_with (at_builtin;refine RowKit.Hid.out ?_)
   refine Hd ?_
   refine zbo cTok rfl _ _ 230 rfl 239 it _ 8 72 underlying230 ti0 ti1 ti2 ti3 rfl (by omega) u2 l rfl HO5.out _ _ [tk] rfl (Sls.one (x:=tk) KN.out rfl) zdk ze9 (by simp;omega) (by omega) ?_
   intro v9 w9 o9 t9
   have O9:=Hd o9
   have T9:=Hd ((HT5.out.alloc (.cells (cTok tk).toArray 239)).trans t9)
   clear o9 t9 KN
   go_wp2
   exact ⟨⟨i+n,l++ [tk],by omega,by go_num,by simp;omega,O9.out,T9.out,by rw [HK.out,zeo s i 1 hin HE.out (by omega) HZ.out (by rw [HR.out];exact hn),HR.out];exact ze3 _ _ _⟩,by simp [intOf];omega⟩
  have hn':¬(0:Int)<(n:Int):=by omega
  have HZ2:=Hd (show ∀j,j<1+1→(tryS s i j).2=0 from fun j hj=>by
   rcases Nat.lt_or_ge j 1 with h | h
   ·exact HZ.out j h
   obtain rfl:j=1:=by omega
   rw [HR.out]
   show n=0
   omega)
  have HB6:=Hd (HB5.out.alloc HB5.out.size (.cells (cTok tk).toArray 239))
  rw [show (cTok tk).toArray=#[.int .u8 tk.kind,.int .i64 tk.num,str tk.text,.int .i64 tk.rect.c1,.int .i64 tk.rect.r1,.int .i64 tk.rect.c2,.int .i64 tk.rect.r2,.int .i64 tk.at_] from rfl]
  go_wp2
  exact ⟨⟨rfl,rfl,1+1,by omega,by go_num,HZ2.out,HB6.out⟩,by simp [intOf]⟩
 ·have hbl:=HBK.out
  have HG:=Hd (HA.out.below_ hbl)
  have HWK:=Hd ((WW.out.below HWR.out).below hbl)
  clear hbl
  have hc:=zhq w.heap.size s i wr hs hin HG.out HWK.out 2 248 (by decide)
  have hle:=zff s i 2
  have HC:=Hd hc
  clear hc
  generalize hr:tryS s i 2=r at HC hle
  have HR:=Hd hr
  clear hr
  obtain ⟨tk,n⟩:=r
  simp only at HC hle
  have hix:∀W:World,(Instr.index 265 (.agg #[.func (.func 246) #[.pointer (some ⟨w.heap.size,0,none⟩)] #[],.func (.func 247) #[.pointer (some ⟨w.heap.size,0,none⟩)] #[],.func (.func 248) #[.pointer (some ⟨w.heap.size,0,none⟩)] #[],.func (.func 249) #[.pointer (some ⟨w.heap.size,0,none⟩)] #[],.func (.func 250) #[.pointer (some ⟨w.heap.size,0,none⟩)] #[]]) (.int .i64 2)).run prog W=.ok (.func (.func 248) #[.pointer (some ⟨w.heap.size,0,none⟩)] #[]) W:=fun W=>by rfl
  go_wp2_with fail
  refine HC.out.mono ?_
  rintro u w5 ⟨rfl,hb5⟩
  have HB5:=Hd (Below.next HBK.out hb5 HBK.out.size)
  clear hb5 HC
  have n1:(n:Int)≤513:=by omega
  by_cases hn:0<n
  ·have hn':(0:Int)<(n:Int):=by omega
   have HT5:=Hd (show OutTo W2 (.slice none 0 0) (w5.alloc (.cells (cTok tk).toArray 239)) u2 from (HT.out.below HB5.out).alloc _)
   rw [show (cTok tk).toArray=#[.int .u8 tk.kind,.int .i64 tk.num,str tk.text,.int .i64 tk.rect.c1,.int .i64 tk.rect.r1,.int .i64 tk.rect.c2,.int .i64 tk.rect.r2,.int .i64 tk.at_] from rfl]
   have KN:=Hd (show Blk ((w5.alloc (.cells (cTok tk).toArray 239)).alloc (.cells (cTok tk).toArray 239)) (w5.heap.size+1) 239 (cTok tk).toArray by
    have:=Blk.new (w5.alloc (.cells (cTok tk).toArray 239)) 239 (cTok tk).toArray
    simpa using this)
   have HO5:=Hd (((HO.out.below HB5.out).alloc (.cells (cTok tk).toArray 239)).alloc (.cells (cTok tk).toArray 239))
   go_wp2_with (at_builtin;refine RowKit.Hid.out ?_)
   refine Hd ?_
   refine zbo cTok rfl _ _ 230 rfl 239 it _ 8 72 underlying230 ti0 ti1 ti2 ti3 rfl (by omega) u2 l rfl HO5.out _ _ [tk] rfl (Sls.one (x:=tk) KN.out rfl) zdk ze9 (by simp;omega) (by omega) ?_
   intro v9 w9 o9 t9
   have O9:=Hd o9
   have T9:=Hd ((HT5.out.alloc (.cells (cTok tk).toArray 239)).trans t9)
   clear o9 t9 KN
   go_wp2
   exact ⟨⟨i+n,l++ [tk],by omega,by go_num,by simp;omega,O9.out,T9.out,by rw [HK.out,zeo s i 2 hin HE.out (by omega) HZ.out (by rw [HR.out];exact hn),HR.out];exact ze3 _ _ _⟩,by simp [intOf];omega⟩
  have hn':¬(0:Int)<(n:Int):=by omega
  have HZ2:=Hd (show ∀j,j<2+1→(tryS s i j).2=0 from fun j hj=>by
   rcases Nat.lt_or_ge j 2 with h | h
   ·exact HZ.out j h
   obtain rfl:j=2:=by omega
   rw [HR.out]
   show n=0
   omega)
  have HB6:=Hd (HB5.out.alloc HB5.out.size (.cells (cTok tk).toArray 239))
  rw [show (cTok tk).toArray=#[.int .u8 tk.kind,.int .i64 tk.num,str tk.text,.int .i64 tk.rect.c1,.int .i64 tk.rect.r1,.int .i64 tk.rect.c2,.int .i64 tk.rect.r2,.int .i64 tk.at_] from rfl]
  go_wp2
  exact ⟨⟨rfl,rfl,2+1,by omega,by go_num,HZ2.out,HB6.out⟩,by simp [intOf]⟩
 ·have hbl:=HBK.out
  have HG:=Hd (HA.out.below_ hbl)
  have HWK:=Hd ((WW.out.below HWR.out).below hbl)
  clear hbl
  have hc:=zhq w.heap.size s i wr hs hin HG.out HWK.out 3 249 (by decide)
  have hle:=zff s i 3
  have HC:=Hd hc
  clear hc
  generalize hr:tryS s i 3=r at HC hle
  have HR:=Hd hr
  clear hr
  obtain ⟨tk,n⟩:=r
  simp only at HC hle
  have hix:∀W:World,(Instr.index 265 (.agg #[.func (.func 246) #[.pointer (some ⟨w.heap.size,0,none⟩)] #[],.func (.func 247) #[.pointer (some ⟨w.heap.size,0,none⟩)] #[],.func (.func 248) #[.pointer (some ⟨w.heap.size,0,none⟩)] #[],.func (.func 249) #[.pointer (some ⟨w.heap.size,0,none⟩)] #[],.func (.func 250) #[.pointer (some ⟨w.heap.size,0,none⟩)] #[]]) (.int .i64 3)).run prog W=.ok (.func (.func 249) #[.pointer (some ⟨w.heap.size,0,none⟩)] #[]) W:=fun W=>by rfl
  go_wp2_with fail
  refine HC.out.mono ?_
  rintro u w5 ⟨rfl,hb5⟩
  have HB5:=Hd (Below.next HBK.out hb5 HBK.out.size)
  clear hb5 HC
  have n1:(n:Int)≤513:=by omega
  by_cases hn:0<n
  ·have hn':(0:Int)<(n:Int):=by omega
   have HT5:=Hd (show OutTo W2 (.slice none 0 0) (w5.alloc (.cells (cTok tk).toArray 239)) u2 from (HT.out.below HB5.out).alloc _)
   rw [show (cTok tk).toArray=#[.int .u8 tk.kind,.int .i64 tk.num,str tk.text,.int .i64 tk.rect.c1,.int .i64 tk.rect.r1,.int .i64 tk.rect.c2,.int .i64 tk.rect.r2,.int .i64 tk.at_] from rfl]
   have KN:=Hd (show Blk ((w5.alloc (.cells (cTok tk).toArray 239)).alloc (.cells (cTok tk).toArray 239)) (w5.heap.size+1) 239 (cTok tk).toArray by
    have:=Blk.new (w5.alloc (.cells (cTok tk).toArray 239)) 239 (cTok tk).toArray
    simpa using this)
   have HO5:=Hd (((HO.out.below HB5.out).alloc (.cells (cTok tk).toArray 239)).alloc (.cells (cTok tk).toArray 239))
   go_wp2_with (at_builtin;refine RowKit.Hid.out ?_)
   refine Hd ?_
   refine zbo cTok rfl _ _ 230 rfl 239 it _ 8 72 underlying230 ti0 ti1 ti2 ti3 rfl (by omega) u2 l rfl HO5.out _ _ [tk] rfl (Sls.one (x:=tk) KN.out rfl) zdk ze9 (by simp;omega) (by omega) ?_
   intro v9 w9 o9 t9
   have O9:=Hd o9
   have T9:=Hd ((HT5.out.alloc (.cells (cTok tk).toArray 239)).trans t9)
   clear o9 t9 KN
   go_wp2
   exact ⟨⟨i+n,l++ [tk],by omega,by go_num,by simp;omega,O9.out,T9.out,by rw [HK.out,zeo s i 3 hin HE.out (by omega) HZ.out (by rw [HR.out];exact hn),HR.out];exact ze3 _ _ _⟩,by simp [intOf];omega⟩
  have hn':¬(0:Int)<(n:Int):=by omega
  have HZ2:=Hd (show ∀j,j<3+1→(tryS s i j).2=0 from fun j hj=>by
   rcases Nat.lt_or_ge j 3 with h | h
   ·exact HZ.out j h
   obtain rfl:j=3:=by omega
   rw [HR.out]
   show n=0
   omega)
  have HB6:=Hd (HB5.out.alloc HB5.out.size (.cells (cTok tk).toArray 239))
  rw [show (cTok tk).toArray=#[.int .u8 tk.kind,.int .i64 tk.num,str tk.text,.int .i64 tk.rect.c1,.int .i64 tk.rect.r1,.int .i64 tk.rect.c2,.int .i64 tk.rect.r2,.int .i64 tk.at_] from rfl]
  go_wp2
  exact ⟨⟨rfl,rfl,3+1,by omega,by go_num,HZ2.out,HB6.out⟩,by simp [intOf]⟩
 ·have hbl:=HBK.out
  have HG:=Hd (HA.out.below_ hbl)
  have HWK:=Hd ((WW.out.below HWR.out).below hbl)
  clear hbl
  have hc:=zhq w.heap.size s i wr hs hin HG.out HWK.out 4 250 (by decide)
  have hle:=zff s i 4
  have HC:=Hd hc
  clear hc
  generalize hr:tryS s i 4=r at HC hle
  have HR:=Hd hr
  clear hr
  obtain ⟨tk,n⟩:=r
  simp only at HC hle
  have hix:∀W:World,(Instr.index 265 (.agg #[.func (.func 246) #[.pointer (some ⟨w.heap.size,0,none⟩)] #[],.func (.func 247) #[.pointer (some ⟨w.heap.size,0,none⟩)] #[],.func (.func 248) #[.pointer (some ⟨w.heap.size,0,none⟩)] #[],.func (.func 249) #[.pointer (some ⟨w.heap.size,0,none⟩)] #[],.func (.func 250) #[.pointer (some ⟨w.heap.size,0,none⟩)] #[]]) (.int .i64 4)).run prog W=.ok (.func (.func 250) #[.pointer (some ⟨w.heap.size,0,none⟩)] #[]) W:=fun W=>by rfl
  go_wp2_with fail
  refine HC.out.mono ?_
  rintro u w5 ⟨rfl,hb5⟩
  have HB5:=Hd (Below.next HBK.out hb5 HBK.out.size)
  clear hb5 HC
  have n1:(n:Int)≤513:=by omega
  by_cases hn:0<n
  ·have hn':(0:Int)<(n:Int):=by omega
   have HT5:=Hd (show OutTo W2 (.slice none 0 0) (w5.alloc (.cells (cTok tk).toArray 239)) u2 from (HT.out.below HB5.out).alloc _)
   rw [show (cTok tk).toArray=#[.int .u8 tk.kind,.int .i64 tk.num,str tk.text,.int .i64 tk.rect.c1,.int .i64 tk.rect.r1,.int .i64 tk.rect.c2,.int .i64 tk.rect.r2,.int .i64 tk.at_] from rfl]
   have KN:=Hd (show Blk ((w5.alloc (.cells (cTok tk).toArray 239)).alloc (.cells (cTok tk).toArray 239)) (w5.heap.size+1) 239 (cTok tk).toArray by
    have:=Blk.new (w5.alloc (.cells (cTok tk).toArray 239)) 239 (cTok tk).toArray
    simpa using this)
   have HO5:=Hd (((HO.out.below HB5.out).alloc (.cells (cTok tk).toArray 239)).alloc (.cells (cTok tk).toArray 239))
   go_wp2_with (at_builtin;refine RowKit.Hid.out ?_)
   refine Hd ?_
   refine zbo cTok rfl _ _ 230 rfl 239 it _ 8 72 underlying230 ti0 ti1 ti2 ti3 rfl (by omega) u2 l rfl HO5.out _ _ [tk] rfl (Sls.one (x:=tk) KN.out rfl) zdk ze9 (by simp;omega) (by omega) ?_
   intro v9 w9 o9 t9
   have O9:=Hd o9
   have T9:=Hd ((HT5.out.alloc (.cells (cTok tk).toArray 239)).trans t9)
   clear o9 t9 KN
   go_wp2
   exact ⟨⟨i+n,l++ [tk],by omega,by go_num,by simp;omega,O9.out,T9.out,by rw [HK.out,zeo s i 4 hin HE.out (by omega) HZ.out (by rw [HR.out];exact hn),HR.out];exact ze3 _ _ _⟩,by simp [intOf];omega⟩
  have hn':¬(0:Int)<(n:Int):=by omega
  have HZ2:=Hd (show ∀j,j<4+1→(tryS s i j).2=0 from fun j hj=>by
   rcases Nat.lt_or_ge j 4 with h | h
   ·exact HZ.out j h
   obtain rfl:j=4:=by omega
   rw [HR.out]
   show n=0
   omega)
  have HB6:=Hd (HB5.out.alloc HB5.out.size (.cells (cTok tk).toArray 239))
  rw [show (cTok tk).toArray=#[.int .u8 tk.kind,.int .i64 tk.num,str tk.text,.int .i64 tk.rect.c1,.int .i64 tk.rect.r1,.int .i64 tk.rect.c2,.int .i64 tk.rect.r2,.int .i64 tk.at_] from rfl]
  go_wp2
  exact ⟨⟨rfl,rfl,4+1,by omega,by go_num,HZ2.out,HB6.out⟩,by simp [intOf]⟩
 ·have HE2:=Hd (zha s h256n HP.out (by rw [HK.out,zqo s i hin HE.out HZ.out];rfl))
  have HBE:=Hd (BB.out.trans (((HT.out.old (Nat.le_refl _) (fun k hk=>by simp [Value.ownBlock] at hk)).trans (HBK.out.mono (by have:=HT.out.chg.size;omega))).mono (by have:=BB.out.size;omega)))
  go_wp2
  try rw [Exit.noGoto_ret]
  go_ret3
  exact ⟨_,_,by rw [HE2.out];rfl,by rw [HE2.out];exact Sls.nil _ _ _ _ _,HBE.out,fun q hq=>by simp [Value.ownBlock] at hq⟩
end Go.Proofs.YtamcgggmfghljaaGreatDoor
