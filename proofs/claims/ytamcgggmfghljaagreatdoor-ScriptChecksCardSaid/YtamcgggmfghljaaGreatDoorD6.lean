/- Layer 4 (program): capitals. -/
import Derived.RangeFuncFrom
import Derived.RangeFuncNested
import Derived.RangeFuncBound
import Derived.RangeFuncCalls
import Derived.RangeFuncLeaves
import Derived.Shelf.Abstract
import Derived.Shelf.RegionOpen
import Derived.OwnWalkIn
import Derived.TacticsInMore
import Derived.LoopNIn
import Derived.LoopIn
import Derived.Test.YtamcgggmfghljaaGreatDoorD5
set_option maxRecDepth 100000
set_option maxHeartbeats 8000000
open Go.Proofs.Tryz
namespace Go.Proofs.YtamcgggmfghljaaGreatDoor
open Go.RowKit
open Go.RowKit Go.Shelf
def upC (c:UInt8):UInt8:=if 97≤c.toNat∧c.toNat≤122 then UInt8.ofNat (c.toNat-32) else c
def upB (s:zaa):zaa:=s.map upC
theorem zyy (c:UInt8) (g1 g2:Nat) (w:World) (h1:w.cell? ⟨g1,0,none⟩=some (.int .u8 97)) (h2:w.cell? ⟨g2,0,none⟩=some (.int .i64 (-32))):
 Calls prog 301 #[.int .u8 c.toNat,.pointer (some ⟨g1,0,none⟩),.pointer (some ⟨g2,0,none⟩)] w fun u w'=>u=.returned (.int .u8 (upC c).toNat)∧Below w.heap.size w w':=by
 have hc:=c.toNat_lt
 by_cases c1:97≤c.toNat
 ·by_cases c2:c.toNat≤122
  ·have H:=Hd (show ((upC c).toNat:Int)=(c.toNat:Int)-32 by
    unfold upC
    rw [if_pos ⟨c1,c2⟩,UInt8.toNat_ofNat']
    omega)
   go_enter func301,ntmps301
   go_wp2
   go_ret
   exact ⟨by rw [H.out];rfl,by go_grown⟩
  have H:=Hd (show upC c=c by unfold upC;rw [if_neg (by omega)])
  go_enter func301,ntmps301
  go_wp2
  go_ret
  exact ⟨by rw [H.out];rfl,by go_grown⟩
 have H:=Hd (show upC c=c by unfold upC;rw [if_neg (by omega)])
 go_enter func301,ntmps301
 go_wp2
 go_ret
 exact ⟨by rw [H.out];rfl,by go_grown⟩
theorem zr0 (s:zaa) (w:World) (hs:s.length≤1000000):
 Calls prog 272 #[str s,.int .u8 97,.int .i64 (-32)] w fun u w'=>u=.returned (str (upB s))∧Below w.heap.size w w':=by
 have HM:=Hd (show zzj (.func (.func 301) #[] #[.pointer (some ⟨w.heap.size,0,none⟩),.pointer (some ⟨w.heap.size+1,0,none⟩)]) upC ((w.alloc (.cells #[.int .u8 97] 5)).alloc (.cells #[.int .i64 (-32)] 3)) from
  ⟨_,_,rfl,fun args w=>by simp [go_sem],fun c W hW=>zyy c w.heap.size (w.heap.size+1) W
   ((hW.cell (p:=⟨w.heap.size,0,none⟩) (by simp;omega)).trans (by simp))
   ((hW.cell (p:=⟨w.heap.size+1,0,none⟩) (by simp)).trans (by simp))⟩)
 go_enter func272,ntmps272
 go_wp2_with fail
 refine (zh3 s _ upC _ hs HM.out).mono ?_
 rintro e w1 ⟨g,cap,cs,rfl,hr,hg,hc,hb⟩
 have hcv:=run_convert_bytes_back (P:=prog) w1 59 9 5 ⟨g,0,none⟩ cap (s.map upC) rfl rfl rfl (fun j hj=>by
  have hj':j<s.length:=by simpa using hj
  have h1:=hc j _ (List.getElem?_eq_getElem hj')
  rw [zf2,hr.cell,h1]
  simp)
 rw [List.length_map] at hcv
 have HB:=Hd (show Below w.heap.size w w1 from nxt hb)
 clear hr hg hc hb
 go_wp2
 go_ret
 exact ⟨rfl,HB.out⟩
theorem zd7 (s:zaa) (w:World) (hs:s.length≤1000000):
 Calls prog 243 #[str s] w fun u w'=>u=.returned (str (upB s))∧Below w.heap.size w w':=by
 go_enter func243,ntmps243
 go_wp2_with fail
 refine (zr0 s _ hs).mono ?_
 rintro e w1 ⟨rfl,hb⟩
 go_wp2
 go_ret
 exact ⟨rfl,hb⟩
theorem zhr (c:UInt8) (w:World):
 Calls prog 274 #[.int .u8 c.toNat] w fun u w'=>u=.returned (.bool (digB c))∧w=w':=by
 rcases chain2 (48≤(c.toNat:Int)) ((c.toNat:Int)≤57) with ⟨h1,h2⟩ | h1 | ⟨h1,h2⟩
 ·have e:digB c=true:=by simp [digB];omega
  go_enter func274,ntmps274
  go_wp2
  go_ret
  exact ⟨by first | rfl | (rw [e];rfl),rfl⟩
 ·have e:digB c=false:=by simp [digB];omega
  go_enter func274,ntmps274
  go_wp2
  go_ret
  exact ⟨by first | rfl | (rw [e];rfl),rfl⟩
 have e:digB c=false:=by simp [digB];omega
 go_enter func274,ntmps274
 go_wp2
 go_ret
 exact ⟨by first | rfl | (rw [e];rfl),rfl⟩
theorem ze4 (c:UInt8) (w:World):
 Calls prog 276 #[.int .u8 c.toNat] w fun u w'=>u=.returned (.bool (letB c))∧w=w':=by
 have hc:(c.toNat:Int)<65∨(65≤(c.toNat:Int)∧(c.toNat:Int)≤90)∨(90<(c.toNat:Int)∧(c.toNat:Int)<97)∨(97≤(c.toNat:Int)∧(c.toNat:Int)≤122)∨122<(c.toNat:Int):=by omega
 rcases hc with h | ⟨h,h'⟩ | ⟨h,h'⟩ | ⟨h,h'⟩ | h
 ·have e:letB c=false:=by simp [letB];omega
  have q1:¬65≤(c.toNat:Int):=by omega
  have q2:¬97≤(c.toNat:Int):=by omega
  go_enter func276,ntmps276
  go_wp2
  go_ret
  exact ⟨by first | rfl | (rw [e];rfl),rfl⟩
 ·have e:letB c=true:=by simp [letB];omega
  go_enter func276,ntmps276
  go_wp2
  go_ret
  exact ⟨by first | rfl | (rw [e];rfl),rfl⟩
 ·have e:letB c=false:=by simp [letB];omega
  have q1:65≤(c.toNat:Int):=by omega
  have q2:¬(c.toNat:Int)≤90:=by omega
  have q3:¬97≤(c.toNat:Int):=by omega
  go_enter func276,ntmps276
  go_wp2
  go_ret
  exact ⟨by first | rfl | (rw [e];rfl),rfl⟩
 ·have e:letB c=true:=by simp [letB];omega
  have q1:65≤(c.toNat:Int):=by omega
  have q2:¬(c.toNat:Int)≤90:=by omega
  go_enter func276,ntmps276
  go_wp2
  go_ret
  exact ⟨by first | rfl | (rw [e];rfl),rfl⟩
 have e:letB c=false:=by simp [letB];omega
 have q1:65≤(c.toNat:Int):=by omega
 have q2:¬(c.toNat:Int)≤90:=by omega
 have q3:97≤(c.toNat:Int):=by omega
 have q4:¬(c.toNat:Int)≤122:=by omega
 go_enter func276,ntmps276
 go_wp2
 go_ret
 exact ⟨by first | rfl | (rw [e];rfl),rfl⟩
theorem zps (c:UInt8) (w:World):
 Calls prog 303 #[.int .u8 c.toNat] w fun u w'=>u=.returned (.bool (alnB c))∧w=w':=by
 by_cases h:letB c=true
 ·have e:alnB c=true:=by simp [alnB,h]
  go_enter func303,ntmps303
  go_wp2_with fail
  refine (ze4 c _).mono ?_
  rintro u w1 ⟨rfl,rfl⟩
  rw [h]
  go_wp2
  go_ret
  exact ⟨by first | rfl | (rw [e];rfl),rfl⟩
 have h':letB c=false:=by simpa using h
 have e:alnB c=digB c:=by simp [alnB,h']
 go_enter func303,ntmps303
 go_wp2_with fail
 refine (ze4 c _).mono ?_
 rintro u w1 ⟨rfl,rfl⟩
 rw [h']
 go_wp2_with fail
 refine (zhr c _).mono ?_
 rintro u w1 ⟨rfl,rfl⟩
 go_wp2
 go_ret
 exact ⟨by first | rfl | (rw [e];rfl),rfl⟩
theorem zlh (s:ByteArray) (i:Int) (f:Value) (w:World) (hf:f.oneCell'=true):
 Calls prog 302 #[.string s,.int .i64 i,f] w fun u w'=>u=.returned (.func (.func 320) #[] #[.pointer (some ⟨w.heap.size+1,0,none⟩),.pointer (some ⟨w.heap.size,0,none⟩),.pointer (some ⟨w.heap.size+1+1,0,none⟩)])∧w'=((w.alloc (.cells #[.string s] 9)).alloc (.cells #[.int .i64 i] 3)).alloc (.cells #[f] 219):=by
 have hmf:∀(fn:Fn) (first cap:Array Value) (w:World),(Instr.makeFunc fn first cap).run prog w=.ok (.func fn first cap) w:=fun _ _ _ _=>rfl
 go_enter func302,ntmps302
 go_wp2
 go_ret
 exact ⟨rfl,rfl⟩
attribute [local go_sem] Oper.semAt_some
def Keep3 (B:Nat) (W W':World):Prop:=∀k,B≤k→k<B+3→W'.heap[k]?=W.heap[k]?
theorem Keep3.trans {B:Nat} {A C D:World} (h:Keep3 B A C) (k:Keep3 B C D):Keep3 B A D:=fun i h1 h2=>(k i h1 h2).trans (h i h1 h2)
theorem Keep3.putObj {B:Nat} {w:World} (hB:B+3≤w.heap.size) (W:World) (l:Nat) (o o':Obj) (hl:w.heap.size≤l) (_:W.heap[l]?=some o) (_:o.isCells=false) (_:o.isWalk=false):Keep3 B W (W.putObj l o'):=fun k _ h2=>World.putObj_heap_other (by omega)
theorem Blk.keep3 {B:Nat} {W W':World} {g:Nat} {t:TypeId} {cs:Array Value} (h:Blk W g t cs) (k:Keep3 B W W') (h1:B≤g) (h2:g<B+3):Blk W' g t cs:=(k g h1 h2).trans h
theorem zei (W:World) (n:Nat):W.grownBy (W.drewN n) none:=⟨rfl,rfl,rfl,Nat.le_refl _,fun _ _ _=>rfl⟩
theorem Blk.eqv' {w:World} {g:Nat} {t:TypeId} {cs cs':Array Value} (h:Blk w g t cs) (e:cs=cs'):Blk w g t cs':=e▸h
theorem Blk.own {W W':World} {g:Nat} {t:TypeId} {cs:Array Value} {row:Option Nat} (h:Blk W g t cs) (hg:W.grownBy W' row) (hr:∀r,row=some r→∃o:Obj,W.heap[r]?=some o∧o.isCells=false):Blk W' g t cs:=
 (grownBy_keeps_cells hg hr h rfl).trans h
theorem zqr (s:ByteArray) (i j:Nat) (hi:i≤j) (h:j<s.size):(s.data.toList.drop i).take (j+1-i)=(s.data.toList.drop i).take (j-i)++ [s[j]]:=by
 have hk:j-i<(s.data.toList.drop i).length:=by simp;omega
 rw [show j+1-i=j-i+1 by omega,List.take_succ_eq_append_getElem hk]
 simp only [List.getElem_drop,show i+(j-i)=j by omega]
 rfl
theorem zsu (s:ByteArray) (i j:Nat) (hi:i≤j) (h:j<s.size):(s.data.toList.drop i)[j-i]?=some s[j]:=by
 rw [List.getElem?_drop,show i+(j-i)=j by omega]
 exact zxd s j h
theorem zg7 {p:UInt8→Bool}:∀(l:zaa) (k:Nat),k≤l.length→(l.take k).all p=true→(∀c,l[k]?=some c→p c=false)→l.takeWhile p=l.take k
 | l,0,_,_,h=>by
  cases l with
  | nil=>rfl
  | cons c l=>rw [List.takeWhile_cons_of_neg (by rw [h c rfl];simp)];rfl
 | [],k+1,hk,_,_=>by simp at hk
 | c::l,k+1,hk,ha,h=>by
  simp only [List.take_succ_cons,List.all_cons,Bool.and_eq_true] at ha
  rw [List.takeWhile_cons_of_pos ha.1,List.take_succ_cons,zg7 l k (by simpa using hk) ha.2 (fun c hc=>h c (by simpa using hc))]
theorem zvy (s:ByteArray) (i B:Nat) (w:World) (hs:s.size≤1000000) (hi:i≤s.size) (h0:Blk w B 9 #[.string s]) (h1:Blk w (B+1) 3 #[.int .i64 i]) (h2:Blk w (B+1+1) 219 #[.func (.func 274) #[] #[]]):
 SeqStopsK Fence.wide 6 prog 320 #[.pointer (some ⟨B+1,0,none⟩),.pointer (some ⟨B,0,none⟩),.pointer (some ⟨B+1+1,0,none⟩)] (fun c:UInt8=>#[.int .u8 c.toNat]) (Keep3 B) (fun xs=>xs=(s.data.toList.drop i).takeWhile digB) (fun _=>True) (s.size+1) w:=by
 intro l J Jx W hW hJ hJx hY hJ0
 have b0:=h0.below_ hW
 have b1:=h1.below_ hW
 have b2:=h2.below_ hW
 have hlt:B+3≤W.heap.size:=by have:=b2.lt;omega
 have B0:=Hd b0
 have B2:=Hd b2
 have c1:W.cell? ⟨B+1,0,none⟩=some (.int .i64 i):=b1.cell 0
 clear b0 b1 b2 h0 h1 h2
 refine callsIn_of_wp func320 rfl trivial ?_ rfl
 simp only [ntmps320,List.size_toArray,List.length_cons,List.length_nil,Nat.reduceAdd,Nat.reduceSub,Array.replicate_succ,Array.replicate_zero,List.push_toArray,List.append_toArray,List.nil_append,List.cons_append]
 gi_wp2
 clear c1
 gi_loopw [5] (fun v wr=>∃j:Nat,i≤j∧j≤s.size∧v=.int .i64 j∧J ((s.data.toList.drop i).take (j-i)) wr∧((s.data.toList.drop i).take (j-i)).all digB=true∧Blk wr B 9 #[.string s]∧Blk wr (B+1+1) 219 #[.func (.func 274) #[] #[]]) (fun v _=>s.size-(intOf v).toNat)
 case atStart=>exact ⟨i,Nat.le_refl _,hi,rfl,by simpa using hJ0,by simp,B0.out,B2.out⟩
 obtain ⟨j,hij,hk,rfl,hjk,hall,b0,b2⟩:=hrel
 have HJK:=Hd hjk
 have HALL:=Hd hall
 have B0':=Hd b0
 have B2':=Hd b2
 clear hjk hall b0 b2
 have k0:wr.cell? ⟨B,0,none⟩=some (.string s):=B0'.out.cell 0
 have k2:wr.cell? ⟨B+1+1,0,none⟩=some (.func (.func 274) #[] #[]):=B2'.out.cell 0
 have hi0:(0:Int)≤(j:Int):=Int.natCast_nonneg _
 by_cases hlt:j<s.size
 rotate_left
 ·have hi1:¬(j:Int)<(s.size:Int):=by omega
  have hi2:decide ((j:Int)<(s.size:Int))=false:=by simpa using hi1
  gi_wp2
  refine wpIn_wide.2 ?_
  go_quiet (fail)
  have HJ2:=Hd (hJ _ _ (wr.drewN nq) none HJK.out (zei wr nq) (fun r e=>by cases e))
  have HE:=Hd (show (s.data.toList.drop i).takeWhile digB=(s.data.toList.drop i).take (j-i) from zg7 _ _ (by simp;omega) HALL.out (fun c hc=>by rw [List.getElem?_eq_none (by simp;omega)] at hc;cases hc))
  gi_wp2
  go_end0
  exact ⟨⟨_,rfl⟩,.inl ⟨_,HE.out.symm,HJ2.out⟩⟩
 have hi1:(j:Int)<(s.size:Int):=by omega
 have hi2:decide ((j:Int)<(s.size:Int))=true:=by simpa using hi1
 gi_wp2
 refine wpIn_wide.2 ?_
 go_quiet ((go_at_call 274;exact Calls.quiet_of_same ((zhr s[j] _).mono fun e w' h=>⟨h.1,h.2.symm⟩)))
 have hj2:=hJ _ _ (wr.drewN nq) none HJK.out (zei wr nq) (fun r e=>by cases e)
 have HG:=Hd (zsu s i j hij hlt)
 by_cases hp:digB s[j]=true
 ·obtain ⟨fn,tmps,assign,body,hy,hR⟩:=hY _ s[j] _ hj2 (by simp;omega)
  have HT:=Hd (zqr s i j hij hlt)
  have HA2:=Hd (show ((s.data.toList.drop i).take (j+1-i)).all digB=true by rw [HT.out,List.all_append,HALL.out];simp [hp])
  have k0':(wr.drewN nq).cell? ⟨B,0,none⟩=some (.string s):=k0
  have HJ2:=Hd hj2
  clear hj2
  rw [hp]
  gi_wp2
  refine hR.mono ?_
  rintro e W3 (⟨rfl,hJ3,hk3⟩ | ⟨rfl,hJx3⟩)
  ·have HJ3:=Hd hJ3
   have HB0:=Hd (Blk.keep3 (W:=wr.drewN nq) B0'.out hk3 (Nat.le_refl _) (by omega))
   have HB2:=Hd (Blk.keep3 (W:=wr.drewN nq) B2'.out hk3 (by omega) (by omega))
   clear hJ3 hk3
   gi_wp2
   exact ⟨⟨j+1,by omega,by omega,by go_num,by rw [HT.out];exact HJ3.out,HA2.out,HB0.out,HB2.out⟩,by simp [intOf];omega⟩
  gi_wp2
  first | go_end0 | refine bodyPost_ret (results_none rfl _ _ _) rfl ?_
  exact ⟨⟨_,rfl⟩,.inr ⟨_,trivial,hJx3⟩⟩
 have hp':digB s[j]=false:=by simpa using hp
 have HE:=Hd (show (s.data.toList.drop i).takeWhile digB=(s.data.toList.drop i).take (j-i) from zg7 _ _ (by simp;omega) HALL.out (fun c hc=>by rw [HG.out] at hc;cases hc;exact hp'))
 have HJ2:=Hd hj2
 clear hj2
 rw [hp']
 gi_wp2
 go_end0
 exact ⟨⟨_,rfl⟩,.inl ⟨_,HE.out.symm,HJ2.out⟩⟩
theorem ziz (s:ByteArray) (i:Nat) (w:World) (hs:s.size≤1000000) (hi:i≤s.size):
 Calls prog 273 #[.string s,.int .i64 i,.func (.func 274) #[] #[]] w fun u w'=>u=.returned (.int .i64 (lenB digB s.data.toList i))∧Below w.heap.size w w':=by
 refine (callsIn_wide (n:=7)).1 ?_
 refine callsIn_of_wp_marks func273 rfl trivial ?_ rfl
 simp only [ntmps273,List.size_toArray,List.length_cons,List.length_nil,Nat.reduceAdd,Nat.reduceSub,Array.replicate_succ,Array.replicate_zero,List.push_toArray,List.append_toArray,List.nil_append,List.cons_append]
 gi_wp2
 refine ⟨trivial,?_⟩
 refine (callsIn_wide.2 (zlh s i _ _ rfl)).mono ?_
 rintro e w' ⟨rfl,rfl⟩
 gi_wp2
 have k0:Blk ((((w.alloc (.cells #[.int .i64 0] 3)).alloc (.cells #[.string s] 9)).alloc (.cells #[.int .i64 i] 3)).alloc (.cells #[.func (.func 274) #[] #[]] 219)) w.heap.size 3 #[.int .i64 0]:=(((Blk.new w _ _).alloc _).alloc _).alloc _
 have kA:Blk ((((w.alloc (.cells #[.int .i64 0] 3)).alloc (.cells #[.string s] 9)).alloc (.cells #[.int .i64 i] 3)).alloc (.cells #[.func (.func 274) #[] #[]] 219)) (w.heap.size+1) 9 #[.string s]:=by
  have:=Blk.new (w.alloc (.cells #[.int .i64 0] 3)) 9 #[.string s]
  rw [World.size_alloc] at this
  exact (this.alloc _).alloc _
 have kB:Blk ((((w.alloc (.cells #[.int .i64 0] 3)).alloc (.cells #[.string s] 9)).alloc (.cells #[.int .i64 i] 3)).alloc (.cells #[.func (.func 274) #[] #[]] 219)) (w.heap.size+1+1) 3 #[.int .i64 i]:=by
  have:=Blk.new ((w.alloc (.cells #[.int .i64 0] 3)).alloc (.cells #[.string s] 9)) 3 #[.int .i64 i]
  simp only [World.size_alloc] at this
  exact this.alloc _
 have kC:Blk ((((w.alloc (.cells #[.int .i64 0] 3)).alloc (.cells #[.string s] 9)).alloc (.cells #[.int .i64 i] 3)).alloc (.cells #[.func (.func 274) #[] #[]] 219)) (w.heap.size+1+1+1) 219 #[.func (.func 274) #[] #[]]:=by
  have:=Blk.new (((w.alloc (.cells #[.int .i64 0] 3)).alloc (.cells #[.string s] 9)).alloc (.cells #[.int .i64 i] 3)) 219 #[.func (.func 274) #[] #[]]
  simp only [World.size_alloc] at this
  exact this
 have hB0:Below w.heap.size w ((((w.alloc (.cells #[.int .i64 0] 3)).alloc (.cells #[.string s] 9)).alloc (.cells #[.int .i64 i] 3)).alloc (.cells #[.func (.func 274) #[] #[]] 219)):=(((((Below.refl _ w).alloc (Nat.le_refl _) _).alloc (by simp) _).alloc (by simp;omega) _).alloc (by simp;omega) _)
 refine wpIn_rangeFunc_ownF rfl (by omega) (gf:=320) (lb:=#[.pointer (some ⟨w.heap.size+1+1,0,none⟩),.pointer (some ⟨w.heap.size+1,0,none⟩),.pointer (some ⟨w.heap.size+1+1+1,0,none⟩)]) rfl trivial (enters_of func320 (by kernel_rfl) rfl)
  (zvy s i (w.heap.size+1) _ hs hi kA kB kC) Keep3.trans (Keep3.putObj (by simp)) (Below.refl _ _) (fun _=>rfl)
  (fun (pre:List UInt8) W=>Blk W w.heap.size 3 #[.int .i64 (pre.length:Int)]∧Below w.heap.size w W)
  (fun _ _ _=>False)
  (OwnFrom.and (@Own.from (List UInt8) (fun pre W=>Blk W w.heap.size 3 #[.int .i64 (pre.length:Int)]) (fun st A B row h hg hr=>Blk.own h hg hr) _) (ownFrom_below (Nat.le_refl _) (by simp;omega)))
  (fun _ _ _ _ _ h _ _=>h)
  ⟨k0,hB0⟩
  (fun (c:UInt8)=>{ tmps:=#[.string s,.int .i64 i,.func (.func 274) #[] #[],undef,undef,undef,.int .i64 0,.pointer (some ⟨w.heap.size,0,none⟩),.string s,.int .i64 i,.func (.func 274) #[] #[],.func (.func 320) #[] #[.pointer (some ⟨w.heap.size+1+1,0,none⟩),.pointer (some ⟨w.heap.size+1,0,none⟩),.pointer (some ⟨w.heap.size+1+1+1,0,none⟩)],.int .u8 c.toNat,undef,undef,undef],defers:=[] }) ?assign ?body ?done ?stop
 case assign=>
  intro l x W K hK
  gi_wp2
  have e:∀(A:Array Value),Array.foldl (fun t (x:Tmp × Value)=>t.setIfInBounds x.1 x.2) A ((#[12]:Array Tmp).zip #[.int .u8 x.toNat])=A.setIfInBounds 12 (.int .u8 x.toNat):=fun A=>by simp [Array.zip,Array.zipWith,Array.zipWithMAux]
  first | (rw [e];exact hK) | exact hK
 case body=>
  rintro l pre x W ⟨hb,hB⟩ hlen
  have hc:W.cell? ⟨w.heap.size,0,none⟩=some (.int .i64 (pre.length:Int)):=hb.cell 0
  have hf:=hb.frozen
  have hpl:(pre.length:Int)≤1000001:=by omega
  have HB:=Hd hb
  have HBW:=Hd hB
  clear hb hB
  gi_wp2
  exact ⟨KeepsOthers.setCell _ _ _,fun k h1 _=>Below.heap_setCell _ _ _ _ (by simp;omega),(HB.out.set_ 0 (.int .i64 ((pre.length:Int)+1))).eqv' (by simp),HBW.out.setCell (by simp) _⟩
 case done=>
  rintro D ys W hD rfl ⟨hb,hB⟩ hK
  have hc:W.cell? ⟨w.heap.size,0,none⟩=some (.int .i64 (((s.data.toList.drop i).takeWhile digB).length:Int)):=hb.cell 0
  have HBW:=Hd hB
  clear hb hB
  gi_wp2
  refine ⟨by simp,.inl ⟨_,_,rfl,run_takeDeferred hK,?_⟩⟩
  exact ⟨_,results_tmp rfl _ _ _,rfl,HBW.out.trans (belowK_b (w:=w) (Nat.le_refl _) W D _ _ (by simp at hD;omega) hK rfl rfl)⟩
 case stop=>
  rintro D c pre W _ _ h _
  exact h.elim
theorem zvz (s:ByteArray) (i B:Nat) (w:World) (hs:s.size≤1000000) (hi:i≤s.size) (h0:Blk w B 9 #[.string s]) (h1:Blk w (B+1) 3 #[.int .i64 i]) (h2:Blk w (B+1+1) 219 #[.func (.func 303) #[] #[]]):
 SeqStopsK Fence.wide 6 prog 320 #[.pointer (some ⟨B+1,0,none⟩),.pointer (some ⟨B,0,none⟩),.pointer (some ⟨B+1+1,0,none⟩)] (fun c:UInt8=>#[.int .u8 c.toNat]) (Keep3 B) (fun xs=>xs=(s.data.toList.drop i).takeWhile alnB) (fun _=>True) (s.size+1) w:=by
 intro l J Jx W hW hJ hJx hY hJ0
 have b0:=h0.below_ hW
 have b1:=h1.below_ hW
 have b2:=h2.below_ hW
 have hlt:B+3≤W.heap.size:=by have:=b2.lt;omega
 have B0:=Hd b0
 have B2:=Hd b2
 have c1:W.cell? ⟨B+1,0,none⟩=some (.int .i64 i):=b1.cell 0
 clear b0 b1 b2 h0 h1 h2
 refine callsIn_of_wp func320 rfl trivial ?_ rfl
 simp only [ntmps320,List.size_toArray,List.length_cons,List.length_nil,Nat.reduceAdd,Nat.reduceSub,Array.replicate_succ,Array.replicate_zero,List.push_toArray,List.append_toArray,List.nil_append,List.cons_append]
 gi_wp2
 clear c1
 gi_loopw [5] (fun v wr=>∃j:Nat,i≤j∧j≤s.size∧v=.int .i64 j∧J ((s.data.toList.drop i).take (j-i)) wr∧((s.data.toList.drop i).take (j-i)).all alnB=true∧Blk wr B 9 #[.string s]∧Blk wr (B+1+1) 219 #[.func (.func 303) #[] #[]]) (fun v _=>s.size-(intOf v).toNat)
 case atStart=>exact ⟨i,Nat.le_refl _,hi,rfl,by simpa using hJ0,by simp,B0.out,B2.out⟩
 obtain ⟨j,hij,hk,rfl,hjk,hall,b0,b2⟩:=hrel
 have HJK:=Hd hjk
 have HALL:=Hd hall
 have B0':=Hd b0
 have B2':=Hd b2
 clear hjk hall b0 b2
 have k0:wr.cell? ⟨B,0,none⟩=some (.string s):=B0'.out.cell 0
 have k2:wr.cell? ⟨B+1+1,0,none⟩=some (.func (.func 303) #[] #[]):=B2'.out.cell 0
 have hi0:(0:Int)≤(j:Int):=Int.natCast_nonneg _
 by_cases hlt:j<s.size
 rotate_left
 ·have hi1:¬(j:Int)<(s.size:Int):=by omega
  have hi2:decide ((j:Int)<(s.size:Int))=false:=by simpa using hi1
  gi_wp2
  refine wpIn_wide.2 ?_
  go_quiet (fail)
  have HJ2:=Hd (hJ _ _ (wr.drewN nq) none HJK.out (zei wr nq) (fun r e=>by cases e))
  have HE:=Hd (show (s.data.toList.drop i).takeWhile alnB=(s.data.toList.drop i).take (j-i) from zg7 _ _ (by simp;omega) HALL.out (fun c hc=>by rw [List.getElem?_eq_none (by simp;omega)] at hc;cases hc))
  gi_wp2
  go_end0
  exact ⟨⟨_,rfl⟩,.inl ⟨_,HE.out.symm,HJ2.out⟩⟩
 have hi1:(j:Int)<(s.size:Int):=by omega
 have hi2:decide ((j:Int)<(s.size:Int))=true:=by simpa using hi1
 gi_wp2
 refine wpIn_wide.2 ?_
 go_quiet ((go_at_call 303;exact Calls.quiet_of_same ((zps s[j] _).mono fun e w' h=>⟨h.1,h.2.symm⟩)))
 have hj2:=hJ _ _ (wr.drewN nq) none HJK.out (zei wr nq) (fun r e=>by cases e)
 have HG:=Hd (zsu s i j hij hlt)
 by_cases hp:alnB s[j]=true
 ·obtain ⟨fn,tmps,assign,body,hy,hR⟩:=hY _ s[j] _ hj2 (by simp;omega)
  have HT:=Hd (zqr s i j hij hlt)
  have HA2:=Hd (show ((s.data.toList.drop i).take (j+1-i)).all alnB=true by rw [HT.out,List.all_append,HALL.out];simp [hp])
  have k0':(wr.drewN nq).cell? ⟨B,0,none⟩=some (.string s):=k0
  have HJ2:=Hd hj2
  clear hj2
  rw [hp]
  gi_wp2
  refine hR.mono ?_
  rintro e W3 (⟨rfl,hJ3,hk3⟩ | ⟨rfl,hJx3⟩)
  ·have HJ3:=Hd hJ3
   have HB0:=Hd (Blk.keep3 (W:=wr.drewN nq) B0'.out hk3 (Nat.le_refl _) (by omega))
   have HB2:=Hd (Blk.keep3 (W:=wr.drewN nq) B2'.out hk3 (by omega) (by omega))
   clear hJ3 hk3
   gi_wp2
   exact ⟨⟨j+1,by omega,by omega,by go_num,by rw [HT.out];exact HJ3.out,HA2.out,HB0.out,HB2.out⟩,by simp [intOf];omega⟩
  gi_wp2
  first | go_end0 | refine bodyPost_ret (results_none rfl _ _ _) rfl ?_
  exact ⟨⟨_,rfl⟩,.inr ⟨_,trivial,hJx3⟩⟩
 have hp':alnB s[j]=false:=by simpa using hp
 have HE:=Hd (show (s.data.toList.drop i).takeWhile alnB=(s.data.toList.drop i).take (j-i) from zg7 _ _ (by simp;omega) HALL.out (fun c hc=>by rw [HG.out] at hc;cases hc;exact hp'))
 have HJ2:=Hd hj2
 clear hj2
 rw [hp']
 gi_wp2
 go_end0
 exact ⟨⟨_,rfl⟩,.inl ⟨_,HE.out.symm,HJ2.out⟩⟩
theorem zpv (s:ByteArray) (i:Nat) (w:World) (hs:s.size≤1000000) (hi:i≤s.size):
 Calls prog 273 #[.string s,.int .i64 i,.func (.func 303) #[] #[]] w fun u w'=>u=.returned (.int .i64 (lenB alnB s.data.toList i))∧Below w.heap.size w w':=by
 refine (callsIn_wide (n:=7)).1 ?_
 refine callsIn_of_wp_marks func273 rfl trivial ?_ rfl
 simp only [ntmps273,List.size_toArray,List.length_cons,List.length_nil,Nat.reduceAdd,Nat.reduceSub,Array.replicate_succ,Array.replicate_zero,List.push_toArray,List.append_toArray,List.nil_append,List.cons_append]
 gi_wp2
 refine ⟨trivial,?_⟩
 refine (callsIn_wide.2 (zlh s i _ _ rfl)).mono ?_
 rintro e w' ⟨rfl,rfl⟩
 gi_wp2
 have k0:Blk ((((w.alloc (.cells #[.int .i64 0] 3)).alloc (.cells #[.string s] 9)).alloc (.cells #[.int .i64 i] 3)).alloc (.cells #[.func (.func 303) #[] #[]] 219)) w.heap.size 3 #[.int .i64 0]:=(((Blk.new w _ _).alloc _).alloc _).alloc _
 have kA:Blk ((((w.alloc (.cells #[.int .i64 0] 3)).alloc (.cells #[.string s] 9)).alloc (.cells #[.int .i64 i] 3)).alloc (.cells #[.func (.func 303) #[] #[]] 219)) (w.heap.size+1) 9 #[.string s]:=by
  have:=Blk.new (w.alloc (.cells #[.int .i64 0] 3)) 9 #[.string s]
  rw [World.size_alloc] at this
  exact (this.alloc _).alloc _
 have kB:Blk ((((w.alloc (.cells #[.int .i64 0] 3)).alloc (.cells #[.string s] 9)).alloc (.cells #[.int .i64 i] 3)).alloc (.cells #[.func (.func 303) #[] #[]] 219)) (w.heap.size+1+1) 3 #[.int .i64 i]:=by
  have:=Blk.new ((w.alloc (.cells #[.int .i64 0] 3)).alloc (.cells #[.string s] 9)) 3 #[.int .i64 i]
  simp only [World.size_alloc] at this
  exact this.alloc _
 have kC:Blk ((((w.alloc (.cells #[.int .i64 0] 3)).alloc (.cells #[.string s] 9)).alloc (.cells #[.int .i64 i] 3)).alloc (.cells #[.func (.func 303) #[] #[]] 219)) (w.heap.size+1+1+1) 219 #[.func (.func 303) #[] #[]]:=by
  have:=Blk.new (((w.alloc (.cells #[.int .i64 0] 3)).alloc (.cells #[.string s] 9)).alloc (.cells #[.int .i64 i] 3)) 219 #[.func (.func 303) #[] #[]]
  simp only [World.size_alloc] at this
  exact this
 have hB0:Below w.heap.size w ((((w.alloc (.cells #[.int .i64 0] 3)).alloc (.cells #[.string s] 9)).alloc (.cells #[.int .i64 i] 3)).alloc (.cells #[.func (.func 303) #[] #[]] 219)):=(((((Below.refl _ w).alloc (Nat.le_refl _) _).alloc (by simp) _).alloc (by simp;omega) _).alloc (by simp;omega) _)
 refine wpIn_rangeFunc_ownF rfl (by omega) (gf:=320) (lb:=#[.pointer (some ⟨w.heap.size+1+1,0,none⟩),.pointer (some ⟨w.heap.size+1,0,none⟩),.pointer (some ⟨w.heap.size+1+1+1,0,none⟩)]) rfl trivial (enters_of func320 (by kernel_rfl) rfl)
  (zvz s i (w.heap.size+1) _ hs hi kA kB kC) Keep3.trans (Keep3.putObj (by simp)) (Below.refl _ _) (fun _=>rfl)
  (fun (pre:List UInt8) W=>Blk W w.heap.size 3 #[.int .i64 (pre.length:Int)]∧Below w.heap.size w W)
  (fun _ _ _=>False)
  (OwnFrom.and (@Own.from (List UInt8) (fun pre W=>Blk W w.heap.size 3 #[.int .i64 (pre.length:Int)]) (fun st A B row h hg hr=>Blk.own h hg hr) _) (ownFrom_below (Nat.le_refl _) (by simp;omega)))
  (fun _ _ _ _ _ h _ _=>h)
  ⟨k0,hB0⟩
  (fun (c:UInt8)=>{ tmps:=#[.string s,.int .i64 i,.func (.func 303) #[] #[],undef,undef,undef,.int .i64 0,.pointer (some ⟨w.heap.size,0,none⟩),.string s,.int .i64 i,.func (.func 303) #[] #[],.func (.func 320) #[] #[.pointer (some ⟨w.heap.size+1+1,0,none⟩),.pointer (some ⟨w.heap.size+1,0,none⟩),.pointer (some ⟨w.heap.size+1+1+1,0,none⟩)],.int .u8 c.toNat,undef,undef,undef],defers:=[] }) ?assign ?body ?done ?stop
 case assign=>
  intro l x W K hK
  gi_wp2
  have e:∀(A:Array Value),Array.foldl (fun t (x:Tmp × Value)=>t.setIfInBounds x.1 x.2) A ((#[12]:Array Tmp).zip #[.int .u8 x.toNat])=A.setIfInBounds 12 (.int .u8 x.toNat):=fun A=>by simp [Array.zip,Array.zipWith,Array.zipWithMAux]
  first | (rw [e];exact hK) | exact hK
 case body=>
  rintro l pre x W ⟨hb,hB⟩ hlen
  have hc:W.cell? ⟨w.heap.size,0,none⟩=some (.int .i64 (pre.length:Int)):=hb.cell 0
  have hf:=hb.frozen
  have hpl:(pre.length:Int)≤1000001:=by omega
  have HB:=Hd hb
  have HBW:=Hd hB
  clear hb hB
  gi_wp2
  exact ⟨KeepsOthers.setCell _ _ _,fun k h1 _=>Below.heap_setCell _ _ _ _ (by simp;omega),(HB.out.set_ 0 (.int .i64 ((pre.length:Int)+1))).eqv' (by simp),HBW.out.setCell (by simp) _⟩
 case done=>
  rintro D ys W hD rfl ⟨hb,hB⟩ hK
  have hc:W.cell? ⟨w.heap.size,0,none⟩=some (.int .i64 (((s.data.toList.drop i).takeWhile alnB).length:Int)):=hb.cell 0
  have HBW:=Hd hB
  clear hb hB
  gi_wp2
  refine ⟨by simp,.inl ⟨_,_,rfl,run_takeDeferred hK,?_⟩⟩
  exact ⟨_,results_tmp rfl _ _ _,rfl,HBW.out.trans (belowK_b (w:=w) (Nat.le_refl _) W D _ _ (by simp at hD;omega) hK rfl rfl)⟩
 case stop=>
  rintro D c pre W _ _ h _
  exact h.elim
def zdv (s:zaa) (i:Nat) (x:zaa):Bool:=decide (i+x.length≤s.length)&&decide (((s.drop i).take x.length).map upU=x)
def zkq (s:zaa) (i:Nat):Tok × Nat:=
 if digB (s.getD i 0) then zgn s i else if ub s i=34 then zeq s i else if letB (s.getD i 0) then zbj s i else if 0<(zc6 s i).2 then zc6 s i else zc3 s i
theorem zgd (s:zaa) (i:Nat) (h:i<s.length):s.drop i=s.getD i 0::s.drop (i+1):=by
 rw [List.drop_eq_getElem_cons h]
 congr 1
 rw [List.getD_eq_getElem?_getD,List.getElem?_eq_getElem h]
 rfl
theorem zn8 (s:zaa) (i:Nat) (c:UInt8) (t:zaa) (h:s.drop i=c::t) (hc:upU c≠35):∀(l:List zaa) (code:Int),(∀x∈l,x.head?=some 35)→zdd s i code l=(tok0,0)
 | [],_,_=>rfl
 | x::l,code,hl=>by
  unfold zdd
  have hx:=hl x (by simp)
  have hn:¬(i+x.length≤s.length∧((s.drop i).take x.length).map upU=x):=by
   rintro ⟨_,q⟩
   cases x with
   | nil=>cases hx
   | cons a x=>
    simp only [List.head?_cons,Option.some.injEq] at hx
    rw [h,List.length_cons,List.take_succ_cons,List.map_cons] at q
    injection q with q _
    exact hc (q.trans hx)
  rw [if_neg hn]
  exact zn8 s i c t h hc l _ (fun y hy=>hl y (by simp [hy]))
theorem zgz (s:zaa) (i:Nat) (c:UInt8) (t:zaa) (h:s.drop i=c::t) (hc:upU c≠35):zc6 s i=(tok0,0):=zn8 s i c t h hc zfw 1 (by decide)
def zf9:List UInt8:=[60,62,43,45,42,47,94,38,61,37]
theorem zme (s:zaa) (i:Nat) (c:UInt8) (t:zaa) (h:s.drop i=c::t) (hc:c ∉ zf9):∀(l:List (zaa × Int)),(∀x∈l,∃a y,x.1=a::y∧a∈zf9)→opsL s i l=none
 | [],_=>rfl
 | (x,n)::l,hl=>by
  obtain ⟨a,y,e,ha⟩:=hl (x,n) (by simp)
  simp only at e
  unfold opsL
  have hn:x.isPrefixOf (s.drop i)=false:=by
   rw [h,e,List.isPrefixOf_cons_cons]
   have:(a==c)=false:=by
    rw [beq_eq_false_iff_ne]
    rintro rfl
    exact hc ha
   rw [this]
   rfl
  rw [hn]
  exact zme s i c t h hc l (fun z hz=>hl z (by simp [hz]))
theorem zit:∀x∈opsW,∃a y,x.1=a::y∧a∈zf9:=by
 intro x hx
 simp only [opsW,List.mem_cons,List.not_mem_nil,or_false] at hx
 rcases hx with rfl | rfl | rfl | rfl | rfl | rfl | rfl | rfl | rfl | rfl | rfl | rfl | rfl <;> exact ⟨_,_,rfl,by decide⟩
theorem zjg (s:zaa) (i:Nat) (c:UInt8) (t:zaa) (h:s.drop i=c::t) (hc:c ∉ zf9) (h40:c.toNat≠40) (h41:c.toNat≠41) (h44:c.toNat≠44):zc3 s i=(tok0,0):=by
 have hu:=(ztt s i c t h).2.1
 unfold zc3
 rw [zme s i c t h hc opsW zit]
 simp only
 rw [hu,if_neg h40,if_neg h41,if_neg h44]
theorem zhn {c:UInt8} (h:c∈zf9):c.toNat=60∨c.toNat=62∨c.toNat=43∨c.toNat=45∨c.toNat=42∨c.toNat=47∨c.toNat=94∨c.toNat=38∨c.toNat=61∨c.toNat=37:=by
 simp only [zf9,List.mem_cons,List.not_mem_nil,or_false] at h
 rcases h with rfl | rfl | rfl | rfl | rfl | rfl | rfl | rfl | rfl | rfl <;> simp
theorem ztr {c:UInt8} (h:c.toNat≠35):upU c≠35:=by
 unfold upU
 split
 ·intro q
  have:=congrArg UInt8.toNat q
  simp at this
  omega
 intro q
 exact h (by rw [q];rfl)
theorem zje (s:zaa) (i:Nat) (h:ub s i≠34):zc1 s i=(tok0,0):=by unfold zc1;rw [if_pos h]
theorem zgq (s:zaa) (i:Nat) (h:letB (s.getD i 0)=false):zbj s i=(tok0,0):=by unfold zbj;rw [if_pos h]
theorem ziu (s:zaa) (i:Nat) (h:digB (s.getD i 0)=false):zao s i=(tok0,0):=by
 unfold zao
 rw [if_pos]
 rw [zdb]
 cases hq:s.drop i with
 | nil=>rfl
 | cons c t=>
  rw [zhw,hq] at h
  simp only [List.head?_cons,Option.getD_some] at h
  simp [lenB,h]
theorem zol (s:zaa) (i:Nat) (h:(zbj s i).2=0) (hl:letB (s.getD i 0)=true):zbj s i=(tok0,0):=by
 have hp:0<(zaf s i).length:=by
  unfold zaf
  rw [List.length_map,ze5,zdb]
  rw [zhw] at hl
  cases hq:s.drop i with
  | nil=>rw [hq] at hl;simp [letB] at hl
  | cons c t=>
   rw [hq] at hl
   simp only [List.head?_cons,Option.getD_some] at hl
   simp [lenB,alnB,hl]
 unfold zbj at *
 rw [hl] at h ⊢
 rw [if_neg (by decide)] at h ⊢
 repeat' split at h
 all_goals first | (simp only at h;omega) | skip
 rename_i h1 h2 h3 h4
 rw [if_neg h1,if_neg h2,if_neg h3,if_pos h4]
theorem zt8 (s:zaa) (i:Nat) (hl:s.length≤256) (hp:pltB s=true) (hi:i<s.length):zck s i=zkq s i:=by
 have hd:=zgd s i hi
 have hu:=(ztt s i _ _ hd).2.1
 unfold zck zkq
 generalize hc:s.getD i 0=c at *
 by_cases h1:digB c=true
 ·rw [if_pos h1]
  have h1':=(zc7 c).1 h1
  have hlen:0<lenB digB s i:=by
   rw [zdb,hd]
   simp [lenB,h1]
  rw [zyn s i hlen]
  by_cases h0:0<(zgn s i).2
  ·rw [if_pos h0]
  rw [if_neg h0,zje s i (by omega),zgq s i (by rw [hc,Bool.eq_false_iff,Ne,zeh];omega),zgz s i c _ hd (ztr (by omega)),if_neg (by simp),if_neg (by simp),if_neg (by simp)]
  rw [zjg s i c _ hd (fun q=>by have:=zhn q;omega) (by omega) (by omega) (by omega)]
  unfold zgn at h0 ⊢
  split
  ·rfl
  rename_i h4
  rw [if_neg h4] at h0
  split
  ·rfl
  rename_i n hn
  rw [hn] at h0
  simp only [zbe] at h0
  split at h0 <;> omega
 have h1':digB c=false:=by simpa using h1
 rw [ziu s i (by rw [hc];exact h1'),if_neg (by simp),if_neg h1]
 by_cases h2:ub s i=34
 ·rw [if_pos h2,zty s i hl hp h2]
  by_cases h0:0<(zeq s i).2
  ·rw [if_pos h0]
  have hcn:c.toNat=34:=by rw [← hu];exact h2
  rw [if_neg h0,zgq s i (by rw [hc,Bool.eq_false_iff,Ne,zeh];omega),zgz s i c _ hd (ztr (by omega)),if_neg (by simp),if_neg (by simp)]
  rw [zjg s i c _ hd (fun q=>by have:=zhn q;omega) (by omega) (by omega) (by omega)]
  unfold zeq at h0 ⊢
  split
  ·rfl
  rename_i r hr
  rw [hr] at h0
  simp only at h0
  omega
 rw [if_neg h2,zje s i h2,if_neg (by simp)]
 by_cases h3:letB c=true
 ·rw [if_pos h3]
  have h3':=(zeh c).1 h3
  by_cases h0:0<(zbj s i).2
  ·rw [if_pos h0]
  rw [if_neg h0,zgz s i c _ hd (ztr (by omega)),if_neg (by simp)]
  rw [zjg s i c _ hd (fun q=>by have:=zhn q;omega) (by omega) (by omega) (by omega)]
  rw [zol s i (by omega) (by rw [hc];exact h3)]
 rw [if_neg h3,zgq s i (by rw [hc];simpa using h3),if_neg (by simp)]
theorem ztc (s:zaa) (i:Nat) (x:zaa) (hi:i≤s.length) (hx:∀c∈x,¬(65≤c.toNat∧c.toNat≤90)∧¬(97≤c.toNat∧c.toNat≤122)):zdv s i x=x.isPrefixOf (s.drop i):=by
 have hup:∀(c a:UInt8),(¬(65≤a.toNat∧a.toNat≤90)∧¬(97≤a.toNat∧a.toNat≤122))→(upU c=a↔c=a):=by
  intro c a ha
  unfold upU
  split
  ·constructor
   ·intro q
    have:=congrArg UInt8.toNat q
    simp at this
    omega
   rintro rfl
   omega
  exact Iff.rfl
 have hmap:∀(l x:zaa),(∀c∈x,¬(65≤c.toNat∧c.toNat≤90)∧¬(97≤c.toNat∧c.toNat≤122))→(l.map upU=x↔l=x):=by
  intro l
  induction l with
  | nil=>intro x _;exact Iff.rfl
  | cons c l ih=>
   intro x hx
   cases x with
   | nil=>simp
   | cons a x=>
    simp only [List.map_cons,List.cons.injEq]
    rw [hup c a (hx a (by simp)),ih x (fun d hd=>hx d (by simp [hd]))]
 unfold zdv
 rw [Bool.eq_iff_iff,Bool.and_eq_true,decide_eq_true_eq,decide_eq_true_eq,hmap _ x hx,List.isPrefixOf_iff_prefix,List.prefix_iff_eq_take]
 constructor
 ·rintro ⟨_,q⟩
  exact q.symm
 intro q
 refine ⟨?_,q.symm⟩
 have:=congrArg List.length q
 rw [List.length_take,List.length_drop] at this
 omega
def zfi:List Tok→Bool
 | []=>true
 | [t]=>decide (t.kind≠7)
 | t::u::l=>(decide (t.kind≠7)||decide (u.kind=9))&&zfi (u::l)
theorem zpq (t:Tok) (l:List Tok) (h:t.kind≠7∨∃u,l.head?=some u∧u.kind=9) (hl:zfi l=true):zfi (t::l)=true:=by
 cases l with
 | nil=>
  rcases h with h | ⟨u,h,_⟩
  ·simp [zfi,h]
  cases h
 | cons u l=>
  rcases h with h | ⟨v,h,k⟩
  ·simp [zfi,h,hl]
  simp only [List.head?_cons,Option.some.injEq] at h
  simp [zfi,h,k]
  rw [← h]
  exact hl
theorem ziw {t:Tok} {l:List Tok} (h:zfi (t::l)=true):zfi l=true∧(t.kind=7→∃u,l.head?=some u∧u.kind=9):=by
 cases l with
 | nil=>
  refine ⟨rfl,fun k=>?_⟩
  simp [zfi,k] at h
 | cons u l=>
  simp only [zfi,Bool.and_eq_true,Bool.or_eq_true,decide_eq_true_eq] at h
  exact ⟨h.2,fun k=>⟨u,rfl,h.1.resolve_left (fun q=>q k)⟩⟩
theorem zi2 (s:zaa) (i:Nat):∀(l:List zaa) (code:Int),(zdd s i code l).1.kind≠7
 | [],_=>by simp [zdd,tok0]
 | x::l,code=>by
  unfold zdd
  split
  ·simp
  exact zi2 s i l _
theorem zlb (s:zaa) (i:Nat):∀(l:List (zaa × Int)) (r:Tok × Nat),opsL s i l=some r→r.1.kind=8
 | [],r,h=>by cases h
 | (x,n)::l,r,h=>by
  unfold opsL at h
  split at h
  ·simp only [Option.some.injEq] at h
   rw [← h]
  exact zlb s i l r h
theorem zos (s:zaa) (i:Nat):(zc3 s i).1.kind≠7:=by
 unfold zc3
 split
 ·rename_i r hr
  rw [zlb s i _ r hr]
  decide
 repeat' split
 all_goals simp [tok0]
theorem zld (s:zaa) (i:Nat):(zao s i).1.kind≠7:=by
 unfold zao
 repeat' split
 all_goals simp [tok0]
theorem zor (s:zaa) (i:Nat):(zc1 s i).1.kind≠7:=by
 unfold zc1
 split
 ·simp [tok0]
 split
 ·simp [tok0]
 split
 all_goals simp [tok0]
theorem zom (s:zaa) (i:Nat) (h:(zbj s i).1.kind=7):ub s (i+(zbj s i).2)=40:=by
 unfold zbj at *
 split at h
 ·simp [tok0] at h
 rename_i h1
 rw [if_neg h1]
 split at h
 ·rename_i h2
  rw [if_pos h2]
  exact h2
 split at h
 ·simp at h
 split at h
 ·simp at h
 split at h
 ·simp [tok0] at h
 split at h
 ·simp only at h
  split at h <;> simp at h
 simp at h
theorem zot (s:zaa) (i:Nat) (h:(zck s i).1.kind=7):ub s (i+(zck s i).2)=40:=by
 unfold zck at *
 split at h
 ·exact absurd h (zld s i)
 rename_i h1
 rw [if_neg h1]
 split at h
 ·exact absurd h (zor s i)
 rename_i h2
 rw [if_neg h2]
 split at h
 ·rename_i h3
  rw [if_pos h3]
  exact zom s i h
 split at h
 ·exact absurd h (zi2 s i _ _)
 exact absurd h (zos s i)
theorem zqx (s:zaa) (i:Nat) (h:ub s i=40):(zck s i).1.kind=9∧(zck s i).2=1:=by
 have hi:i<s.length:=by
  rw [← Nat.not_le]
  intro q
  unfold ub at h
  rw [List.getD_eq_getElem?_getD,List.getElem?_eq_none q] at h
  simp at h
 have hd:=zgd s i hi
 have hc:(s.getD i 0).toNat=40:=h
 generalize s.getD i 0=c at *
 have ec:c=40:=UInt8.toNat_inj.1 (by simpa using hc)
 have gc:s.getD i 0=c:=by rw [zhw,hd];rfl
 unfold zck
 rw [ziu s i (by rw [gc,ec];rfl),if_neg (by simp),zje s i (by omega),if_neg (by simp),zgq s i (by rw [gc,ec];rfl),if_neg (by simp),zgz s i c _ hd (ztr (by omega)),if_neg (by simp)]
 unfold zc3
 rw [zme s i c _ hd (by rw [ec];decide) opsW zit]
 simp only
 rw [if_pos h]
 exact ⟨rfl,rfl⟩
theorem ub_in (s:zaa) (i:Nat) (h:ub s i≠0):i<s.length:=by
 rw [← Nat.not_le]
 intro q
 unfold ub at h
 rw [List.getD_eq_getElem?_getD,List.getElem?_eq_none q] at h
 simp at h
theorem zf5 (s:zaa):∀(f i:Nat) (l:List Tok),zd1 s f i=some l→zfi l=true∧(ub s i=40→∃u,l.head?=some u∧u.kind=9)
 | 0,_,_,h=>by cases h
 | f+1,i,l,h=>by
  unfold zd1 at h
  split at h
  ·rename_i hi
   simp only [Option.some.injEq] at h
   rw [← h]
   exact ⟨rfl,fun q=>by have:=ub_in s i (by omega);omega⟩
  split at h
  ·rename_i h32
   exact ⟨(zf5 s f _ l h).1,fun q=>by omega⟩
  split at h
  ·cases h
  obtain ⟨m,hm,rfl⟩:=Option.map_eq_some_iff.1 h
  obtain ⟨k1,k2⟩:=zf5 s f _ m hm
  refine ⟨zpq _ _ ?_ k1,fun q=>⟨_,rfl,(zqx s i q).1⟩⟩
  by_cases h7:(zck s i).1.kind=7
  ·exact .inr (k2 (zot s i h7))
  exact .inl h7
theorem zko (s:zaa):zfi (zae s).1=true:=by
 unfold zae
 split
 ·rfl
 split
 ·rfl
 split
 ·rfl
 rename_i l hl
 exact (zf5 s _ _ l hl).1
end Go.Proofs.YtamcgggmfghljaaGreatDoor
