/- walk -/
import Derived.Test.YtamcgggmfghljaaGreatDoorE4
set_option maxRecDepth 100000
set_option maxHeartbeats 8000000
open Go.Proofs.Tryz
namespace Go.Proofs.YtamcgggmfghljaaGreatDoor
open Go.RowKit
open Go.RowKit Go.Shelf
variable {B g:Nat} {t:TypeId} {A C D W W' w w':World}
theorem zhv (b j:Nat):((b,0):Addr).add j=(b,j):=by unfold Addr.add;split <;> simp_all
def Rowb (w:World) (g:Nat) (cs:Array Value):Prop:=w.heap[g]?=some (.cells cs 5 (cs.size,cs.size+1))
section
variable {w:World} {g:Nat} {cs:Array Value}
theorem Rowb.cell (h:Rowb w g cs) (i:Nat):w.cell? (g,i)=cs[i]?:=by simp[World.cell?,show w.heap[g]?=_ from h]
theorem Rowb.frozen (h:Rowb w g cs) (i:Nat) (hi:i<cs.size):w.frozen? (g,i)=false:=by
 simp[World.frozen?,show w.heap[g]?=_ from h];omega
theorem Rowb.lt (h:Rowb w g cs):g<w.heap.size:=by
 rcases Nat.lt_or_ge g w.heap.size with hlt | hge
 ·exact hlt
 unfold Rowb at h;rw[Array.getElem?_eq_none hge] at h;cases h
theorem Rowb.set_ (h:Rowb w g cs) (i:Nat) (u:Value):Rowb (w.setCell (g,i) u) g (cs.setIfInBounds i u):=by
 unfold Rowb at h ⊢;simp[World.setCell,Array.getElem?_modify,h]
theorem Rowb.drew (h:Rowb w g cs):Rowb w.drew g cs:=h
theorem Rowb.below (h:Rowb w g cs) (hb:Below B w w') (hg:g<B):Rowb w' g cs:=(hb.block g hg).trans h
end
def z37 (v:Value) (φ:UInt8->UInt8) (w0:World):Prop:=
 ∃K fs,v=.func (.func K) #[] fs/\(∀(args:Array Value) (w:World),(callFunc K args).run prog w=.ok (.enter K args) w)/\∀(c:UInt8) (w:World),Below w0 w0 w->Calls prog K (#[.int .u8 c.toNat]++fs) w λe w'=>e=.returned (.int .u8 (φ c).toNat)/\Below w w w'
def prC (c:UInt8):UInt8:=if c.toNat<32\/126<c.toNat then 0 else 32
theorem pr_1 (c:UInt8) (w:World):
 Calls prog 193 #[.int .u8 c.toNat] w λu w'=>u=.returned (.int .u8 (prC c).toNat)/\Below w w w':=by
 have hc:=c.toNat_lt;by_cases h1:c.toNat<32
 ·have H:=jM (prC c=0) (by unfold prC;rw[jb (.inl h1)]);go_enter func193,ntmps193;go_wp2;go_ret;exact ⟨by rw[H.o];rfl,by go_grown⟩
 by_cases h2:126<c.toNat
 ·have H:=jM (prC c=0) (by unfold prC;rw[jb (.inr h2)]);go_enter func193,ntmps193;go_wp2;go_ret;exact ⟨by rw[H.o];rfl,by go_grown⟩
 have H:=jM (prC c=32) (by unfold prC;rw[jS]);go_enter func193,ntmps193;go_wp2;go_ret;exact ⟨by rw[H.o];rfl,by go_grown⟩
theorem zj7 (s:zaa) (f:Value) (φ:UInt8->UInt8) (w:World) (hs:s.length<=1000000) (hf:z37 f φ w):
 Calls prog 192 #[str s,f] w λu w'=>∃(g cap:Nat) (cs:Array Value),u=.returned (.slice (some (g,0)) s.length cap)/\Rowb w' g cs/\w.heap.size<=g/\(∀(j:Nat) (c:UInt8),s[j]?=some c->cs[j]?=some (.int .u8 (φ c).toNat))/\Below w w w':=by
 obtain ⟨K,fs,rfl,hE,hK⟩:=hf;have HK:=Hd hK;clear hK;have hcv:=run_bytes_of_string (P:=prog) w 9 59 5 ⟨s.toArray⟩ rfl rfl rfl;have hsz:(⟨s.toArray⟩:ByteArray).size=s.length:=by show s.toArray.size=_;simp
 rw[hsz] at hcv;generalize hcap:grownCap w s.length 0 5=cap at hcv;have hge:s.length<=cap:=hcap▸grownCap_ge w s.length 0 5;generalize hrow:bytesRow ⟨s.toArray⟩ cap=row at hcv;have hat:∀(j:Nat) (c:UInt8),s[j]?=some c->row[j]?=some (.int .u8 c.toNat):=λj c hj=>by
  have hjl:=(jE.1 hj).1;rw[<- hrow,bytesRow_at _ cap j (by simpa using hjl)];have:s[j]=c:=by rw[jz hjl] at hj;simpa using hj
  simp[this]
 have hrs:s.length<=row.size:=by rw[<- hrow];simp[bytesRow]
 have HR:=Hd hat;clear hat hcap hrow;have H1:=jM (Rowb (w.alloc (.cells row 5 (row.size,row.size+1))).drew w.heap.size row) (heap_alloc_new w _);go_enter func192,ntmps192;go_wp2;go_loopw [12] (λi wr=>∃(k:Nat) (cs:Array Value),k<=s.length/\i=.int .i64 k/\Rowb wr w.heap.size cs/\s.length<=cs.size/\(∀(j:Nat) (c:UInt8),s[j]?=some c->cs[j]?=some (.int .u8 (if j<k then φ c else c).toNat))/\Below w w wr) (λi _=>s.length-(intOf i).toNat)
 case atStart=>exact ⟨0,row,by omega,rfl,H1.o,hrs,by simpa using HR.o,by go_grown⟩
 obtain ⟨k,cs,hk,rfl,hrb,hcs,hall,hbw⟩:=hrel;have RB:=Hd hrb;have HA:=Hd hall;have HBW:=Hd hbw;by_cases hlt:k<s.length;rotate_left
 ·go_wp2;go_ret;obtain rfl:k=s.length:=by omega
  refine ⟨_,_,cs,rfl,RB.o,Nat.le_refl _,λj c hj=>?_,HBW.o⟩;have hjl:=(jE.1 hj).1;have:=HA.o j c hj
  rwa [jb hjl] at this
 have hx:s[k]?=some s[k]:=jz hlt;have hc0:=(hrb.cell k).trans (hall k _ hx);rw[jS] at hc0;have hlw:=hrb.lt;have HX:=Hd hx;clear hrb hall hbw hx;generalize s[k]=c at *;have hi0:(0:Int)<=(k:Int):=jw _;have hi1:(k:Int)<(s.length:Int):=by omega
 go_wp2_with fail;refine (HK.o c _ HBW.o).mono ?_;rintro e w1 ⟨rfl,hb1⟩;have r1:=Rowb.below RB.o hb1 hlw;have hf1:=r1.frozen k (by omega);have hc1:=(r1.cell k).trans (HA.o k c HX.o);have R1:=Hd r1;have B1:=Hd (HBW.o.trans (hb1.mono HBW.o.size));clear r1 hb1 hc0;go_wp2;refine ⟨⟨k+1,cs.setIfInBounds k (.int .u8 (φ c).toNat),by omega,by go_num,R1.o.set_ k _,by simpa using hcs,λj d hj=>?_,B1.o.setCell jy _⟩,by simp[intOf];omega⟩;have h0:=HA.o j d hj;have hjl:=(jE.1 hj).1;by_cases hjk:j=k
 ·subst hjk;rw[Array.getElem?_setIfInBounds_self_of_lt (by omega),jT];have:=HX.o.symm.trans hj;simp at this;rw[this]
 rw[Array.getElem?_setIfInBounds_ne (by omega),h0];by_cases hjk2:j<k
 ·rw[jb hjk2,jT]
 rw[ja hjk2,jS]
attribute [local go_sem] Oper.semAt_some
def Keep3 (B:Nat) (W W':World):Prop:=∀k,B<=k->k<B+3->W'.heap[k]?=W.heap[k]?
theorem Keep3.trans (h:Keep3 B A C) (k:Keep3 B C D):Keep3 B A D:=λi h1 h2=>(k i h1 h2).trans (h i h1 h2)
theorem Keep3.putObj (hB:B+3<=w.heap.size) (W:World) (l:Nat) (o o':Obj) (hl:w.heap.size<=l) (_:W.heap[l]?=some o) (_:o.isCells=false) (_:o.isWalk=false):Keep3 B W (W.putObj l o'):=λk _ h2=>World.putObj_heap_other (by omega)
theorem Blk.keep3 {cs:Array Value} (h:Blk W g t cs) (k:Keep3 B W W') (h1:B<=g) (h2:g<B+3):Blk W' g t cs:=(k g h1 h2).trans h
theorem zfp (W:World) (n:Nat):W.grownBy (W.drewN n) none:=⟨rfl,rfl,rfl,Nat.le_refl _,λ_ _ _=>rfl⟩
theorem Blk.eqv' {cs cs':Array Value} (h:Blk w g t cs) (e:cs=cs'):Blk w g t cs':=e▸h
theorem Blk.own {cs:Array Value} {row:Option Nat} (h:Blk W g t cs) (hg:W.grownBy W' row) (hr:∀r,row=some r->∃o:Obj,W.heap[r]?=some o/\o.isCells=false):Blk W' g t cs:=
 (grownBy_keeps_cells hg hr h rfl).trans h
theorem zuh (s:ByteArray) (i j:Nat) (hi:i<=j) (h:j<s.size):(s.data.toList.drop i).take (j+1-i)=(s.data.toList.drop i).take (j-i)++ [s[j]]:=by
 have hk:j-i<(s.data.toList.drop i).length:=by simp;omega
 rw[show j+1-i=j-i+1 by omega,jC hk];simp only[List.getElem_drop,show i+(j-i)=j by omega];rfl
theorem zw8 (s:ByteArray) (i j:Nat) (hi:i<=j) (h:j<s.size):(s.data.toList.drop i)[j-i]?=some s[j]:=by
 rw[List.getElem?_drop,show i+(j-i)=j by omega];exact z1g s j h
theorem zi6 {p:UInt8->Bool}:∀(l:zaa) (k:Nat),k<=l.length->(l.take k).all p=true->(∀c,l[k]?=some c->p c=false)->l.takeWhile p=l.take k
 | l,0,_,_,h=>by
  cases l with
  | nil=>rfl
  | cons c l=>rw[List.takeWhile_cons_of_neg (by rw[h c rfl];simp)];rfl
 | [],k+1,hk,_,_=>by simp at hk
 | c::l,k+1,hk,ha,h=>by
  simp only[jr,List.all_cons,ji] at ha;rw[List.takeWhile_cons_of_pos ha.1,jr,zi6 l k (by simpa using hk) ha.2 (λc hc=>h c (by simpa using hc))]
theorem zz8 (s:ByteArray) (i B:Nat) (w:World) (hs:s.size<=1000000) (hi:i<=s.size) (h0:Blk w B 9 #[.string s]) (h1:Blk w (B+1) 3 #[.int .i64 i]) (h2:Blk w (B+1+1) 219 #[.func (.func 274) #[] #[]]):
 SeqStopsK Fence.wide 6 prog 320 #[.pointer (some ⟨B+1,0,none⟩),.pointer (some ⟨B,0,none⟩),.pointer (some ⟨B+1+1,0,none⟩)] (λc:UInt8=>#[.int .u8 c.toNat]) (Keep3 B) (λxs=>xs=(s.data.toList.drop i).takeWhile digB) (λ_=>True) (s.size+1) w:=by
 intro l J Jx W hW hJ hJx hY hJ0;have b0:=h0.below_ hW;have b1:=h1.below_ hW;have b2:=h2.below_ hW;have hlt:B+3<=W.heap.size:=by have:=b2.lt;omega
 have B0:=Hd b0;have B2:=Hd b2;have c1:=b1.cell 0;clear b0 b1 b2 h0 h1 h2;refine callsIn_of_wp func320 rfl trivial ?_ rfl;simp only[ntmps320,List.size_toArray,jk,List.length_nil,Nat.reduceAdd,Nat.reduceSub,Array.replicate_succ,Array.replicate_zero,List.push_toArray,List.append_toArray,List.nil_append,List.cons_append]
 gi_wp2
 clear c1
 gi_loopw [5] (λv wr=>∃j:Nat,i<=j/\j<=s.size/\v=.int .i64 j/\J ((s.data.toList.drop i).take (j-i)) wr/\((s.data.toList.drop i).take (j-i)).all digB=true/\Blk wr B 9 #[.string s]/\Blk wr (B+1+1) 219 #[.func (.func 274) #[] #[]]) (λv _=>s.size-(intOf v).toNat)
 case atStart=>exact ⟨i,Nat.le_refl _,hi,rfl,by simpa using hJ0,by simp,B0.o,B2.o⟩
 obtain ⟨j,hij,hk,rfl,hjk,hall,b0,b2⟩:=hrel;have HJK:=Hd hjk;have HALL:=Hd hall;have B0':=Hd b0;have B2':=Hd b2;clear hjk hall b0 b2;have k0:wr.cell? (B,0)=some (.string s):=B0'.o.cell 0;have k2:wr.cell? (B+1+1,0)=some (.func (.func 274) #[] #[]):=B2'.o.cell 0;have hi0:(0:Int)<=(j:Int):=jw _;by_cases hlt:j<s.size;rotate_left
 ·have hi1:¬(j:Int)<(s.size:Int):=by omega
  have hi2:decide ((j:Int)<(s.size:Int))=false:=by simpa using hi1
  gi_wp2
  refine wpIn_wide.2 ?_;go_quiet (fail);have HJ2:=Hd (hJ _ _ (wr.drewN nq) none HJK.o (zfp wr nq) (λr e=>by cases e));have HE:=jM ((s.data.toList.drop i).takeWhile digB=(s.data.toList.drop i).take (j-i)) (zi6 _ _ (by simp;omega) HALL.o (λc hc=>by rw[List.getElem?_eq_none (by simp;omega)] at hc;cases hc))
  gi_wp2
  go_end0;exact ⟨⟨_,rfl⟩,.inl ⟨_,HE.o.symm,HJ2.o⟩⟩
 have hi1:(j:Int)<(s.size:Int):=by omega
 have hi2:decide ((j:Int)<(s.size:Int))=true:=by simpa using hi1
 gi_wp2
 refine wpIn_wide.2 ?_;go_quiet ((go_at_call 274;exact Calls.quiet_of_same ((zjv s[j] _).mono λe w' h=>⟨h.1,h.2.symm⟩)));have hj2:=hJ _ _ (wr.drewN nq) none HJK.o (zfp wr nq) (λr e=>by cases e);have HG:=Hd (zw8 s i j hij hlt);by_cases hp:digB s[j]=true
 ·obtain ⟨fn,tmps,assign,body,hy,hR⟩:=hY _ s[j] _ hj2 (by simp;omega);have HT:=Hd (zuh s i j hij hlt);have HA2:=jM (((s.data.toList.drop i).take (j+1-i)).all digB=true) (by rw[HT.o,List.all_append,HALL.o];simp[hp]);have k0':(wr.drewN nq).cell? (B,0)=some (.string s):=k0;have HJ2:=Hd hj2;clear hj2;rw[hp]
  gi_wp2
  refine hR.mono ?_;rintro e W3 (⟨rfl,hJ3,hk3⟩ | ⟨rfl,hJx3⟩)
  ·have HJ3:=Hd hJ3;have HB0:=Hd (Blk.keep3 (W:=wr.drewN nq) B0'.o hk3 jy (by omega));have HB2:=Hd (Blk.keep3 (W:=wr.drewN nq) B2'.o hk3 (by omega) (by omega));clear hJ3 hk3
   gi_wp2
   exact ⟨⟨j+1,by omega,by omega,by go_num,by rw[HT.o];exact HJ3.o,HA2.o,HB0.o,HB2.o⟩,by simp[intOf];omega⟩
  gi_wp2
  first | go_end0 | refine jD (results_none rfl _ _ _) rfl ?_
  exact ⟨⟨_,rfl⟩,.inr ⟨_,trivial,hJx3⟩⟩
 have hp':digB s[j]=false:=by simpa using hp
 have HE:=jM ((s.data.toList.drop i).takeWhile digB=(s.data.toList.drop i).take (j-i)) (zi6 _ _ (by simp;omega) HALL.o (λc hc=>by rw[HG.o] at hc;cases hc;exact hp'));have HJ2:=Hd hj2;clear hj2;rw[hp']
 gi_wp2
 go_end0;exact ⟨⟨_,rfl⟩,.inl ⟨_,HE.o.symm,HJ2.o⟩⟩
theorem zk7 (s:ByteArray) (i:Nat) (w:World) (hs:s.size<=1000000) (hi:i<=s.size):
 Calls prog 273 #[.string s,.int .i64 i,.func (.func 274) #[] #[]] w λu w'=>u=.returned (.int .i64 (lenB digB s.data.toList i))/\Below w w w':=by
 refine (callsIn_wide (n:=7)).1 ?_;refine callsIn_of_wp_marks func273 rfl trivial ?_ rfl;simp only[ntmps273,List.size_toArray,jk,List.length_nil,Nat.reduceAdd,Nat.reduceSub,Array.replicate_succ,Array.replicate_zero,List.push_toArray,List.append_toArray,List.nil_append,List.cons_append]
 gi_wp2
 refine ⟨trivial,?_⟩;refine (callsIn_wide.2 (zob s i _ _ rfl)).mono ?_;rintro e w' ⟨rfl,rfl⟩
 gi_wp2
 have k0:Blk ((((w.alloc (.cells #[.int .i64 0] 3)).alloc (.cells #[.string s] 9)).alloc (.cells #[.int .i64 i] 3)).alloc (.cells #[.func (.func 274) #[] #[]] 219)) w.heap.size 3 #[.int .i64 0]:=(((je w _ _).alloc _).alloc _).alloc _;have kA:Blk ((((w.alloc (.cells #[.int .i64 0] 3)).alloc (.cells #[.string s] 9)).alloc (.cells #[.int .i64 i] 3)).alloc (.cells #[.func (.func 274) #[] #[]] 219)) (w.heap.size+1) 9 #[.string s]:=by have:=je (w.alloc (.cells #[.int .i64 0] 3)) 9 #[.string s];rw[World.size_alloc] at this;exact (this.alloc _).alloc _
 have kB:Blk ((((w.alloc (.cells #[.int .i64 0] 3)).alloc (.cells #[.string s] 9)).alloc (.cells #[.int .i64 i] 3)).alloc (.cells #[.func (.func 274) #[] #[]] 219)) (w.heap.size+1+1) 3 #[.int .i64 i]:=by have:=je ((w.alloc (.cells #[.int .i64 0] 3)).alloc (.cells #[.string s] 9)) 3 #[.int .i64 i];simp only[World.size_alloc] at this;exact this.alloc _
 have kC:Blk ((((w.alloc (.cells #[.int .i64 0] 3)).alloc (.cells #[.string s] 9)).alloc (.cells #[.int .i64 i] 3)).alloc (.cells #[.func (.func 274) #[] #[]] 219)) (w.heap.size+1+1+1) 219 #[.func (.func 274) #[] #[]]:=by have:=je (((w.alloc (.cells #[.int .i64 0] 3)).alloc (.cells #[.string s] 9)).alloc (.cells #[.int .i64 i] 3)) 219 #[.func (.func 274) #[] #[]];simp only[World.size_alloc] at this;exact this
 have hB0:Below w w ((((w.alloc (.cells #[.int .i64 0] 3)).alloc (.cells #[.string s] 9)).alloc (.cells #[.int .i64 i] 3)).alloc (.cells #[.func (.func 274) #[] #[]] 219)):=(((((jg _ w).alloc jy _).alloc (by simp) _).alloc (by simp;omega) _).alloc (by simp;omega) _);refine wpIn_rangeFunc_ownF rfl (by omega) (gf:=320) (lb:=#[.pointer (some ⟨w.heap.size+1+1,0,none⟩),.pointer (some ⟨w.heap.size+1,0,none⟩),.pointer (some ⟨w.heap.size+1+1+1,0,none⟩)]) rfl trivial (enters_of func320 (by kernel_rfl) rfl)
  (zz8 s i (w.heap.size+1) _ hs hi kA kB kC) Keep3.trans (Keep3.putObj (by simp)) (jg _ _) (λ_=>rfl)
  (λ(pre:List UInt8) W=>Blk W w 3 #[.int .i64 (pre.length:Int)]/\Below w w W)
  (λ_ _ _=>False)
  (OwnFrom.and (@Own.from (List UInt8) (λpre W=>Blk W w 3 #[.int .i64 (pre.length:Int)]) (λst A B row h hg hr=>Blk.own h hg hr) _) (ownFrom_below jy (by simp;omega)))
  (λ_ _ _ _ _ h _ _=>h)
  ⟨k0,hB0⟩
  (λ(c:UInt8)=>{ tmps:=#[.string s,.int .i64 i,.func (.func 274) #[] #[],undef,undef,undef,.int .i64 0,.pointer (some ⟨w.heap.size,0,none⟩),.string s,.int .i64 i,.func (.func 274) #[] #[],.func (.func 320) #[] #[.pointer (some ⟨w.heap.size+1+1,0,none⟩),.pointer (some ⟨w.heap.size+1,0,none⟩),.pointer (some ⟨w.heap.size+1+1+1,0,none⟩)],.int .u8 c.toNat,undef,undef,undef],defers:=[] }) ?assign ?body ?done ?stop
 case assign=>
  intro l x W K hK
  gi_wp2
  have e:∀(A:Array Value),Array.foldl (λt (x:Tmp × Value)=>t.setIfInBounds x.1 x.2) A ((#[12]:Array Tmp).zip #[.int .u8 x.toNat])=A.setIfInBounds 12 (.int .u8 x.toNat):=λA=>by simp[Array.zip,Array.zipWith,Array.zipWithMAux]
  first | (rw[e];exact hK) | exact hK
 case body=>
  rintro l pre x W ⟨hb,hB⟩ hlen;have hc:=hb.cell 0;have hf:=hb.frozen;have hpl:(pre.length:Int)<=1000001:=by omega
  have HB:=Hd hb;have HBW:=Hd hB;clear hb hB
  gi_wp2
  exact ⟨KeepsOthers.setCell _ _ _,λk h1 _=>Below.heap_setCell _ _ _ _ (by simp;omega),(HB.o.set_ 0 (.int .i64 ((pre.length:Int)+1))).eqv' (by simp),HBW.o.setCell (by simp) _⟩
 case done=>
  rintro D ys W hD rfl ⟨hb,hB⟩ hK;have hc:=hb.cell 0;have HBW:=Hd hB;clear hb hB
  gi_wp2
  refine ⟨by simp,.inl ⟨_,_,rfl,run_takeDeferred hK,?_⟩⟩;exact ⟨_,results_tmp rfl _ _ _,rfl,HBW.o.trans (belowK_b (w:=w) jy W D _ _ (by simp at hD;omega) hK rfl rfl)⟩
 case stop=>rintro D c pre W _ _ h _;exact h.elim
theorem zz9 (s:ByteArray) (i B:Nat) (w:World) (hs:s.size<=1000000) (hi:i<=s.size) (h0:Blk w B 9 #[.string s]) (h1:Blk w (B+1) 3 #[.int .i64 i]) (h2:Blk w (B+1+1) 219 #[.func (.func 303) #[] #[]]):
 SeqStopsK Fence.wide 6 prog 320 #[.pointer (some ⟨B+1,0,none⟩),.pointer (some ⟨B,0,none⟩),.pointer (some ⟨B+1+1,0,none⟩)] (λc:UInt8=>#[.int .u8 c.toNat]) (Keep3 B) (λxs=>xs=(s.data.toList.drop i).takeWhile alnB) (λ_=>True) (s.size+1) w:=by
 intro l J Jx W hW hJ hJx hY hJ0;have b0:=h0.below_ hW;have b1:=h1.below_ hW;have b2:=h2.below_ hW;have hlt:B+3<=W.heap.size:=by have:=b2.lt;omega
 have B0:=Hd b0;have B2:=Hd b2;have c1:=b1.cell 0;clear b0 b1 b2 h0 h1 h2;refine callsIn_of_wp func320 rfl trivial ?_ rfl;simp only[ntmps320,List.size_toArray,jk,List.length_nil,Nat.reduceAdd,Nat.reduceSub,Array.replicate_succ,Array.replicate_zero,List.push_toArray,List.append_toArray,List.nil_append,List.cons_append]
 gi_wp2
 clear c1
 gi_loopw [5] (λv wr=>∃j:Nat,i<=j/\j<=s.size/\v=.int .i64 j/\J ((s.data.toList.drop i).take (j-i)) wr/\((s.data.toList.drop i).take (j-i)).all alnB=true/\Blk wr B 9 #[.string s]/\Blk wr (B+1+1) 219 #[.func (.func 303) #[] #[]]) (λv _=>s.size-(intOf v).toNat)
 case atStart=>exact ⟨i,Nat.le_refl _,hi,rfl,by simpa using hJ0,by simp,B0.o,B2.o⟩
 obtain ⟨j,hij,hk,rfl,hjk,hall,b0,b2⟩:=hrel;have HJK:=Hd hjk;have HALL:=Hd hall;have B0':=Hd b0;have B2':=Hd b2;clear hjk hall b0 b2;have k0:wr.cell? (B,0)=some (.string s):=B0'.o.cell 0;have k2:wr.cell? (B+1+1,0)=some (.func (.func 303) #[] #[]):=B2'.o.cell 0;have hi0:(0:Int)<=(j:Int):=jw _;by_cases hlt:j<s.size;rotate_left
 ·have hi1:¬(j:Int)<(s.size:Int):=by omega
  have hi2:decide ((j:Int)<(s.size:Int))=false:=by simpa using hi1
  gi_wp2
  refine wpIn_wide.2 ?_;go_quiet (fail);have HJ2:=Hd (hJ _ _ (wr.drewN nq) none HJK.o (zfp wr nq) (λr e=>by cases e));have HE:=jM ((s.data.toList.drop i).takeWhile alnB=(s.data.toList.drop i).take (j-i)) (zi6 _ _ (by simp;omega) HALL.o (λc hc=>by rw[List.getElem?_eq_none (by simp;omega)] at hc;cases hc))
  gi_wp2
  go_end0;exact ⟨⟨_,rfl⟩,.inl ⟨_,HE.o.symm,HJ2.o⟩⟩
 have hi1:(j:Int)<(s.size:Int):=by omega
 have hi2:decide ((j:Int)<(s.size:Int))=true:=by simpa using hi1
 gi_wp2
 refine wpIn_wide.2 ?_;go_quiet ((go_at_call 303;exact Calls.quiet_of_same ((zth s[j] _).mono λe w' h=>⟨h.1,h.2.symm⟩)));have hj2:=hJ _ _ (wr.drewN nq) none HJK.o (zfp wr nq) (λr e=>by cases e);have HG:=Hd (zw8 s i j hij hlt);by_cases hp:alnB s[j]=true
 ·obtain ⟨fn,tmps,assign,body,hy,hR⟩:=hY _ s[j] _ hj2 (by simp;omega);have HT:=Hd (zuh s i j hij hlt);have HA2:=jM (((s.data.toList.drop i).take (j+1-i)).all alnB=true) (by rw[HT.o,List.all_append,HALL.o];simp[hp]);have k0':(wr.drewN nq).cell? (B,0)=some (.string s):=k0;have HJ2:=Hd hj2;clear hj2;rw[hp]
  gi_wp2
  refine hR.mono ?_;rintro e W3 (⟨rfl,hJ3,hk3⟩ | ⟨rfl,hJx3⟩)
  ·have HJ3:=Hd hJ3;have HB0:=Hd (Blk.keep3 (W:=wr.drewN nq) B0'.o hk3 jy (by omega));have HB2:=Hd (Blk.keep3 (W:=wr.drewN nq) B2'.o hk3 (by omega) (by omega));clear hJ3 hk3
   gi_wp2
   exact ⟨⟨j+1,by omega,by omega,by go_num,by rw[HT.o];exact HJ3.o,HA2.o,HB0.o,HB2.o⟩,by simp[intOf];omega⟩
  gi_wp2
  first | go_end0 | refine jD (results_none rfl _ _ _) rfl ?_
  exact ⟨⟨_,rfl⟩,.inr ⟨_,trivial,hJx3⟩⟩
 have hp':alnB s[j]=false:=by simpa using hp
 have HE:=jM ((s.data.toList.drop i).takeWhile alnB=(s.data.toList.drop i).take (j-i)) (zi6 _ _ (by simp;omega) HALL.o (λc hc=>by rw[HG.o] at hc;cases hc;exact hp'));have HJ2:=Hd hj2;clear hj2;rw[hp']
 gi_wp2
 go_end0;exact ⟨⟨_,rfl⟩,.inl ⟨_,HE.o.symm,HJ2.o⟩⟩
theorem ztk (s:ByteArray) (i:Nat) (w:World) (hs:s.size<=1000000) (hi:i<=s.size):
 Calls prog 273 #[.string s,.int .i64 i,.func (.func 303) #[] #[]] w λu w'=>u=.returned (.int .i64 (lenB alnB s.data.toList i))/\Below w w w':=by
 refine (callsIn_wide (n:=7)).1 ?_;refine callsIn_of_wp_marks func273 rfl trivial ?_ rfl;simp only[ntmps273,List.size_toArray,jk,List.length_nil,Nat.reduceAdd,Nat.reduceSub,Array.replicate_succ,Array.replicate_zero,List.push_toArray,List.append_toArray,List.nil_append,List.cons_append]
 gi_wp2
 refine ⟨trivial,?_⟩;refine (callsIn_wide.2 (zob s i _ _ rfl)).mono ?_;rintro e w' ⟨rfl,rfl⟩
 gi_wp2
 have k0:Blk ((((w.alloc (.cells #[.int .i64 0] 3)).alloc (.cells #[.string s] 9)).alloc (.cells #[.int .i64 i] 3)).alloc (.cells #[.func (.func 303) #[] #[]] 219)) w.heap.size 3 #[.int .i64 0]:=(((je w _ _).alloc _).alloc _).alloc _;have kA:Blk ((((w.alloc (.cells #[.int .i64 0] 3)).alloc (.cells #[.string s] 9)).alloc (.cells #[.int .i64 i] 3)).alloc (.cells #[.func (.func 303) #[] #[]] 219)) (w.heap.size+1) 9 #[.string s]:=by have:=je (w.alloc (.cells #[.int .i64 0] 3)) 9 #[.string s];rw[World.size_alloc] at this;exact (this.alloc _).alloc _
 have kB:Blk ((((w.alloc (.cells #[.int .i64 0] 3)).alloc (.cells #[.string s] 9)).alloc (.cells #[.int .i64 i] 3)).alloc (.cells #[.func (.func 303) #[] #[]] 219)) (w.heap.size+1+1) 3 #[.int .i64 i]:=by have:=je ((w.alloc (.cells #[.int .i64 0] 3)).alloc (.cells #[.string s] 9)) 3 #[.int .i64 i];simp only[World.size_alloc] at this;exact this.alloc _
 have kC:Blk ((((w.alloc (.cells #[.int .i64 0] 3)).alloc (.cells #[.string s] 9)).alloc (.cells #[.int .i64 i] 3)).alloc (.cells #[.func (.func 303) #[] #[]] 219)) (w.heap.size+1+1+1) 219 #[.func (.func 303) #[] #[]]:=by have:=je (((w.alloc (.cells #[.int .i64 0] 3)).alloc (.cells #[.string s] 9)).alloc (.cells #[.int .i64 i] 3)) 219 #[.func (.func 303) #[] #[]];simp only[World.size_alloc] at this;exact this
 have hB0:Below w w ((((w.alloc (.cells #[.int .i64 0] 3)).alloc (.cells #[.string s] 9)).alloc (.cells #[.int .i64 i] 3)).alloc (.cells #[.func (.func 303) #[] #[]] 219)):=(((((jg _ w).alloc jy _).alloc (by simp) _).alloc (by simp;omega) _).alloc (by simp;omega) _);refine wpIn_rangeFunc_ownF rfl (by omega) (gf:=320) (lb:=#[.pointer (some ⟨w.heap.size+1+1,0,none⟩),.pointer (some ⟨w.heap.size+1,0,none⟩),.pointer (some ⟨w.heap.size+1+1+1,0,none⟩)]) rfl trivial (enters_of func320 (by kernel_rfl) rfl)
  (zz9 s i (w.heap.size+1) _ hs hi kA kB kC) Keep3.trans (Keep3.putObj (by simp)) (jg _ _) (λ_=>rfl)
  (λ(pre:List UInt8) W=>Blk W w 3 #[.int .i64 (pre.length:Int)]/\Below w w W)
  (λ_ _ _=>False)
  (OwnFrom.and (@Own.from (List UInt8) (λpre W=>Blk W w 3 #[.int .i64 (pre.length:Int)]) (λst A B row h hg hr=>Blk.own h hg hr) _) (ownFrom_below jy (by simp;omega)))
  (λ_ _ _ _ _ h _ _=>h)
  ⟨k0,hB0⟩
  (λ(c:UInt8)=>{ tmps:=#[.string s,.int .i64 i,.func (.func 303) #[] #[],undef,undef,undef,.int .i64 0,.pointer (some ⟨w.heap.size,0,none⟩),.string s,.int .i64 i,.func (.func 303) #[] #[],.func (.func 320) #[] #[.pointer (some ⟨w.heap.size+1+1,0,none⟩),.pointer (some ⟨w.heap.size+1,0,none⟩),.pointer (some ⟨w.heap.size+1+1+1,0,none⟩)],.int .u8 c.toNat,undef,undef,undef],defers:=[] }) ?assign ?body ?done ?stop
 case assign=>
  intro l x W K hK
  gi_wp2
  have e:∀(A:Array Value),Array.foldl (λt (x:Tmp × Value)=>t.setIfInBounds x.1 x.2) A ((#[12]:Array Tmp).zip #[.int .u8 x.toNat])=A.setIfInBounds 12 (.int .u8 x.toNat):=λA=>by simp[Array.zip,Array.zipWith,Array.zipWithMAux]
  first | (rw[e];exact hK) | exact hK
 case body=>
  rintro l pre x W ⟨hb,hB⟩ hlen;have hc:=hb.cell 0;have hf:=hb.frozen;have hpl:(pre.length:Int)<=1000001:=by omega
  have HB:=Hd hb;have HBW:=Hd hB;clear hb hB
  gi_wp2
  exact ⟨KeepsOthers.setCell _ _ _,λk h1 _=>Below.heap_setCell _ _ _ _ (by simp;omega),(HB.o.set_ 0 (.int .i64 ((pre.length:Int)+1))).eqv' (by simp),HBW.o.setCell (by simp) _⟩
 case done=>
  rintro D ys W hD rfl ⟨hb,hB⟩ hK;have hc:=hb.cell 0;have HBW:=Hd hB;clear hb hB
  gi_wp2
  refine ⟨by simp,.inl ⟨_,_,rfl,run_takeDeferred hK,?_⟩⟩;exact ⟨_,results_tmp rfl _ _ _,rfl,HBW.o.trans (belowK_b (w:=w) jy W D _ _ (by simp at hD;omega) hK rfl rfl)⟩
 case stop=>rintro D c pre W _ _ h _;exact h.elim
def zuo (M:Nat) (o:Option Nat) (c:UInt8):Option Nat:=match o with
 | none=>none
 | some n=>if (M-(c.toNat-48)) / 10<n then none else some (10*n+(c.toNat-48))
def natO (n:Nat) (s:zaa):Option Nat:=s.foldl (zuo zc2) (some n)
theorem zq9:∀(l:zaa) (v:Nat) (c:UInt8),natB v (l++ [c])=10*natB v l+(c.toNat-48)
 | [],_,_=>rfl
 | _::l,_,c=>zq9 l _ c
theorem zhz (M n:Nat) (c:UInt8):zuo M (some n) c=if (M-(c.toNat-48)) / 10<n then none else some (10*n+(c.toNat-48)):=rfl
theorem zq8 (M:Nat) (hM:9<=M) (n:Nat) (hn:n<=M):∀(r:zaa),r.all digB=true->r.reverse.foldl (zuo M) (some n)=if M<natB n r.reverse then none else some (natB n r.reverse)
 | [],_=>by
  show some n=if M<n then none else some n
  rw[jS]
 | c::r,h=>by
  simp only[List.all_cons,ji] at h;have hc:=(zdq c).1 h.1;rw[List.reverse_cons,List.foldl_append,zq8 M hM n hn r h.2,zq9];generalize natB n r.reverse=v at *;show zuo M (if M<v then none else some v) c=_;by_cases hv:M<v
  ·rw[jb hv,jT];rfl
  rw[ja hv,zhz];by_cases hk:(M-(c.toNat-48)) / 10<v
  ·rw[jb hk,jT]
  rw[ja hk,jS]
theorem zv3 (s:zaa) (n:Nat) (h:s.all digB=true) (hn:n<=zc2):natO n s=if zc2<natB n s then none else some (natB n s):=by
 have:=zq8 zc2 (by decide) n hn s.reverse (by rw[List.all_reverse];exact h);rw[List.reverse_reverse] at this;exact this
def zb1 (s:zaa) (i:Nat):zaa:=if dotB s (i+lenB digB s i) then (s.drop (i+lenB digB s i+1)).take (lenB digB s (i+lenB digB s i+1)) else []
def zb9 (s:zaa) (i:Nat):zaa:=(s.drop i).take (lenB digB s i)
def zf8 (p:zaa):zaa:=p++List.replicate (4-p.length) 48
def zii (s:zaa) (i:Nat):Tok × Nat:=
 if 4<(zb1 s i).length then (tok0,0) else match natO 0 (zb9 s i++zf8 (zb1 s i)) with
  | none=>(tok0,0)
  | some n=>(⟨1,n,[],z4,i⟩,zbj s i)
theorem zdy (p:UInt8->Bool) (s:zaa) (i:Nat):lenB p s i=lenB p (s.drop i) 0:=by unfold lenB;simp
theorem zrb (p:UInt8->Bool) (s:zaa):lenB p s 0<=s.length:=by
 unfold lenB;have:=(List.takeWhile_prefix p (l:=s.drop 0)).length_le;simp at this ⊢;exact this
theorem zgk (p:UInt8->Bool) (s:zaa) (i:Nat):lenB p s i<=s.length-i:=by
 rw[zdy];have:=zrb p (s.drop i);simpa using this
theorem zht (p:UInt8->Bool) (s:zaa) (i:Nat):((s.drop i).take (lenB p s i)).all p=true:=by
 rw[zdy,List.all_eq_true];exact (zkp p (s.drop i)).1
theorem zgj (p:UInt8->Bool) (s:zaa) (i:Nat):((s.drop i).take (lenB p s i)).length=lenB p s i:=by
 have:=zgk p s i;rw[List.length_take,jp];omega
theorem zrc (p:UInt8->Bool):∀(a b:zaa),a.all p=true->(∀c,b.head?=some c->p c=false)->lenB p (a++b) 0=a.length
 | [],b,_,h=>by
  cases b with
  | nil=>rfl
  | cons c b=>simp[lenB,h c rfl]
 | d::a,b,ha,h=>by
  simp only[List.all_cons,ji] at ha;have:=zrc p a b ha.2 h;simp only[lenB,List.drop_zero] at this ⊢;simp[ha.1,this]
theorem zj0 (s:zaa) (i:Nat):s.getD i 0=((s.drop i).head?).getD 0:=by
 rw[jL,List.head?_drop]
theorem zlb (s:zaa) (p:Nat) (h:dotB s p=true):s.drop p=46::s.drop (p+1)/\0<lenB digB s (p+1):=by
 unfold dotB at h;simp only[ji,decide_eq_true_eq] at h;obtain ⟨⟨h1,h2⟩,h3⟩:=h;refine ⟨?_,?_⟩
 ·rw[jo (by omega)]
  congr 1
  unfold ub at h2;rw[jL,jz (by omega)] at h2;simp only[Option.getD_some] at h2;exact UInt8.toNat_inj.1 (by simpa using h2)
 rw[zdy];rw[jL,jz (by omega)] at h3;rw[jo (by omega)];simp only[Option.getD_some] at h3;unfold lenB;rw[List.drop_zero,List.takeWhile_cons,jb h3];simp
theorem zpi (s:zaa) (i:Nat):(s.drop i).take (zbj s i)=zb9 s i++(if dotB s (i+lenB digB s i) then 46::zb1 s i else []):=by
 unfold zbj zb9 zb1;by_cases h:dotB s (i+lenB digB s i)=true
 ·rw[jb h,jb h,jb h];have hd:=(zlb s _ h).1;have e1:s.drop i=(s.drop i).take (lenB digB s i)++s.drop (i+lenB digB s i):=by rw[<- List.drop_drop];exact (List.take_append_drop _ _).symm
  generalize hn:lenB digB s (i+lenB digB s i+1)=n at *;generalize hm:lenB digB s i=m at *;have hl:((s.drop i).take m).length=m:=by rw[<- hm];exact zgj digB s i
  conv=>lhs;rw[e1]
  rw[List.take_append,hl,hd];rw[show m+1+n-m=n+1 by omega,jr,jK (by omega)]
 rw[ja h,ja h];simp
theorem z1v (s:zaa) (i:Nat) (h:0<lenB digB s i):∃c t,zb9 s i=c::t/\digB c=true:=by
 have hl:=zgj digB s i;have ha:=zht digB s i;unfold zb9
 cases hq:(s.drop i).take (lenB digB s i) with
 | nil=>rw[hq] at hl;simp at hl;omega
 | cons c t=>rw[hq] at ha;simp at ha;exact ⟨c,t,rfl,ha.1⟩
theorem zrg (s:zaa) (i:Nat):(zb1 s i).all digB=true:=by
 unfold zb1;split
 ·exact zht digB s _
 rfl
theorem zmj (s:zaa) (i:Nat) (h:dotB s (i+lenB digB s i)=true):(zb1 s i).length=lenB digB s (i+lenB digB s i+1):=by
 unfold zb1;rw[jb h];exact zgj digB s _
theorem z3n (p:zaa) (h:p.length<=4):(zh8 p).take 4=zf8 p/\ub (zh8 p) 4=48:=by
 unfold zh8 zf8
 match p,h with
 | [],_=>exact ⟨rfl,rfl⟩
 | [a],_=>exact ⟨rfl,rfl⟩
 | [a,b],_=>exact ⟨rfl,rfl⟩
 | [a,b,c],_=>exact ⟨rfl,rfl⟩
 | [a,b,c,d],_=>exact ⟨rfl,rfl⟩
 | a::b::c::d::e::p,h=>simp at h
theorem zrh (p:zaa) (h:p.all digB=true):(zf8 p).all digB=true:=by
 unfold zf8;rw[List.all_append,h,Bool.true_and,List.all_eq_true];intro c hc;rw[List.eq_of_mem_replicate hc];rfl
theorem z22 (s:zaa) (i:Nat) (h:0<lenB digB s i):zaq s i=zii s i:=by
 obtain ⟨c,t,hw,hc⟩:=z1v s i h;have hwa:(zb9 s i).all digB=true:=zht digB s i;have hfa:=zrg s i;unfold zaq zii;rw[jS];by_cases h4:4<(zb1 s i).length
 ·have hd:dotB s (i+lenB digB s i)=true:=by
   rw[<- Bool.not_eq_false];intro q;unfold zb1 at h4;rw[q] at h4;simp at h4
  rw[jb ⟨hd,by rw[<- zmj s i hd];exact h4⟩,jb h4]
 have hn:¬(dotB s (i+lenB digB s i)=true/\4<lenB digB s (i+lenB digB s i+1)):=λq=>h4 (by rw[zmj s i q.1];exact q.2);rw[ja hn,ja h4,zpi];have hfour:=z3n (zb1 s i) (by omega);have hall:(zb9 s i++zf8 (zb1 s i)).all digB=true:=by rw[List.all_append,hwa,zrh _ hfa];rfl
 rw[zv3 _ 0 hall (by decide)];have hneg:negB (zb9 s i++(if dotB s (i+lenB digB s i) then 46::zb1 s i else []))=false:=by rw[hw];unfold negB;have:=(zdq c).1 hc;simp;intro q;rw[q] at this;simp at this
 have hlen:lenB digB (zb9 s i++(if dotB s (i+lenB digB s i) then 46::zb1 s i else [])) 0=(zb9 s i).length:=by
  refine zrc digB _ _ hwa (λd hd=>?_);split at hd
  ·simp at hd;rw[<- hd];rfl
  cases hd
 have hun:unsB (zb9 s i++(if dotB s (i+lenB digB s i) then 46::zb1 s i else []))=zb9 s i++(if dotB s (i+lenB digB s i) then 46::zb1 s i else []):=by unfold unsB;rw[hneg];rfl
 have hpl:zc7 (if dotB s (i+lenB digB s i) then 46::zb1 s i else [])=some (zb1 s i):=by
  by_cases hd:dotB s (i+lenB digB s i)=true
  ·rw[jb hd];have h1:=(zlb s _ hd).2;rw[<- zmj s i hd] at h1;show (if (46:UInt8)=46/\zb1 s i≠ []/\(zb1 s i).all digB=true then some (zb1 s i) else none)=_;rw[jb ⟨rfl,λq=>by rw[q] at h1;simp at h1,hfa⟩]
  rw[ja hd];unfold zb1;rw[ja hd];rfl
 have hpd:zbf (zb9 s i++(if dotB s (i+lenB digB s i) then 46::zb1 s i else []))=if zc2<natB 0 (zb9 s i++zf8 (zb1 s i)) then (0,3) else (((natB 0 (zb9 s i++zf8 (zb1 s i)):Nat):Int),0):=by unfold zbf;rw[hun,hlen,List.drop_left,List.take_left,hpl,hneg];dsimp only;unfold zjb;rw[hfour.1,hfour.2,ja (by rw[hw];simp)];simp
 rw[hpd];by_cases hm:zc2<natB 0 (zb9 s i++zf8 (zb1 s i))
 ·rw[jb hm,jb hm];rfl
 rw[ja hm,ja hm];rfl
theorem z0y (c:UInt8):upU c=if 97<=c.toNat/\c.toNat<=122 then UInt8.ofNat (c.toNat-32) else c:=rfl
theorem z1w (p:Pcs) (c:UInt8):zcw p (upU c)=zcw p c:=by
 by_cases h:97<=c.toNat/\c.toNat<=122
 ·have e:(upU c).toNat=c.toNat-32:=by rw[z0y,jb h];simp;omega
  unfold zcw;rw[jb h,jS,jT,e]
 rw[z0y,ja h]
theorem par_up (s:zaa):parA (s.map upU)=parA s:=by
 have h:∀(s:zaa) (p:Pcs),(s.map upU).foldl zcw p=s.foldl zcw p:=by
  intro s
  induction s with
  | nil=>intro p;rfl
  | cons c s ih=>intro p;rw[List.map_cons,List.foldl_cons,List.foldl_cons,z1w,ih]
 unfold parA zau;rw[h]
end Go.Proofs.YtamcgggmfghljaaGreatDoor
