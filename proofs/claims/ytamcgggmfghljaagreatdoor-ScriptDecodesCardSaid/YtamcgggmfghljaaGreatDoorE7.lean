/- walk -/
import Derived.WalkSmall
import Derived.Lib.OthersKept
import Derived.Laws.ShiftsVarLaws
import Derived.Test.YtamcgggmfghljaaGreatDoorE5
import Derived.Test.YtamcgggmfghljaaGreatDoorE6
set_option maxRecDepth 100000
set_option maxHeartbeats 8000000
open Go.Proofs.Tryz
namespace Go.Proofs.YtamcgggmfghljaaGreatDoor
open Go.RowKit
variable {B:Nat} {b c s:Scp} {α:Type} {e g l o r x:Value} {w w':World}
theorem pr_2 (c:Nat) (w:World):
 Calls prog 194 #[.int .i32 c] w λu w'=>u=.returned (.bool (decide (c=0)))/\w=w':=by
 by_cases h:c=0
 ·have h1:((c:Int)==0)=true:=by simp[h]
  have H:=Hd h;clear h;go_enter func194,ntmps194;go_wp2;go_ret;exact ⟨by simp[H.o],rfl⟩
 have h1:((c:Int)==0)=false:=by simpa using h
 have H:=Hd h;clear h;go_enter func194,ntmps194;go_wp2;go_ret;exact ⟨by simp[H.o],rfl⟩
theorem z0c (s:zaa) (w:World) (_hs:s.length<=1000000) (ha:∀c∈s,c.toNat<128):
 Calls prog 210 #[str s,.func (.func 194) #[] #[],.bool true] w λu w'=>∃i,u=.returned (.int .i64 i)/\decide (i<0)=s.all (λc=>c.toNat≠0)/\Below w w w':=by
 have hk0:(w.iter ⟨s.toArray⟩ 0).heap[w.heap.size]?=some (.stringIter ⟨s.toArray⟩ 0):=World.iter_heap w _ 0;have hb0:Below w w (w.iter ⟨s.toArray⟩ 0):=(jg _ w).alloc jy _;have hsz:(⟨s.toArray⟩:ByteArray).size=s.length:=by show s.toArray.size=_;simp
 have HA:=Hd ha;have HS:=Hd hsz;clear ha hsz;go_enter func210,ntmps210;go_wp2;go_loopw [7] (λ_ wr=>∃pos:Nat,pos<=s.length/\wr.heap[w.heap.size]?=some (.stringIter ⟨s.toArray⟩ pos)/\(s.take pos).all (λc=>c.toNat≠0)=true/\Below w w wr)
  (λ_ wr=>s.length-wr.iterPos w.heap.size)
 case atStart=>exact ⟨0,Nat.zero_le _,hk0,by simp,hb0⟩
 obtain ⟨pos,hps,hk,hall,hnx⟩:=hrel;clear hk0 hb0;have hsz:=HS.o;have HAL:=Hd hall;have HNX:=Hd hnx;clear hall;by_cases hp:pos<s.length;rotate_left
 ·have hnext:∀ty,(Instr.next (.pointer (some (w,0))) true ty).run prog wr=.ok (.tuple #[.bool false]) wr:=λty=>Lib.run_next_end_at wr w.heap.size ⟨s.toArray⟩ pos ty hk (by omega);clear hsz hk hnx;go_wp2;go_ret;refine ⟨_,rfl,?_,HNX.o⟩;have:=HAL.o;rw[jK (by omega)] at this;rw[this];rfl
 have hx:s[pos]?=some s[pos]:=jz hp;have hm:=HA.o _ (jj hp);have htk:s.take (pos+1)=s.take pos++ [s[pos]]:=by rw[jC hp]
 have HT:=Hd htk;have hp':pos<(⟨s.toArray⟩:ByteArray).size:=by omega
 have h128:((⟨s.toArray⟩:ByteArray)[pos]'hp').toNat<128:=hm;have hnext:∀ty,(Instr.next (.pointer (some (w,0))) true ty).run prog wr=.ok (.tuple #[.bool true,.int .i64 pos,.int .i32 ((s[pos]'hp).toNat)]) (wr.iterAt w.heap.size ⟨s.toArray⟩ (pos+1)):=λty=>Lib.run_next_ascii_at wr w.heap.size ⟨s.toArray⟩ pos ty hk hp' h128;have hk1:=Lib.iterAt_heap wr w.heap.size ⟨s.toArray⟩ pos (pos+1) hk;have hnx1:Below w w (wr.iterAt w.heap.size ⟨s.toArray⟩ (pos+1)):=Lib.below_iterAt hnx jy _ (pos+1);have hmu:wr.iterPos w.heap.size=pos:=by simp[World.iterPos,hk]
 have HX:=Hd hx;have HMU:=Hd hmu;have HK1:=Hd hk1;have HN1:=Hd hnx1;clear hnx hk hx htk hm h128 hmu hk1 hnx1 hp' hsz;generalize wr.iterAt w.heap.size ⟨s.toArray⟩ (pos+1)=W1 at *;generalize s[pos]=c at *;go_wp2_with fail;refine (pr_2 _ _).mono ?_;rintro e w2 ⟨rfl,rfl⟩;by_cases hc:c.toNat=0
 ·rw[jB hc];go_wp2;go_ret;refine ⟨_,rfl,?_,HN1.o⟩;rw[jA (by omega)];symm;rw[List.all_eq_false];exact ⟨c,List.mem_of_getElem? HX.o,by simp[hc]⟩
 rw[jA hc];go_wp2;refine ⟨⟨pos+1,by omega,HK1.o,?_,HN1.o⟩,?_⟩
 ·rw[HT.o,List.all_append,HAL.o];simpa using hc
 rw[HMU.o,show W1.iterPos w.heap.size=pos+1 by have:=HK1.o;simp[World.iterPos,this]];omega
def prB (s:zaa):Bool:=s.all λc=>decide (32<=c.toNat)&&decide (c.toNat<=126)
theorem pr_all (s:zaa):(s.map prC).all (λc=>decide (c.toNat≠0))=prB s:=by
 unfold prB;rw[List.all_map]
 congr 1
 funext c
 simp only[Function.comp,prC];split
 ·rename_i h;rcases h with h | h
  ·simp;omega
  simp;omega
 rename_i h;simp;omega
theorem zzf (s:zaa):∀c∈s.map prC,c.toNat<128:=by
 intro c hc;obtain ⟨d,_,rfl⟩:=List.mem_map.1 hc;unfold prC;split <;> decide
theorem z2r (w:World):z37 (.func (.func 193) #[] #[]) prC w:=⟨_,_,rfl,λargs w=>by simp[go_sem],λc w _=>pr_1 c w⟩
theorem zwp (s:zaa) (w:World) (hs:s.length<=1000000) (ha:∀c∈s,c.toNat<128):
 Calls prog 191 #[str s,.func (.func 194) #[] #[]] w λu w'=>∃i,u=.returned (.int .i64 i)/\decide (i<0)=s.all (λc=>c.toNat≠0)/\Below w w w':=by
 have HA:=Hd ha;clear ha;go_enter func191,ntmps191;go_wp2_with fail;refine (z0c s _ hs HA.o).mono ?_;rintro e w1 ⟨i,rfl,hi,hb⟩;have HI:=Hd hi;clear hi;go_wp2;go_ret;exact ⟨i,rfl,HI.o,hb⟩
theorem zhi (s:zaa) (w:World) (hs:s.length<=1000000):
 Calls prog 144 #[str s] w λu w'=>u=.returned (.bool (prB s))/\Below w w w':=by
 have HM:=Hd (z2r w);go_enter func144,ntmps144;go_wp2_with fail;refine (zj7 s _ prC _ hs HM.o).mono ?_;rintro e w1 ⟨g,cap,cs,rfl,hr,hg,hc,hb⟩;have hcv:=run_convert_bytes_back (P:=prog) w1 59 9 5 (g,0) cap (s.map prC) rfl rfl rfl (λj hj=>by
  have hj':j<s.length:=by simpa using hj
  have h1:=hc j _ (jz hj');rw[zhv,hr.cell,h1];simp)
 rw[List.length_map] at hcv;have HB:=Hd hb;clear hr hg hc hb;go_wp2_with fail;refine (zwp (s.map prC) _ (by simpa using hs) (zzf s)).mono ?_;rintro e w2 ⟨i,rfl,hi,hb⟩;rw[pr_all] at hi;have HI:=Hd hi;have HB2:=Hd (Below.next_ HB.o hb);clear hi hb;go_wp2;go_ret;exact ⟨by rw[<- HI.o];rfl,HB2.o⟩
def txtE (s:zaa):Int:=if 256<s.length then 5 else if prB s then 0 else 4
theorem zjz (s:zaa) (w:World) (hs:s.length<=140737488355328):
 Calls prog 56 #[str s] w λu w'=>u=.returned (.int .i64 (txtE s))/\Below w w w':=by
 by_cases hl:256<s.length
 ·have H:=jM (txtE s=5) (by unfold txtE;rw[jb hl]);go_enter func56,ntmps56;go_wp2;go_ret;exact ⟨by rw[H.o];rfl,by go_grown⟩
 have H:=jM (txtE s=if prB s then 0 else 4) (by unfold txtE;rw[ja hl]);go_enter func56,ntmps56;go_wp2_with fail;refine (zhi s _ (by omega)).mono ?_;rintro e w1 ⟨rfl,hb⟩;cases hp:prB s
 ·go_wp2;go_ret;exact ⟨by rw[H.o,hp];rfl,hb⟩
 go_wp2;go_ret;exact ⟨by rw[H.o,hp];rfl,hb⟩
def upC (c:UInt8):UInt8:=if 97<=c.toNat/\c.toNat<=122 then UInt8.ofNat (c.toNat-32) else c
def upB (s:zaa):zaa:=s.map upC
theorem z3e (c:UInt8) (g1 g2:Nat) (w:World) (h1:w.cell? (g1,0)=some (.int .u8 97)) (h2:w.cell? (g2,0)=some (.int .i64 (-32))):
 Calls prog 301 #[.int .u8 c.toNat,(aA g1),(aA g2)] w λu w'=>u=.returned (.int .u8 (upC c).toNat)/\Below w w w':=by
 have hc:=c.toNat_lt;by_cases c1:97<=c.toNat
 ·by_cases c2:c.toNat<=122
  ·have H:=Hd (show ((upC c).toNat:Int)=(c.toNat:Int)-32 by
    unfold upC;rw[jb ⟨c1,c2⟩,UInt8.toNat_ofNat'];omega)
   go_enter func301,ntmps301;go_wp2;go_ret;exact ⟨by rw[H.o];rfl,by go_grown⟩
  have H:=jM (upC c=c) (by unfold upC;rw[jS]);go_enter func301,ntmps301;go_wp2;go_ret;exact ⟨by rw[H.o];rfl,by go_grown⟩
 have H:=jM (upC c=c) (by unfold upC;rw[jS]);go_enter func301,ntmps301;go_wp2;go_ret;exact ⟨by rw[H.o];rfl,by go_grown⟩
theorem zwa (s:zaa) (w:World) (hs:s.length<=1000000):
 Calls prog 272 #[str s,.int .u8 97,.int .i64 (-32)] w λu w'=>u=.returned (str (upB s))/\Below w w w':=by
 have HM:=Hd (show z37 (.func (.func 301) #[] #[.pointer (some (w,0)),.pointer (some (w.heap.size+1,0))]) upC ((w.alloc (.cells #[.int .u8 97] 5)).alloc (.cells #[.int .i64 (-32)] 3)) from
  ⟨_,_,rfl,λargs w=>by simp[go_sem],λc W hW=>z3e c w.heap.size (w.heap.size+1) W
   ((hW.cell (p:=⟨w.heap.size,0,none⟩) (by simp;omega)).trans (by simp))
   ((hW.cell (p:=⟨w.heap.size+1,0,none⟩) (by simp)).trans (by simp))⟩)
 go_enter func272,ntmps272;go_wp2_with fail;refine (zj7 s _ upC _ hs HM.o).mono ?_;rintro e w1 ⟨g,cap,cs,rfl,hr,hg,hc,hb⟩;have hcv:=run_convert_bytes_back (P:=prog) w1 59 9 5 (g,0) cap (s.map upC) rfl rfl rfl (λj hj=>by
  have hj':j<s.length:=by simpa using hj
  have h1:=hc j _ (jz hj');rw[zhv,hr.cell,h1];simp)
 rw[List.length_map] at hcv;have HB:=jM (Below w w w1) (nxt hb);clear hr hg hc hb;go_wp2;go_ret;exact ⟨rfl,HB.o⟩
theorem ze5 (s:zaa) (w:World) (hs:s.length<=1000000):
 Calls prog 243 #[str s] w λu w'=>u=.returned (str (upB s))/\Below w w w':=by
 go_enter func243,ntmps243;go_wp2_with fail;refine (zwa s _ hs).mono ?_;rintro e w1 ⟨rfl,hb⟩;go_wp2;go_ret;exact ⟨rfl,hb⟩
theorem zb6 (v:Value) (l:zaa) (n:Int) (w:World) (h:Out w v l) (hl:l.length<=100000000000):
 Calls prog 84 #[v,.int .i64 n] w λe w'=>∃v',e=.returned v'/\Out w' v' (l++numI n)/\OutTo w v w' v':=by
 obtain ⟨i0,hi0,hz0,hz1,hz2⟩:=info_parts (show (prog.info? 5).map (λi=>(i.zero,i.size,i.bytes))=some (some (.int .u8 0),1,1) by kernel_rfl);obtain ⟨m,hm,hm2⟩:∃m:Nat,IntKind.u64.wrap n=(m:Int)/\m<18446744073709551616:=⟨(n % 18446744073709551616).toNat,by rw[IntKind.wrap_u64];omega,by omega⟩;have hN:Hid (numI n=numB m):=by unfold Hid numI;rw[<- IntKind.wrap_u64,hm];rfl
 have h8:=zib hm2;have H0:=Hd h;clear h;go_enter func84,ntmps84;go_wp2;go_loop [6,7] (λs x=>∃k y:Nat,s=.int .i64 k/\x=.int .u64 y/\(beB m).length=k+(beB y).length) (λ_ x=>(intOf x).toNat)
 case atStart=>exact ⟨0,m,rfl,rfl,by simp⟩
 obtain ⟨k,y,rfl,rfl,hk⟩:=hrel;by_cases hy:0<y
 ·have hk2:=zen (n:=y) (by omega);have HK:=Hd hk;go_wp2;exact ⟨⟨k+1,y / 256,rfl,rfl,by omega⟩,by simp[intOf];omega⟩
 obtain rfl:y=0:=by omega
 rw[zey] at hk;have hk1:k=(beB m).length:=by simpa using hk.symm
 have HK:=Hd hk1;have e1:l++ [UInt8.ofNat (k:Int).toNat]=l++ [UInt8.ofNat (beB m).length]:=by rw[hk1];rfl
 have E1:=Hd e1;have hk9:k<=8:=by omega
 clear hk hk1 e1;go_wp2_with (at_builtin;refine zbu rfl _ _ 59 rfl i0 rfl hi0 hz0 hz1 hz2 v l rfl (H0.o.alloc _) w.heap.size k rfl (by omega) (by omega) (World.cell?_alloc_at _ _ _ _ rfl) (by omega) ?_;intro v1 w1 o1 t1);have T1:=Hd (((OutTo.refl w v).alloc _).trans t1);rw[E1.o] at o1;have O1:=Hd o1;clear t1 o1;go_wp2;go_loopw [0,8] (λu i wr=>∃j:Nat,j<=k/\i=.int .i64 ((k:Int)-1-j)/\Out wr u (l++UInt8.ofNat (beB m).length::(beB m).take j)/\OutTo w v wr u) (λ_ i _=>(intOf i+1).toNat)
 case atStart=>exact ⟨0,by omega,by simp,by simpa using O1.o,T1.o⟩
 obtain ⟨j,hj,rfl,oj,tj⟩:=hrel;have OJ:=Hd oj;have TJ:=Hd tj;clear oj tj;by_cases hlt:j<k
 ·have b0:(0:Int)<=(k:Int)-1-j:=by omega
  have hb:=zmw m (k-1-j);rw[HK.o] at hb;have ht:=zmu (n:=m) (j:=j) (by rw[<- HK.o];omega);rw[<- hb,<- HK.o] at ht;have HT:=Hd ht;clear hb ht;go_wp2_with (at_builtin;refine zbu rfl _ _ 59 rfl i0 rfl hi0 hz0 hz1 hz2 u0 _ rfl (OJ.o.alloc _) wr.heap.size ((m:Int) / 2 ^ (8*(k-1-j)) % 256) rfl (by omega) (by omega) (World.cell?_alloc_at _ _ _ _ rfl) (by simp;omega) ?_;intro v2 w2 o2 t2);have T2:=Hd (TJ.o.trans (((OutTo.refl wr u0).alloc _).trans t2));have O2:=Hd o2;clear t2 o2;go_wp2;refine ⟨⟨j+1,by omega,by go_num,?_,T2.o⟩,by simp[intOf];omega⟩;rw[HT.o];simpa using O2.o
 go_wp2;go_ret;have hjk:j=(beB m).length:=by rw[<- HK.o];omega
 refine ⟨_,rfl,?_,TJ.o⟩;have:=OJ.o;rw[hjk,jt] at this;rw[hN.o];exact this
theorem zjo (v:Value) (l:zaa) (n:Int) (w:World) (hn0:0<=n) (hn1:n<18446744073709551616) (h:Out w v l) (hl:l.length<=100000000000):
 Calls prog 96 #[v,.int .u64 n] w λe w'=>∃v',e=.returned v'/\Out w' v' (l++numI n)/\OutTo w v w' v':=by
 obtain ⟨i0,hi0,hz0,hz1,hz2⟩:=info_parts (show (prog.info? 5).map (λi=>(i.zero,i.size,i.bytes))=some (some (.int .u8 0),1,1) by kernel_rfl);obtain ⟨m,rfl⟩:∃m:Nat,n=(m:Int):=⟨n.toNat,by omega⟩;have hm2:m<18446744073709551616:=by omega
 have hN:Hid (numI (m:Int)=numB m):=by
  unfold Hid numI
  congr 1
  omega
 clear hn0 hn1;have h8:=zib hm2;have H0:=Hd h;clear h;go_enter func96,ntmps96;go_wp2;go_loop [6,7] (λs x=>∃k y:Nat,s=.int .i64 k/\x=.int .u64 y/\(beB m).length=k+(beB y).length) (λ_ x=>(intOf x).toNat)
 case atStart=>exact ⟨0,m,rfl,rfl,by simp⟩
 obtain ⟨k,y,rfl,rfl,hk⟩:=hrel;by_cases hy:0<y
 ·have hk2:=zen (n:=y) (by omega);have HK:=Hd hk;go_wp2;exact ⟨⟨k+1,y / 256,rfl,rfl,by omega⟩,by simp[intOf];omega⟩
 obtain rfl:y=0:=by omega
 rw[zey] at hk;have hk1:k=(beB m).length:=by simpa using hk.symm
 have HK:=Hd hk1;have e1:l++ [UInt8.ofNat (k:Int).toNat]=l++ [UInt8.ofNat (beB m).length]:=by rw[hk1];rfl
 have E1:=Hd e1;have hk9:k<=8:=by omega
 clear hk hk1 e1;go_wp2_with (at_builtin;refine zbu rfl _ _ 59 rfl i0 rfl hi0 hz0 hz1 hz2 v l rfl (H0.o.alloc _) w.heap.size k rfl (by omega) (by omega) (World.cell?_alloc_at _ _ _ _ rfl) (by omega) ?_;intro v1 w1 o1 t1);have T1:=Hd (((OutTo.refl w v).alloc _).trans t1);rw[E1.o] at o1;have O1:=Hd o1;clear t1 o1;go_wp2;go_loopw [0,8] (λu i wr=>∃j:Nat,j<=k/\i=.int .i64 ((k:Int)-1-j)/\Out wr u (l++UInt8.ofNat (beB m).length::(beB m).take j)/\OutTo w v wr u) (λ_ i _=>(intOf i+1).toNat)
 case atStart=>exact ⟨0,by omega,by simp,by simpa using O1.o,T1.o⟩
 obtain ⟨j,hj,rfl,oj,tj⟩:=hrel;have OJ:=Hd oj;have TJ:=Hd tj;clear oj tj;by_cases hlt:j<k
 ·have b0:(0:Int)<=(k:Int)-1-j:=by omega
  have hb:=zmw m (k-1-j);rw[HK.o] at hb;have ht:=zmu (n:=m) (j:=j) (by rw[<- HK.o];omega);rw[<- hb,<- HK.o] at ht;have HT:=Hd ht;clear hb ht;go_wp2_with (at_builtin;refine zbu rfl _ _ 59 rfl i0 rfl hi0 hz0 hz1 hz2 u0 _ rfl (OJ.o.alloc _) wr.heap.size ((m:Int) / 2 ^ (8*(k-1-j)) % 256) rfl (by omega) (by omega) (World.cell?_alloc_at _ _ _ _ rfl) (by simp;omega) ?_;intro v2 w2 o2 t2);have T2:=Hd (TJ.o.trans (((OutTo.refl wr u0).alloc _).trans t2));have O2:=Hd o2;clear t2 o2;go_wp2;refine ⟨⟨j+1,by omega,by go_num,?_,T2.o⟩,by simp[intOf];omega⟩;rw[HT.o];simpa using O2.o
 go_wp2;go_ret;have hjk:j=(beB m).length:=by rw[<- HK.o];omega
 refine ⟨_,rfl,?_,TJ.o⟩;have:=OJ.o;rw[hjk,jt] at this;rw[hN.o];exact this
theorem zn7 (v:Value) (l:zaa) (n:Int) (w:World) (h:Out w v l) (hl:l.length<=100000000000):
 Calls prog 97 #[v,.int .u8 n] w λe w'=>∃v',e=.returned v'/\Out w' v' (l++numI n)/\OutTo w v w' v':=by
 obtain ⟨i0,hi0,hz0,hz1,hz2⟩:=info_parts (show (prog.info? 5).map (λi=>(i.zero,i.size,i.bytes))=some (some (.int .u8 0),1,1) by kernel_rfl);obtain ⟨m,hm,hm2⟩:∃m:Nat,IntKind.u64.wrap n=(m:Int)/\m<18446744073709551616:=⟨(n % 18446744073709551616).toNat,by rw[IntKind.wrap_u64];omega,by omega⟩;have hN:Hid (numI n=numB m):=by unfold Hid numI;rw[<- IntKind.wrap_u64,hm];rfl
 have h8:=zib hm2;have H0:=Hd h;clear h;go_enter func97,ntmps97;go_wp2;go_loop [6,7] (λs x=>∃k y:Nat,s=.int .i64 k/\x=.int .u64 y/\(beB m).length=k+(beB y).length) (λ_ x=>(intOf x).toNat)
 case atStart=>exact ⟨0,m,rfl,rfl,by simp⟩
 obtain ⟨k,y,rfl,rfl,hk⟩:=hrel;by_cases hy:0<y
 ·have hk2:=zen (n:=y) (by omega);have HK:=Hd hk;go_wp2;exact ⟨⟨k+1,y / 256,rfl,rfl,by omega⟩,by simp[intOf];omega⟩
 obtain rfl:y=0:=by omega
 rw[zey] at hk;have hk1:k=(beB m).length:=by simpa using hk.symm
 have HK:=Hd hk1;have e1:l++ [UInt8.ofNat (k:Int).toNat]=l++ [UInt8.ofNat (beB m).length]:=by rw[hk1];rfl
 have E1:=Hd e1;have hk9:k<=8:=by omega
 clear hk hk1 e1;go_wp2_with (at_builtin;refine zbu rfl _ _ 59 rfl i0 rfl hi0 hz0 hz1 hz2 v l rfl (H0.o.alloc _) w.heap.size k rfl (by omega) (by omega) (World.cell?_alloc_at _ _ _ _ rfl) (by omega) ?_;intro v1 w1 o1 t1);have T1:=Hd (((OutTo.refl w v).alloc _).trans t1);rw[E1.o] at o1;have O1:=Hd o1;clear t1 o1;go_wp2;go_loopw [0,8] (λu i wr=>∃j:Nat,j<=k/\i=.int .i64 ((k:Int)-1-j)/\Out wr u (l++UInt8.ofNat (beB m).length::(beB m).take j)/\OutTo w v wr u) (λ_ i _=>(intOf i+1).toNat)
 case atStart=>exact ⟨0,by omega,by simp,by simpa using O1.o,T1.o⟩
 obtain ⟨j,hj,rfl,oj,tj⟩:=hrel;have OJ:=Hd oj;have TJ:=Hd tj;clear oj tj;by_cases hlt:j<k
 ·have b0:(0:Int)<=(k:Int)-1-j:=by omega
  have hb:=zmw m (k-1-j);rw[HK.o] at hb;have ht:=zmu (n:=m) (j:=j) (by rw[<- HK.o];omega);rw[<- hb,<- HK.o] at ht;have HT:=Hd ht;clear hb ht;go_wp2_with (at_builtin;refine zbu rfl _ _ 59 rfl i0 rfl hi0 hz0 hz1 hz2 u0 _ rfl (OJ.o.alloc _) wr.heap.size ((m:Int) / 2 ^ (8*(k-1-j)) % 256) rfl (by omega) (by omega) (World.cell?_alloc_at _ _ _ _ rfl) (by simp;omega) ?_;intro v2 w2 o2 t2);have T2:=Hd (TJ.o.trans (((OutTo.refl wr u0).alloc _).trans t2));have O2:=Hd o2;clear t2 o2;go_wp2;refine ⟨⟨j+1,by omega,by go_num,?_,T2.o⟩,by simp[intOf];omega⟩;rw[HT.o];simpa using O2.o
 go_wp2;go_ret;have hjk:j=(beB m).length:=by rw[<- HK.o];omega
 refine ⟨_,rfl,?_,TJ.o⟩;have:=OJ.o;rw[hjk,jt] at this;rw[hN.o];exact this
theorem zcd (f:α->zaa):∀(xs:List α) (k:Nat),((xs.take k).flatMap f).length<=(xs.flatMap f).length
 | [],k=>by simp
 | x::xs,0=>by simp
 | x::xs,k+1=>by
  have:=zcd f xs k;rw[jr,List.flatMap_cons,List.flatMap_cons,jH,jH];omega
def zfu {α:Type} (c:α->List Value) (f:α->zaa) (K:Nat) (x:α):Prop:=
 ∀(v:Value) (l:zaa) (w:World),Out w v l->l.length<=100000000->Calls prog K #[v,.agg (c x).toArray] w λe w'=>∃v',e=.returned v'/\Out w' v' (l++f x)/\OutTo w v w' v'
theorem zzz (v sv:Value) (l:zaa) (xs:List Ent) (B:Nat) (w:World) (h:Out w v l) (hB:B<=w.heap.size) (hv:∀k,v.ownBlock=some k->B<=k) (hs:Sls cEnt w B sv xs)
 (hg:∀x∈xs,zfu cEnt entB 86 x) (hl:l.length+(zar entB xs).length<=100000000):
 Calls prog 85 #[v,sv,.func (.func 86) #[] #[]] w λe w'=>∃v',e=.returned v'/\Out w' v' (l++zar entB xs)/\OutTo w v w' v':=by
 obtain ⟨A,cap,rfl,hc,hm,hr⟩:=id hs;have H:=Hd h;have HS:=Hd hs;have HG:=Hd hg;clear h hs hr hg;unfold maxLen at hm;have n1:=zab xs.length;have hl2:l.length+(numI xs.length).length+(xs.flatMap entB).length<=100000000:=by simpa [zar,Nat.add_assoc] using hl
 have HL:=Hd hl2;clear hl;go_enter func85,ntmps85;go_wp2_with fail;refine (zb6 _ _ _ _ H.o (by omega)).mono ?_;rintro e w1 ⟨v1,rfl,o1,t1⟩;have O1:=Hd o1;have T1:=Hd t1;clear o1 t1 hl2;go_wp2_with fail;go_loopw [0,15] (λu i wr=>∃k:Nat,k<=xs.length/\i=.int .i64 k/\Out wr u (l++numI xs.length++(xs.take k).flatMap entB)/\OutTo w v wr u) (λ_ i _=>xs.length-(intOf i).toNat)
 case atStart=>exact ⟨0,by omega,rfl,by simpa using O1.o,T1.o⟩
 obtain ⟨k,hk,rfl,oo,tt⟩:=hrel;have OO:=Hd oo;have TT:=Hd tt;clear oo;by_cases hlt:k<xs.length;rotate_left
 ·go_wp2;go_ret;obtain rfl:k=xs.length:=by omega
  exact ⟨_,rfl,by have:=OO.o;rw[jt] at this;simpa [zar] using this,TT.o⟩
 have hx:xs[k]?=some xs[k]:=jz hlt;have HW:=Hd (HG.o _ (jj hlt));obtain ⟨b,o,rfl,hb,r⟩:=(HS.o.below (tt.old hB hv)).get 3 zct hx;have htk:xs.take (k+1)=xs.take k++ [xs[k]]:=by rw[jC hlt]
 have HT:=Hd htk;have hlk:(l++numI xs.length++(xs.take k).flatMap entB).length<=100000000:=by have h1:=zcd entB xs k;have h2:=HL.o;rw[jH,jH];omega
 have HK:=Hd hlk;clear hx htk tt hlk;generalize xs[k]=x at *;obtain ⟨r0,r1,r2⟩:=rEnt r;have hi0:(0:Int)<=(k:Int):=jw _;have hi1:(k:Int)<(xs.length:Int):=by omega
 clear r;go_wp2_with fail;refine (HW.o _ _ _ (OO.o.alloc _) HK.o).mono ?_;rintro e w2 ⟨v2,rfl,o2,t2⟩;have O2:=Hd o2;have T2:=Hd ((TT.o.alloc _).trans t2);clear o2 t2;go_wp2;refine ⟨⟨k+1,by omega,by go_num,?_,T2.o⟩,by simp[intOf];omega⟩;rw[HT.o];simpa using O2.o
theorem zzu (v sv:Value) (l:zaa) (xs:List Rul) (B:Nat) (w:World) (h:Out w v l) (hB:B<=w.heap.size) (hv:∀k,v.ownBlock=some k->B<=k) (hs:Sls cRul w B sv xs)
 (hg:∀x∈xs,zfu cRul rulB 90 x) (hl:l.length+(zar rulB xs).length<=100000000):
 Calls prog 89 #[v,sv,.func (.func 90) #[] #[]] w λe w'=>∃v',e=.returned v'/\Out w' v' (l++zar rulB xs)/\OutTo w v w' v':=by
 obtain ⟨A,cap,rfl,hc,hm,hr⟩:=id hs;have H:=Hd h;have HS:=Hd hs;have HG:=Hd hg;clear h hs hr hg;unfold maxLen at hm;have n1:=zab xs.length;have hl2:l.length+(numI xs.length).length+(xs.flatMap rulB).length<=100000000:=by simpa [zar,Nat.add_assoc] using hl
 have HL:=Hd hl2;clear hl;go_enter func89,ntmps89;go_wp2_with fail;refine (zb6 _ _ _ _ H.o (by omega)).mono ?_;rintro e w1 ⟨v1,rfl,o1,t1⟩;have O1:=Hd o1;have T1:=Hd t1;clear o1 t1 hl2;go_wp2_with fail;go_loopw [0,15] (λu i wr=>∃k:Nat,k<=xs.length/\i=.int .i64 k/\Out wr u (l++numI xs.length++(xs.take k).flatMap rulB)/\OutTo w v wr u) (λ_ i _=>xs.length-(intOf i).toNat)
 case atStart=>exact ⟨0,by omega,rfl,by simpa using O1.o,T1.o⟩
 obtain ⟨k,hk,rfl,oo,tt⟩:=hrel;have OO:=Hd oo;have TT:=Hd tt;clear oo;by_cases hlt:k<xs.length;rotate_left
 ·go_wp2;go_ret;obtain rfl:k=xs.length:=by omega
  exact ⟨_,rfl,by have:=OO.o;rw[jt] at this;simpa [zar] using this,TT.o⟩
 have hx:xs[k]?=some xs[k]:=jz hlt;have HW:=Hd (HG.o _ (jj hlt));obtain ⟨b,o,rfl,hb,r⟩:=(HS.o.below (tt.old hB hv)).get 7 zdr hx;have htk:xs.take (k+1)=xs.take k++ [xs[k]]:=by rw[jC hlt]
 have HT:=Hd htk;have hlk:(l++numI xs.length++(xs.take k).flatMap rulB).length<=100000000:=by have h1:=zcd rulB xs k;have h2:=HL.o;rw[jH,jH];omega
 have HK:=Hd hlk;clear hx htk tt hlk;generalize xs[k]=x at *;obtain ⟨r0,r1,r2,r3,r4,r5,r6⟩:=rRul r;have hi0:(0:Int)<=(k:Int):=jw _;have hi1:(k:Int)<(xs.length:Int):=by omega
 clear r;go_wp2_with fail;refine (HW.o _ _ _ (OO.o.alloc _) HK.o).mono ?_;rintro e w2 ⟨v2,rfl,o2,t2⟩;have O2:=Hd o2;have T2:=Hd ((TT.o.alloc _).trans t2);clear o2 t2;go_wp2;refine ⟨⟨k+1,by omega,by go_num,?_,T2.o⟩,by simp[intOf];omega⟩;rw[HT.o];simpa using O2.o
theorem zzx (v sv:Value) (l:zaa) (xs:List Grt) (B:Nat) (w:World) (h:Out w v l) (hB:B<=w.heap.size) (hv:∀k,v.ownBlock=some k->B<=k) (hs:Sls cGrt w B sv xs)
 (hg:∀x∈xs,zfu cGrt grtB 94 x) (hl:l.length+(zar grtB xs).length<=100000000):
 Calls prog 93 #[v,sv,.func (.func 94) #[] #[]] w λe w'=>∃v',e=.returned v'/\Out w' v' (l++zar grtB xs)/\OutTo w v w' v':=by
 obtain ⟨A,cap,rfl,hc,hm,hr⟩:=id hs;have H:=Hd h;have HS:=Hd hs;have HG:=Hd hg;clear h hs hr hg;unfold maxLen at hm;have n1:=zab xs.length;have hl2:l.length+(numI xs.length).length+(xs.flatMap grtB).length<=100000000:=by simpa [zar,Nat.add_assoc] using hl
 have HL:=Hd hl2;clear hl;go_enter func93,ntmps93;go_wp2_with fail;refine (zb6 _ _ _ _ H.o (by omega)).mono ?_;rintro e w1 ⟨v1,rfl,o1,t1⟩;have O1:=Hd o1;have T1:=Hd t1;clear o1 t1 hl2;go_wp2_with fail;go_loopw [0,15] (λu i wr=>∃k:Nat,k<=xs.length/\i=.int .i64 k/\Out wr u (l++numI xs.length++(xs.take k).flatMap grtB)/\OutTo w v wr u) (λ_ i _=>xs.length-(intOf i).toNat)
 case atStart=>exact ⟨0,by omega,rfl,by simpa using O1.o,T1.o⟩
 obtain ⟨k,hk,rfl,oo,tt⟩:=hrel;have OO:=Hd oo;have TT:=Hd tt;clear oo;by_cases hlt:k<xs.length;rotate_left
 ·go_wp2;go_ret;obtain rfl:k=xs.length:=by omega
  exact ⟨_,rfl,by have:=OO.o;rw[jt] at this;simpa [zar] using this,TT.o⟩
 have hx:xs[k]?=some xs[k]:=jz hlt;have HW:=Hd (HG.o _ (jj hlt));obtain ⟨b,o,rfl,hb,r⟩:=(HS.o.below (tt.old hB hv)).get 8 zex hx;have htk:xs.take (k+1)=xs.take k++ [xs[k]]:=by rw[jC hlt]
 have HT:=Hd htk;have hlk:(l++numI xs.length++(xs.take k).flatMap grtB).length<=100000000:=by have h1:=zcd grtB xs k;have h2:=HL.o;rw[jH,jH];omega
 have HK:=Hd hlk;clear hx htk tt hlk;generalize xs[k]=x at *;obtain ⟨r0,r1,r2,r3,r4,r5,r6,r7⟩:=rGrt r;have hi0:(0:Int)<=(k:Int):=jw _;have hi1:(k:Int)<(xs.length:Int):=by omega
 clear r;go_wp2_with fail;refine (HW.o _ _ _ (OO.o.alloc _) HK.o).mono ?_;rintro e w2 ⟨v2,rfl,o2,t2⟩;have O2:=Hd o2;have T2:=Hd ((TT.o.alloc _).trans t2);clear o2 t2;go_wp2;refine ⟨⟨k+1,by omega,by go_num,?_,T2.o⟩,by simp[intOf];omega⟩;rw[HT.o];simpa using O2.o
theorem zzy (v sv:Value) (l:zaa) (xs:List Evt) (B:Nat) (w:World) (h:Out w v l) (hB:B<=w.heap.size) (hv:∀k,v.ownBlock=some k->B<=k) (hs:Sls cEvt w B sv xs)
 (hg:∀x∈xs,zfu cEvt evtB 99 x) (hl:l.length+(zar evtB xs).length<=100000000):
 Calls prog 98 #[v,sv,.func (.func 99) #[] #[]] w λe w'=>∃v',e=.returned v'/\Out w' v' (l++zar evtB xs)/\OutTo w v w' v':=by
 obtain ⟨A,cap,rfl,hc,hm,hr⟩:=id hs;have H:=Hd h;have HS:=Hd hs;have HG:=Hd hg;clear h hs hr hg;unfold maxLen at hm;have n1:=zab xs.length;have hl2:l.length+(numI xs.length).length+(xs.flatMap evtB).length<=100000000:=by simpa [zar,Nat.add_assoc] using hl
 have HL:=Hd hl2;clear hl;go_enter func98,ntmps98;go_wp2_with fail;refine (zb6 _ _ _ _ H.o (by omega)).mono ?_;rintro e w1 ⟨v1,rfl,o1,t1⟩;have O1:=Hd o1;have T1:=Hd t1;clear o1 t1 hl2;go_wp2_with fail;go_loopw [0,15] (λu i wr=>∃k:Nat,k<=xs.length/\i=.int .i64 k/\Out wr u (l++numI xs.length++(xs.take k).flatMap evtB)/\OutTo w v wr u) (λ_ i _=>xs.length-(intOf i).toNat)
 case atStart=>exact ⟨0,by omega,rfl,by simpa using O1.o,T1.o⟩
 obtain ⟨k,hk,rfl,oo,tt⟩:=hrel;have OO:=Hd oo;have TT:=Hd tt;clear oo;by_cases hlt:k<xs.length;rotate_left
 ·go_wp2;go_ret;obtain rfl:k=xs.length:=by omega
  exact ⟨_,rfl,by have:=OO.o;rw[jt] at this;simpa [zar] using this,TT.o⟩
 have hx:xs[k]?=some xs[k]:=jz hlt;have HW:=Hd (HG.o _ (jj hlt));obtain ⟨b,o,rfl,hb,r⟩:=(HS.o.below (tt.old hB hv)).get 9 zdt hx;have htk:xs.take (k+1)=xs.take k++ [xs[k]]:=by rw[jC hlt]
 have HT:=Hd htk;have hlk:(l++numI xs.length++(xs.take k).flatMap evtB).length<=100000000:=by have h1:=zcd evtB xs k;have h2:=HL.o;rw[jH,jH];omega
 have HK:=Hd hlk;clear hx htk tt hlk;generalize xs[k]=x at *;obtain ⟨r0,r1,r2,r3,r4,r5,r6,r7,r8⟩:=rEvt r;have hi0:(0:Int)<=(k:Int):=jw _;have hi1:(k:Int)<(xs.length:Int):=by omega
 clear r;go_wp2_with fail;refine (HW.o _ _ _ (OO.o.alloc _) HK.o).mono ?_;rintro e w2 ⟨v2,rfl,o2,t2⟩;have O2:=Hd o2;have T2:=Hd ((TT.o.alloc _).trans t2);clear o2 t2;go_wp2;refine ⟨⟨k+1,by omega,by go_num,?_,T2.o⟩,by simp[intOf];omega⟩;rw[HT.o];simpa using O2.o
theorem zzv (v sv:Value) (l:zaa) (xs:List Rls) (B:Nat) (w:World) (h:Out w v l) (hB:B<=w.heap.size) (hv:∀k,v.ownBlock=some k->B<=k) (hs:Sls cRls w B sv xs)
 (hg:∀x∈xs,zfu cRls rlsB 101 x) (hl:l.length+(zar rlsB xs).length<=100000000):
 Calls prog 100 #[v,sv,.func (.func 101) #[] #[]] w λe w'=>∃v',e=.returned v'/\Out w' v' (l++zar rlsB xs)/\OutTo w v w' v':=by
 obtain ⟨A,cap,rfl,hc,hm,hr⟩:=id hs;have H:=Hd h;have HS:=Hd hs;have HG:=Hd hg;clear h hs hr hg;unfold maxLen at hm;have n1:=zab xs.length;have hl2:l.length+(numI xs.length).length+(xs.flatMap rlsB).length<=100000000:=by simpa [zar,Nat.add_assoc] using hl
 have HL:=Hd hl2;clear hl;go_enter func100,ntmps100;go_wp2_with fail;refine (zb6 _ _ _ _ H.o (by omega)).mono ?_;rintro e w1 ⟨v1,rfl,o1,t1⟩;have O1:=Hd o1;have T1:=Hd t1;clear o1 t1 hl2;go_wp2_with fail;go_loopw [0,15] (λu i wr=>∃k:Nat,k<=xs.length/\i=.int .i64 k/\Out wr u (l++numI xs.length++(xs.take k).flatMap rlsB)/\OutTo w v wr u) (λ_ i _=>xs.length-(intOf i).toNat)
 case atStart=>exact ⟨0,by omega,rfl,by simpa using O1.o,T1.o⟩
 obtain ⟨k,hk,rfl,oo,tt⟩:=hrel;have OO:=Hd oo;have TT:=Hd tt;clear oo;by_cases hlt:k<xs.length;rotate_left
 ·go_wp2;go_ret;obtain rfl:k=xs.length:=by omega
  exact ⟨_,rfl,by have:=OO.o;rw[jt] at this;simpa [zar] using this,TT.o⟩
 have hx:xs[k]?=some xs[k]:=jz hlt;have HW:=Hd (HG.o _ (jj hlt));obtain ⟨b,o,rfl,hb,r⟩:=(HS.o.below (tt.old hB hv)).get 11 zds hx;have htk:xs.take (k+1)=xs.take k++ [xs[k]]:=by rw[jC hlt]
 have HT:=Hd htk;have hlk:(l++numI xs.length++(xs.take k).flatMap rlsB).length<=100000000:=by have h1:=zcd rlsB xs k;have h2:=HL.o;rw[jH,jH];omega
 have HK:=Hd hlk;clear hx htk tt hlk;generalize xs[k]=x at *;obtain ⟨r0,r1,r2,r3,r4,r5,r6,r7,r8,r9,r10⟩:=rRls r;have hi0:(0:Int)<=(k:Int):=jw _;have hi1:(k:Int)<(xs.length:Int):=by omega
 clear r;go_wp2_with fail;refine (HW.o _ _ _ (OO.o.alloc _) HK.o).mono ?_;rintro e w2 ⟨v2,rfl,o2,t2⟩;have O2:=Hd o2;have T2:=Hd ((TT.o.alloc _).trans t2);clear o2 t2;go_wp2;refine ⟨⟨k+1,by omega,by go_num,?_,T2.o⟩,by simp[intOf];omega⟩;rw[HT.o];simpa using O2.o
theorem zzw (v sv:Value) (l:zaa) (xs:List Opr) (B:Nat) (w:World) (h:Out w v l) (hB:B<=w.heap.size) (hv:∀k,v.ownBlock=some k->B<=k) (hs:Sls cOpr w B sv xs)
 (hg:∀x∈xs,zfu cOpr oprB 103 x) (hl:l.length+(zar oprB xs).length<=100000000):
 Calls prog 102 #[v,sv,.func (.func 103) #[] #[]] w λe w'=>∃v',e=.returned v'/\Out w' v' (l++zar oprB xs)/\OutTo w v w' v':=by
 obtain ⟨A,cap,rfl,hc,hm,hr⟩:=id hs;have H:=Hd h;have HS:=Hd hs;have HG:=Hd hg;clear h hs hr hg;unfold maxLen at hm;have n1:=zab xs.length;have hl2:l.length+(numI xs.length).length+(xs.flatMap oprB).length<=100000000:=by simpa [zar,Nat.add_assoc] using hl
 have HL:=Hd hl2;clear hl;go_enter func102,ntmps102;go_wp2_with fail;refine (zb6 _ _ _ _ H.o (by omega)).mono ?_;rintro e w1 ⟨v1,rfl,o1,t1⟩;have O1:=Hd o1;have T1:=Hd t1;clear o1 t1 hl2;go_wp2_with fail;go_loopw [0,15] (λu i wr=>∃k:Nat,k<=xs.length/\i=.int .i64 k/\Out wr u (l++numI xs.length++(xs.take k).flatMap oprB)/\OutTo w v wr u) (λ_ i _=>xs.length-(intOf i).toNat)
 case atStart=>exact ⟨0,by omega,rfl,by simpa using O1.o,T1.o⟩
 obtain ⟨k,hk,rfl,oo,tt⟩:=hrel;have OO:=Hd oo;have TT:=Hd tt;clear oo;by_cases hlt:k<xs.length;rotate_left
 ·go_wp2;go_ret;obtain rfl:k=xs.length:=by omega
  exact ⟨_,rfl,by have:=OO.o;rw[jt] at this;simpa [zar] using this,TT.o⟩
 have hx:xs[k]?=some xs[k]:=jz hlt;have HW:=Hd (HG.o _ (jj hlt));obtain ⟨b,o,rfl,hb,r⟩:=(HS.o.below (tt.old hB hv)).get 13 zgo hx;have htk:xs.take (k+1)=xs.take k++ [xs[k]]:=by rw[jC hlt]
 have HT:=Hd htk;have hlk:(l++numI xs.length++(xs.take k).flatMap oprB).length<=100000000:=by have h1:=zcd oprB xs k;have h2:=HL.o;rw[jH,jH];omega
 have HK:=Hd hlk;clear hx htk tt hlk;generalize xs[k]=x at *;obtain ⟨r0,r1,r2,r3,r4,r5,r6,r7,r8,r9,r10,r11,r12⟩:=rOpr r;have hi0:(0:Int)<=(k:Int):=jw _;have hi1:(k:Int)<(xs.length:Int):=by omega
 clear r;go_wp2_with fail;refine (HW.o _ _ _ (OO.o.alloc _) HK.o).mono ?_;rintro e w2 ⟨v2,rfl,o2,t2⟩;have O2:=Hd o2;have T2:=Hd ((TT.o.alloc _).trans t2);clear o2 t2;go_wp2;refine ⟨⟨k+1,by omega,by go_num,?_,T2.o⟩,by simp[intOf];omega⟩;rw[HT.o];simpa using O2.o
abbrev vScp (s:Scp) (e r g l x o:Value):Value:=.agg #[s.book.users,e,r,g,l,x,s.book.step,o]
structure RdScp (w:World) (B:Nat) (s:Scp) (e r g l x o:Value):Prop where
 book:RdBok w B s.book e r g l x
 ops:Sls cOpr w B o s.ops
theorem RdScp.below (h:RdScp w B s e r g l x o) (hb:Below B w w'):RdScp w' B s e r g l x o:=⟨h.book.below hb,h.ops.below hb⟩
theorem z1y:b=c↔b.book=c.book/\b.ops=c.ops:=by
 obtain ⟨b1,b2⟩:=b;obtain ⟨c1,c2⟩:=c;simp only[Scp.mk.injEq]
theorem zik (b c:Scp) (e r g l x o e' r' g' l' x' o':Value) (B:Nat) (w:World) (hB:B<=w.heap.size) (hb:RdScp w B b e r g l x o) (hc:RdScp w B c e' r' g' l' x' o'):
 Calls prog 16 #[vScp b e r g l x o,vScp c e' r' g' l' x' o'] w λe w'=>e=.returned (.bool (decide (b=c)))/\Below w w w':=by
 have HB:=Hd hb;have HC:=Hd hc;clear hb hc;have H:=Hd (@z1y b c);go_enter func16,ntmps16;go_wp2_with fail;refine (zkh b.book c.book e r g l x e' r' g' l' x' B _ (by simp;omega) (HB.o.book.below (Below.mono (B:=w.heap.size) (by go_grown) hB)) (HC.o.book.below (Below.mono (B:=w.heap.size) (by go_grown) hB))).mono ?_;rintro e w1 ⟨rfl,hb1⟩;have hz1:=hb1.size
 try simp at hz1
 have hB1:Below w w w1:=nxt hb1;obtain ⟨hc1_0,hl1_0,hm1_0,hn1_0,ho1_0,hf1_0⟩:=oldB (g:=w) hb1;obtain ⟨hc1_1,hl1_1,hm1_1,hn1_1,ho1_1,hf1_1⟩:=oldB (g:=w.heap.size+1) hb1;by_cases p1:b.book=c.book;rotate_left
 ·rw[jA p1];go_wp2;go_ret;exact ⟨zc6 (jA (λh=>p1 (H.o.1 h).1)).symm,by go_grown⟩
 rw[jB p1];have P1:=Hd p1;clear p1;go_wp2_with fail;refine (zme _ _ _ _ B B _ (HB.o.ops.below (Below.mono (B:=w.heap.size) (by go_grown) hB)) (HC.o.ops.below (Below.mono (B:=w.heap.size) (by go_grown) hB))).mono ?_;rintro e w2 ⟨rfl,hs2⟩;have hc2:=hs2.cell;have hz2:w2.heap.size=_:=congrArg Array.size hs2.heap;have hB2:Below w w w2:=Below.trans (by go_grown) (hs2.below _);clear hz2;by_cases p2:b.ops=c.ops
 ·rw[jB p2];go_wp2;go_ret;exact ⟨zc6 (jB (H.o.2 ⟨P1.o,p2⟩)).symm,by go_grown⟩
 rw[jA p2];go_wp2;go_ret;exact ⟨zc6 (jA (λh=>p2 (H.o.1 h).2)).symm,by go_grown⟩
def unqP:zaa->Option (zaa × Nat)
 | []=>none
 | [c]=>if c=34 then some ([],1) else none
 | c::d::t=>if c=34 then (if d=34 then (unqP t).map (λr=>(34::r.1,r.2+2)) else some ([],1)) else (unqP (d::t)).map (λr=>(c::r.1,r.2+1))
theorem zx7 (s:zaa) (k:Nat) (c:UInt8) (t:zaa) (h:s.drop k=c::t):k<s.length/\ub s k=c.toNat/\s.drop (k+1)=t:=by
 have hl:k<s.length:=by have:=congrArg List.length h;simp at this;omega
 refine ⟨hl,?_,?_⟩
 ·unfold ub;rw[jL,<- List.head?_drop,h];rfl
 rw[<- List.drop_drop,h];rfl
theorem zmo (s:zaa):∀(n k f:Nat),s.length-k<=n->s.length-k<f->endQ s f k=(unqP (s.drop k)).map (λr=>k+r.2-1)/\(∀r,unqP (s.drop k)=some r->1<=r.2/\k+r.2<=s.length)
 | n,k,0,_,hf=>by omega
 | 0,k,f+1,hn,_=>by
  have e:s.drop k=[]:=jm (by omega);rw[e];unfold endQ;rw[jT];exact ⟨rfl,λr h=>by cases h⟩
 | n+1,k,f+1,hn,hf=>by
  by_cases hk:s.length<=k
  ·have e:s.drop k=[]:=jm hk;rw[e];unfold endQ;rw[jb hk];exact ⟨rfl,λr h=>by cases h⟩
  obtain ⟨c,t,hct⟩:∃c t,s.drop k=c::t:=by
   cases h:s.drop k with
   | nil=>have:=congrArg List.length h;simp at this;omega
   | cons c t=>exact ⟨c,t,rfl⟩
  obtain ⟨h1,h2,h3⟩:=zx7 s k c t hct;unfold endQ;rw[ja hk,h2];by_cases h34:c.toNat=34
  ·have e34:c=34:=UInt8.toNat_inj.1 (by simpa using h34);rw[ja (by simpa using h34)]
   cases t with
   | nil=>
    have hl:s.length=k+1:=by have:=congrArg List.length hct;simp at this;omega
    rw[jS,hct,e34];exact ⟨rfl,λr h=>by simp[unqP] at h;rw[<- h];simp;omega⟩
   | cons d t=>
    obtain ⟨g1,g2,g3⟩:=zx7 s (k+1) d t h3;by_cases d34:d.toNat=34
    ·have f34:d=34:=UInt8.toNat_inj.1 (by simpa using d34);rw[jb ⟨g1,by rw[g2];exact d34⟩];obtain ⟨i1,i2⟩:=zmo s n (k+2) f (by omega) (by omega);rw[i1,hct,show s.drop (k+2)=t from g3,e34,f34];rw[show s.drop (k+2)=t from g3] at i2;have eq:unqP (34::34::t)=(unqP t).map (λr=>(34::r.1,r.2+2)):=by simp[unqP]
     rw[eq]
     cases hq:unqP t with
     | none=>exact ⟨rfl,λr h=>by cases h⟩
     | some r=>
      have:=i2 r hq;refine ⟨?_,λr' h=>?_⟩
      ·simp only[Option.map_some,jl];omega
      simp only[Option.map_some,jl] at h;rw[<- h];exact ⟨by simp,by simp;omega⟩
    have f34:¬d=34:=λq=>d34 (by rw[q];rfl);rw[ja (by rw[g2];exact λq=>d34 q.2),hct,e34];have eq:unqP (34::d::t)=some ([],1):=by simp[unqP,f34]
    rw[eq];exact ⟨rfl,λr h=>by simp at h;rw[<- h];simp;omega⟩
  have e34:¬c=34:=λq=>h34 (by rw[q];rfl);rw[jb h34];obtain ⟨i1,i2⟩:=zmo s n (k+1) f (by omega) (by omega);rw[h3] at i1 i2;rw[i1,hct]
  cases t with
  | nil=>
   have eq:unqP [c]=none:=by simp[unqP,e34]
   rw[eq];exact ⟨rfl,λr h=>by cases h⟩
  | cons d t=>
   have eq:unqP (c::d::t)=(unqP (d::t)).map (λr=>(c::r.1,r.2+1)):=by simp[unqP,e34]
   rw[eq]
   cases hq:unqP (d::t) with
   | none=>exact ⟨rfl,λr h=>by cases h⟩
   | some r=>
    have:=i2 r hq;refine ⟨?_,λr' h=>?_⟩
    ·simp only[Option.map_some,jl];omega
    simp only[Option.map_some,jl] at h;rw[<- h];exact ⟨by simp,by simp;omega⟩
theorem zlk:∀(n:Nat) (s:zaa) (r:zaa × Nat),s.length<=n->unqP s=some r->1<=r.2/\r.2<=s.length/\unqL (s.take (r.2-1))=some r.1/\r.1.length<=r.2-1/\(s.drop (r.2-1)).head?=some 34
 | _,[],r,_,h=>by cases h
 | _,[c],r,_,h=>by
  by_cases e:c=34
  ·simp only[unqP,e,if_true,jl] at h;rw[<- h,e];exact ⟨by simp,by simp,rfl,by simp,rfl⟩
  simp[unqP,e] at h
 | 0,_::_::_,_,hn,_=>by simp at hn
 | n+1,c::d::t,r,hn,h=>by
  simp only[jk] at hn;by_cases e:c=34
  ·by_cases f:d=34
   ·have eq:unqP (c::d::t)=(unqP t).map (λr=>(34::r.1,r.2+2)):=by simp[unqP,e,f]
    rw[eq] at h;obtain ⟨q,hq,rfl⟩:=Option.map_eq_some_iff.1 h;obtain ⟨i1,i2,i3,i4,i5⟩:=zlk n t q (by omega) hq;obtain ⟨m,hm⟩:∃m,q.2=m+1:=⟨q.2-1,by omega⟩;rw[hm] at i2 i3 i4 i5;rw[hm,e,f];refine ⟨by simp,by simp;omega,?_,by simp at i4 ⊢;omega,?_⟩
    ·have e2:(34::34::t).take (m+1+2-1)=34::34::t.take m:=by rw[show m+1+2-1=m+2 by omega];rfl
     have e3:t.take (m+1-1)=t.take m:=by rw[Nat.add_sub_cancel]
     rw[e3] at i3;rw[e2,unqL];simp[i3]
    rw[show m+1+2-1=m+2 by omega];rw[Nat.add_sub_cancel] at i5;exact i5
   have eq:unqP (c::d::t)=some ([],1):=by simp[unqP,e,f]
   rw[eq] at h;simp only[jl] at h;rw[<- h,e];exact ⟨by simp,by simp,rfl,by simp,rfl⟩
  have eq:unqP (c::d::t)=(unqP (d::t)).map (λr=>(c::r.1,r.2+1)):=by simp[unqP,e]
  rw[eq] at h;obtain ⟨q,hq,rfl⟩:=Option.map_eq_some_iff.1 h;obtain ⟨i1,i2,i3,i4,i5⟩:=zlk n (d::t) q (by simp;omega) hq;obtain ⟨m,hm⟩:∃m,q.2=m+1:=⟨q.2-1,by omega⟩;rw[hm] at i2 i3 i4 i5;rw[hm];refine ⟨by simp,by simp at i2 ⊢;omega,?_,by simp at i4 ⊢;omega,?_⟩
  ·rw[Nat.add_sub_cancel] at i3 i4;rw[show m+1+1-1=m+1 by omega,jr]
   cases m with
   | zero=>simp only[List.take_zero] at i3 ⊢;simp only[unqL,jl] at i3;rw[<- i3];simp[unqL,e]
   | succ m=>rw[jr] at i3 ⊢;rw[unqL,ja e,i3];rfl
  rw[show m+1+1-1=m+1 by omega];rw[Nat.add_sub_cancel] at i5;exact i5
def zfy (s:zaa) (i:Nat):Tok × Nat:=match unqP (s.drop (i+1)) with
 | none=>(tok0,0)
 | some r=>(⟨2,0,r.1,z4,i⟩,r.2+1)
theorem z2t {s t:zaa} (h:pltB s=true) (hs:∀c∈t,c∈s):pltB t=true:=by
 unfold pltB at *;rw[List.all_eq_true] at *;exact λc hc=>h c (hs c hc)
theorem zyc (s:zaa) (i:Nat) (hl:s.length<=256) (hp:pltB s=true) (h:ub s i=34):zdk s i=zfy s i:=by
 unfold zdk zfy;rw[ja (by rw[h];decide)];have hi:i<s.length:=by rw[<- Nat.not_le];intro q;unfold ub at h;rw[jL,List.getElem?_eq_none q] at h;simp at h
 obtain ⟨h1,h2⟩:=zmo s s.length (i+1) s.length (by omega) (by omega);rw[h1]
 cases hq:unqP (s.drop (i+1)) with
 | none=>rfl
 | some r=>
  obtain ⟨j1,j2,j3,j4,j5⟩:=zlk _ _ r jy hq;simp only[Option.map_some];rw[jp] at j2;obtain ⟨m,hm⟩:∃m,r.2=m+1:=⟨r.2-1,by omega⟩;rw[hm,Nat.add_sub_cancel] at j3 j4 j5;rw[hm];rw[hm] at j2;have e0:i+1+(m+1)-1+1-i=m+2:=by omega
  rw[e0];have hd:s.drop i=34::s.drop (i+1):=by
   rw[jo hi]
   congr 1
   unfold ub at h;rw[jL,jz hi] at h;simp only[Option.getD_some] at h;exact UInt8.toNat_inj.1 (by simpa using h)
  have hbody:(s.drop i).take (m+2)=34::((s.drop (i+1)).take m++ [34]):=by rw[hd,jr,List.take_add_one,<- List.head?_drop,j5];rfl
  rw[hbody];have hlen:((s.drop (i+1)).take m).length=m:=by rw[List.length_take,jp];omega
  have hun:unqB (34::((s.drop (i+1)).take m++ [34]))=(r.1,0):=by
   have hpl:pltB (34::((s.drop (i+1)).take m++ [34]))=true:=by rw[<- hbody];exact z2t hp (λc hc=>List.mem_of_mem_drop (List.mem_of_mem_take hc))
   have k1:(34::((s.drop (i+1)).take m++ [34])).length=m+2:=by simp[hlen]
   have k2:ub (34::((s.drop (i+1)).take m++ [34])) 0=34:=rfl;have k3:ub (34::((s.drop (i+1)).take m++ [34])) (m+1)=34:=by unfold ub;rw[jL,List.getElem?_cons_succ,List.getElem?_append_right (by omega),hlen];simp
   have k4:((34::((s.drop (i+1)).take m++ [34])).drop 1).take m=(s.drop (i+1)).take m:=by rw[List.drop_succ_cons,List.drop_zero,List.take_append_of_le_length (by omega),jK (by omega)]
   unfold unqB;rw[k1,k2,show m+2-1=m+1 by omega,k3,hpl,show m+2-2=m by omega,k4,j3,ja (by simp)];simp only;rw[jS]
  rw[hun];simp
end Go.Proofs.YtamcgggmfghljaaGreatDoor
