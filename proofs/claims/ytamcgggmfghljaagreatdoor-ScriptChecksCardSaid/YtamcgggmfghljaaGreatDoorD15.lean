/- Layer 41: an operation's mask, bit by bit; bytes behind bytes. -/
import Derived.Laws.BitsLemmas
import Derived.Test.YtamcgggmfghljaaGreatDoorD11
set_option maxRecDepth 100000
set_option maxHeartbeats 8000000
open Go.Proofs.Tryz
namespace Go.Proofs.YtamcgggmfghljaaGreatDoor
open Go.RowKit
@[go_sem] theorem zwy {P:Program} {w:World} {a:Addr} {m:Mode} (f:Fn) (x y:Array Value):(store a (.func f x y) m).run P w=stored P w a (.func f x y) m:=run_store P w a _ m rfl
theorem zwp (m:Int) (i:Nat) (hi:i≤10) (h0:0≤m) (h1:m<2 ^ i):bits .or .i64 m (2 ^ i)=m+2 ^ i:=by
 have hk:∀n:Int,0≤n→n<2 ^ 12→IntKind.i64.wrap n=n:=fun n h₀ h₁=>by rw [IntKind.wrap_i64];omega
 have hp:(2:Int) ^ i<2 ^ 12:=by
  have:i=0∨i=1∨i=2∨i=3∨i=4∨i=5∨i=6∨i=7∨i=8∨i=9∨i=10:=by omega
  rcases this with rfl | rfl | rfl | rfl | rfl | rfl | rfl | rfl | rfl | rfl | rfl <;> decide
 have hp0:(0:Int)≤2 ^ i:=Int.le_of_lt (Int.pow_pos (by decide))
 have hc:bits .or .i64 m (2 ^ i)=bits .or .i64 (2 ^ i) m:=by
  obtain ⟨a,rfl⟩:=Int.eq_ofNat_of_zero_le h0
  have ha:a<2 ^ 12:=by
   have:((a:Nat):Int)<2 ^ 12:=by omega
   exact_mod_cast this
  have hb:2 ^ i<2 ^ 12:=by exact_mod_cast hp
  have e:((2:Int) ^ i)=((2 ^ i:Nat):Int):=by simp
  rw [e,(bits_nat .i64 12 (by decide) hk a _ ha hb).2,(bits_nat .i64 12 (by decide) hk _ a hb ha).2,Nat.or_comm]
 rw [hc,bits_join .i64 12 (by decide) hk i _ m hp0 (Int.emod_self) hp h0 h1 (by omega)]
 omega
theorem ze2:∀(l:List (Bool × zaa)) (k:Nat) (b:Bool) (s:zaa),l[k]?=some (b,s)→zc9 (l.take (k+1))=zc9 (l.take k)+if b then 2 ^ k else 0
 | [],k,b,s,h=>by simp at h
 | (c,t)::l,0,b,s,h=>by
  simp at h
  obtain ⟨rfl,rfl⟩:=h
  cases c <;> simp [zc9]
 | (c,t)::l,k+1,b,s,h=>by
  have ih:=ze2 l k b s (by simpa using h)
  rw [List.take_succ_cons,List.take_succ_cons]
  simp only [zc9]
  rw [ih]
  cases b
  ·simp
  simp only [if_true]
  rw [Int.pow_succ]
  omega
theorem zjw:∀l:List (Bool × zaa),0≤zc9 l∧zc9 l<2 ^ l.length
 | []=>by simp [zc9]
 | (c,t)::l=>by
  have ih:=zjw l
  simp only [zc9,List.length_cons]
  rw [Int.pow_succ]
  cases c <;> simp <;> omega
def mkN (x:Opr) (k:Nat):Int:=zc9 ((oprF x).take k)
def mkS (x:Opr) (k:Nat):zaa:=((oprF x).take k).flatMap fun p=>if p.1 then p.2 else []
theorem zcq (x:Opr) (k:Nat) (s:zaa) (hk:k≤10) (h:(oprF x)[k]?=some (true,s)):bits .or .i64 (mkN x k) (2 ^ k)=mkN x (k+1)∧mkS x (k+1)=mkS x k++s:=by
 have hl:k<(oprF x).length:=(List.getElem?_eq_some_iff.1 h).1
 refine ⟨?_,?_⟩
 ·have hb:=zjw ((oprF x).take k)
  rw [List.length_take,Nat.min_eq_left (by omega)] at hb
  unfold mkN
  rw [zwp _ _ hk hb.1 hb.2,ze2 _ _ _ _ h,if_pos rfl]
 unfold mkS
 rw [List.take_add_one,h]
 simp
theorem zb0 (x:Opr) (k:Nat) (s:zaa) (h:(oprF x)[k]?=some (false,s)):mkN x (k+1)=mkN x k∧mkS x (k+1)=mkS x k:=by
 refine ⟨?_,?_⟩
 ·unfold mkN
  rw [ze2 _ _ _ _ h]
  simp
 unfold mkS
 rw [List.take_add_one,h]
 simp
theorem zfs (x:Opr) (hi:x.input.length≤1000000) (k:Nat):(mkS x k).length≤2000000:=by
 have n1:=zab x.user
 have n2:=zab x.rect.c1
 have n3:=zab x.rect.r1
 have n4:=zab x.rect.c2
 have n5:=zab x.rect.r2
 have n6:=zab x.input.length
 have n7:=zab x.rights.rd
 have n8:=zab x.rights.wr
 have n9:=zab x.rights.ow
 have n10:=zab x.fns
 have n11:=zab x.to_
 have n12:=zab x.index
 have hq:∀(l:List (Bool × zaa)) (k:Nat),((l.take k).flatMap fun p=>if p.1 then p.2 else []).length≤(l.map fun p=>p.2.length).sum:=by
  intro l
  induction l with
  | nil=>intro k;simp
  | cons p l ih=>
   intro k
   rcases k with _ | k
   ·simp
   have:=ih k
   obtain ⟨b,s⟩:=p
   rw [List.take_succ_cons,List.flatMap_cons,List.length_append,List.map_cons,List.sum_cons]
   cases b <;> simp at this ⊢<;> omega
 have:=hq (oprF x) k
 unfold mkS
 simp only [oprF,za7,zcy,zcb,List.map_cons,List.map_nil,List.length_append,List.sum_cons,List.sum_nil] at this
 unfold oprF
 simp only [za7,zcy,zcb]
 omega
theorem Out.chg {S:Nat→Prop} {w w':World} {v:Value} {l:zaa} (h:Out w v l) (hb:Chg S w w') (hv:∀q,v.ownBlock=some q→¬S q):Out w' v l:=by
 rcases hq:v.ownBlock with _ | q
 ·rcases h.2 with ⟨rfl,he⟩ | ⟨g,cap,cur,rfl,_⟩
  ·exact ⟨h.1,.inl ⟨rfl,he⟩⟩
  simp [Value.ownBlock] at hq
 obtain ⟨h1,h2⟩:=h
 refine ⟨h1,?_⟩
 rcases h2 with ⟨rfl,he⟩ | ⟨g,cap,cur,rfl,hb0,hg,hr⟩
 ·exact .inl ⟨rfl,he⟩
 have e1:g=q:=by simpa [Value.ownBlock] using hq
 have hlt:g<w.heap.size:=(World.ownsRow.lt (v:=.slice (some ⟨g,0,none⟩) l.length cap) ⟨h1,.inr ⟨g,cap,cur,rfl,hb0,hg,hr⟩⟩ g rfl).2
 exact .inr ⟨g,cap,cur,rfl,hb0,(hb.block g hlt (hv g (by simp [Value.ownBlock]))).trans hg,hr⟩
theorem Out.outTo {w w':World} {v u u':Value} {l:zaa} (h:Out w v l) (hb:OutTo w u w' u') (hv:∀q,v.ownBlock=some q→u.ownBlock≠some q):Out w' v l:=h.chg hb.chg hv
theorem zt6 (w:World) (t ty:TypeId) (i:TypeInfo) (ht:prog.underlying t=some (.slice 5)) (hi:prog.info? 5=some i) (hz:i.zero=some (.int .u8 0)) (hsize:i.size=1) (hby:i.bytes=1)
 (v:Value) (l:zaa) (hown:Out w v l) (v2:Value) (l2:zaa) (h2:Out w v2 l2) (hn:l.length+l2.length≤1000000000):
 ∃v' w',(Builtin.append_ #[t,t] ty #[v,v2]).run prog w=.ok v' w'∧Out w' v' (l++l2)∧OutTo w v w' v':=by
 rcases h2.2 with ⟨rfl,he⟩ | ⟨g,cp,cur,rfl,hb0,hg,hnc,hcm,hcs,htake⟩
 ·have h0:l2=[]:=List.eq_nil_of_length_eq_zero he
  subst h0
  rw [List.append_nil]
  refine ⟨v,w,?_,hown,OutTo.refl _ _⟩
  rcases hown.2 with ⟨rfl,he⟩ | ⟨g,cp,cur,rfl,hb0,hg,hnc,hcm,hcs,htake⟩
  ·simp [Builtin.append_,run_underlying ht,sizeOf,typeInfo,hi,Builtin.lenOf,Builtin.firstCells]
  simp [Builtin.append_,run_underlying ht,sizeOf,typeInfo,hi,Builtin.lenOf,Builtin.firstCells,hnc,storeCells]
 obtain ⟨v',w',hr,k2,h3,_,h5⟩:=run_append_own_at (P:=prog) w 0 t ty 5 i (.int .u8 0) 1 1 ht hi hz hsize hby rfl (by omega) v l.length (u8s l) hown ⟨g,0,none⟩ l2.length cp (u8s l2) (by rw [zqj];omega)
  (fun j u hj=>World.ownsRow.cells h2 (g:=g) rfl j u hj)
  (zxo l2) (by unfold maxLen;omega) (by omega) (by omega)
 refine ⟨v',w',hr,?_,⟨⟨h3.os,h3.tape,h3.output,h3.size,fun k hk hs=>h3.block k hk (fun e=>hs e.symm)⟩,fun k hk=>?_⟩⟩
 ·show w'.ownsRow 0 5 1 v' (l++l2).length (u8s (l++l2))
  rw [List.length_append,zl3]
  exact k2
 rcases h5 with h5 | h5
 ·exact .inl (h5▸hk)
 rw [h5] at hk
 exact .inr (by simp at hk;omega)
structure WrAt (W:World) (p:Nat) (v:Value) (l:zaa):Prop where
 bx:Blk W p 65 #[v]
 ow:Out W v l
 ob:∀k,v.ownBlock=some k→p<k
structure WTo (p:Nat) (W:World) (ov:Value) (W':World) (ov':Value):Prop where
 chg:Chg (fun k=>k=p∨ov.ownBlock=some k) W W'
 own:∀k,ov'.ownBlock=some k→ov.ownBlock=some k∨W.heap.size≤k
section
variable {W W1 W2:World} {p:Nat} {ov ov1 ov2:Value}
theorem WTo.refl (p:Nat) (W:World) (ov:Value):WTo p W ov W ov:=⟨Chg.refl _ _,fun _ h=>.inl h⟩
theorem WTo.trans (h:WTo p W ov W1 ov1) (k:WTo p W1 ov1 W2 ov2):WTo p W ov W2 ov2:=by
 refine ⟨⟨k.chg.os.trans h.chg.os,k.chg.tape.trans h.chg.tape,k.chg.output.trans h.chg.output,Nat.le_trans h.chg.size k.chg.size,fun i hi hs=>?_⟩,fun i hi=>?_⟩
 ·refine (k.chg.block i (Nat.lt_of_lt_of_le hi h.chg.size) fun e=>?_).trans (h.chg.block i hi hs)
  rcases e with e | e
  ·exact hs (.inl e)
  rcases h.own i e with e | e
  ·exact hs (.inr e)
  omega
 rcases k.own i hi with e | e
 ·rcases h.own i e with e | e
  ·exact .inl e
  exact .inr e
 exact .inr (Nat.le_trans h.chg.size e)
theorem WTo.below (h:WTo p W ov W1 ov1) (k:Below W1.heap.size W1 W2):WTo p W ov W2 ov1:=⟨h.chg.below k,h.own⟩
theorem WTo.old (h:WTo p W ov W1 ov1) (hp:p≤W.heap.size) (ho:∀k,ov.ownBlock=some k→p<k):Below p W W1:=
 h.chg.to_below hp fun k hk e=>by
  rcases e with e | e
  ·omega
  have:=ho k e;omega
theorem WTo.blk {t:TypeId} {cs:Array Value} {g:Nat} (h:WTo p W ov W1 ov1) (hb:Blk W g t cs) (h1:g≠p) (h2:ov.ownBlock≠some g):Blk W1 g t cs:=
 hb.chg h.chg (by intro e;rcases e with e | e;exact h1 e;exact h2 e)
end
section
variable {W W1 W2:World} {p:Nat} {v v1:Value} {l l1:zaa}
theorem WrAt.lt (h:WrAt W p v l):p<W.heap.size:=h.bx.lt
theorem WrAt.below (h:WrAt W p v l) (k:Below W.heap.size W W1):WrAt W1 p v l:=⟨h.bx.below_ k,h.ow.below k,h.ob⟩
theorem WrAt.ne (h:WrAt W p v l):v.ownBlock≠some p:=fun e=>by have:=h.ob p e;omega
theorem WrAt.put (h:WrAt W p v l) (o1:Out W1 v1 l1) (t1:OutTo W v W1 v1):WrAt (W1.setCell ⟨p,0,none⟩ v1) p v1 l1∧WTo p W v (W1.setCell ⟨p,0,none⟩ v1) v1:=by
 have hb:∀k,v1.ownBlock=some k→p<k:=fun k hk=>by
  rcases t1.own k hk with e | e
  ·exact h.ob k e
  have:=h.lt;omega
 refine ⟨⟨?_,o1.far (p:=⟨p,0,none⟩) (fun e=>by have:=hb p e;omega) v1,hb⟩,⟨?_,t1.own⟩⟩
 ·exact (h.bx.outTo t1 h.ne).set_ 0 v1
 exact (t1.chg.mono (T:=fun k=>k=p∨v.ownBlock=some k) (fun k _ e=>.inr e)).setCell (p:=⟨p,0,none⟩) (.inl (.inl rfl)) v1
theorem WrAt.old (h:WrAt W p v l) (t:WTo p W v W1 v1):Below p W W1:=t.old (Nat.le_of_lt h.lt) h.ob
theorem WTo.out {u:Value} {x:zaa} (t:WTo p W v W1 v1) (o:Out W u x) (h1:u.ownBlock≠some p) (h2:∀k,u.ownBlock=some k→v.ownBlock≠some k):Out W1 u x:=o.chg t.chg fun q hq hs=>by
 rcases hs with hs | hs
 ·exact h1 (hs▸hq)
 exact h2 q hq hs
end
theorem zla {w:World} {v:Value} {l:zaa} (h:Out w v l):∃A cap,v=.slice A l.length cap:=by
 rcases h.2 with ⟨rfl,he⟩ | ⟨g,cap,cur,rfl,_,_,h1,h2,_⟩
 ·exact ⟨none,0,by rw [he]⟩
 exact ⟨_,cap,rfl⟩
theorem zf8 {w:World} {v:Value} {l:zaa} (h:Out w v l):∃A n cap,v=.slice A n cap:=by
 obtain ⟨A,cap,e⟩:=zla h
 exact ⟨A,_,cap,e⟩
theorem zyi {w:World} {A:Option Addr} {n cap:Nat} {l:zaa} (h:Out w (.slice A n cap) l) (hn:0<n):∃g,A=some ⟨g,0,none⟩:=by
 rcases h.2 with ⟨e,he⟩ | ⟨g,cap,cur,e,_⟩
 ·have:=congrArg (fun v=>match v with | .slice _ k _=>k | _=>0) e
  simp at this
  omega
 injection e with e1 _ _
 exact ⟨g,e1⟩
theorem out_at {w:World} {g cap n:Nat} {l:zaa} (h:Out w (.slice (some ⟨g,0,none⟩) n cap) l) (j:Nat) {c:UInt8} (hc:l[j]?=some c):w.cell? ⟨g,j,none⟩=some (.int .u8 c.toNat):=by
 have:=World.ownsRow.cells h (g:=g) rfl j (.int .u8 c.toNat) (by simp [u8s,hc])
 have e:((⟨g,0,none⟩:Addr).add j)=⟨g,j,none⟩:=by cases j <;> simp [Addr.add]
 rw [e] at this
 exact this
theorem zdo (p:Nat) (v:Value) (l:zaa) (n:Int) (W:World) (hn0:0≤n) (hn1:n<18446744073709551616) (h:WrAt W p v l) (hl:l.length≤100000000000):
 Calls prog 107 #[.pointer (some ⟨p,0,none⟩),.int .u64 n] W fun u W'=>u=.returned (.tuple #[])∧∃v',WrAt W' p v' (l++numI n)∧WTo p W v W' v':=by
 obtain ⟨i0,hi0,hz0,hz1,hz2⟩:=info_parts (show (prog.info? 5).map (fun i=>(i.zero,i.size,i.bytes))=some (some (.int .u8 0),1,1) by kernel_rfl)
 obtain ⟨m,rfl⟩:∃m:Nat,n=(m:Int):=⟨n.toNat,by omega⟩
 have hm2:m<18446744073709551616:=by omega
 have hN:Hid (numI (m:Int)=numB m):=by
  unfold Hid numI
  congr 1
  omega
 clear hn0 hn1
 have h8:=zh7 hm2
 have H0:=Hd h
 have hlt:=h.lt
 clear h
 go_enter func107,ntmps107
 go_wp2
 go_loopw [4,1] (fun u y wr=>∃(x:zaa) (q:Nat),y=.int .u64 q∧q≤m∧beB m=beB q++x.reverse∧Out wr u x∧OutTo W (.slice none 0 0) wr u) (fun _ y _=>(intOf y).toNat)
 case atStart=>exact ⟨[],m,rfl,by omega,by simp,Out.nil _,OutTo.refl _ _⟩
 obtain ⟨x,q,rfl,hqm,hx,ox,tx⟩:=hrel
 have HX:=Hd hx
 have OX:=Hd ox
 have TX:=Hd tx
 have hx8:x.length≤8:=by have:=congrArg List.length hx;rw [List.length_append,List.length_reverse] at this;omega
 clear hx ox tx
 by_cases hy:0<q
 ·have HB:=Hd (zmz (n:=q) (by omega))
  go_wp2_with (at_builtin;refine zbn rfl _ _ 59 rfl i0 rfl hi0 hz0 hz1 hz2 u4 x rfl (OX.out.alloc _) wr.heap.size ((q:Int) % 256) rfl (by omega) (by omega) (World.cell?_alloc_at _ _ _ _ rfl) (by omega) ?_;intro v2 w2 o2 t2)
  have O2:=Hd o2
  have T2:=Hd (TX.out.trans (((OutTo.refl wr u4).alloc _).trans t2))
  clear o2 t2
  refine ⟨⟨x++ [UInt8.ofNat (q % 256)],q / 256,rfl,by omega,?_,O2.out,T2.out⟩,by simp [intOf];omega⟩
  rw [HX.out,HB.out]
  simp
 obtain rfl:q=0:=by omega
 rw [zek,List.nil_append] at HX
 have H1:=Hd (H0.out.below (TX.out.old (Nat.le_refl _) (by simp [Value.ownBlock])))
 have HUV:=Hd (show ∀k,u4.ownBlock=some k→v.ownBlock≠some k from fun k hk hv=>by
  rcases TX.out.own k hk with e | e
  ·cases e
  have:=H0.out.ow.lt k hv;omega)
 have HUP:=Hd (show u4.ownBlock≠some p from fun hk=>by
  rcases TX.out.own p hk with e | e
  ·cases e
  omega)
 have c0:wr.cell? ⟨p,0,none⟩=some v:=H1.out.bx.cell 0
 have hp1:p<wr.heap.size:=H1.out.lt
 obtain ⟨A4,cap4,e4⟩:=zla OX.out
 subst e4
 have HB0:=Hd (WTo.refl p W v |>.below (TX.out.old (Nat.le_refl _) (by simp [Value.ownBlock])))
 obtain ⟨n,hn⟩:∃n,x.length=n:=⟨_,rfl⟩
 rw [hn] at hx8 OX HUV HUP TX ⊢
 have HN:=Hd hn
 clear hn
 go_wp2_with (at_builtin;refine RowKit.Hid.out ?_)
 refine Hd ?_
 refine zbn rfl _ _ 59 rfl i0 rfl hi0 hz0 hz1 hz2 v l rfl (H1.out.ow.alloc _) wr.heap.size (n:Int) rfl (by omega) (by omega) (World.cell?_alloc_at _ _ _ _ rfl) (by omega) ?_
 intro v1 w1 o1 t1
 obtain ⟨A1,n1,cap1,e1⟩:=zf8 o1
 subst e1
 have T1:=Hd (((OutTo.refl wr v).alloc (.cells #[.int .u8 n] 5)).trans t1)
 have O1:=Hd o1
 have fz:w1.frozen? ⟨p,0,none⟩=false:=(H1.out.bx.outTo T1.out H1.out.ne).frozen 0
 have c1:w1.cell? ⟨p,0,none⟩=some v:=(H1.out.bx.outTo T1.out H1.out.ne).cell 0
 clear o1 t1 c0
 have HP:=Hd (H1.out.put O1.out T1.out)
 have OU:=Hd ((OX.out.outTo T1.out HUV.out).far (p:=⟨p,0,none⟩) HUP.out (.slice A1 n1 cap1))
 have HV1:=Hd (show ∀k,(Value.slice A4 n cap4).ownBlock=some k→(Value.slice A1 n1 cap1).ownBlock≠some k from fun k hk hv=>by
  rcases T1.out.own k hv with e | e
  ·exact HUV.out k hk e
  have:=OX.out.lt k hk;omega)
 go_wp2
 obtain ⟨V,hV⟩:∃V,w1.setCell ⟨p,0,none⟩ (.slice A1 n1 cap1)=V:=⟨_,rfl⟩
 rw [hV] at HP OU ⊢
 clear hV fz c1
 have HP1:=Hd (HB0.out.trans HP.out.2)
 have HA1:=Hd HP.out.1
 clear HP
 go_loopw [5] (fun i wr2=>∃(r:Nat) (v2:Value),r≤n∧i=.int .i64 ((r:Int)-1)∧WrAt wr2 p v2 (l++UInt8.ofNat n::x.reverse.take (n-r))∧WTo p W v wr2 v2∧Out wr2 (.slice A4 n cap4) x∧(∀k,(Value.slice A4 n cap4).ownBlock=some k→v2.ownBlock≠some k)) (fun i _=>(intOf i+1).toNat)
 case atStart=>exact ⟨n,_,by omega,rfl,by simpa using HA1.out,HP1.out,OU.out,HV1.out⟩
 obtain ⟨r,v2,hr,rfl,ha,hp,hu,hv⟩:=hrel
 have HA:=Hd ha
 have HPW:=Hd hp
 have HU:=Hd hu
 have HV:=Hd hv
 clear ha hp hu hv
 cases r with
 | zero=>
  go_wp2
  refine bE ?_
  refine ⟨rfl,v2,?_,HPW.out⟩
  have e:numI (m:Int)=UInt8.ofNat n::List.take (n-0) x.reverse:=by
   rw [hN.out,numB,HX.out,List.length_reverse,HN.out,List.take_of_length_le (by rw [List.length_reverse,HN.out];omega)]
  rw [e]
  exact HA.out
 | succ r=>
  rw [show (((r+1:Nat):Int)-1)=(r:Int) by omega]
  have hr0:(0:Int)≤(r:Int):=by omega
  have hr1:(r:Int)<(n:Int):=by omega
  have hrx:r<x.length:=by rw [HN.out];omega
  obtain ⟨b,hb⟩:∃b,x[r]=b:=⟨_,rfl⟩
  have hxr:x[r]?=some b:=by rw [List.getElem?_eq_getElem hrx,hb]
  obtain ⟨g,rfl⟩:=zyi HU.out (by omega)
  have HTK:=Hd (show x.reverse.take (n-r)=x.reverse.take (n-(r+1))++ [b] by
   rw [show n-r=(n-(r+1))+1 by omega,List.take_succ_eq_append_getElem (by rw [List.length_reverse,HN.out];omega),List.getElem_reverse,← hb]
   congr 3
   rw [HN.out];omega)
  have hb256:=b.toNat_lt
  have C0:=Hd (out_at HU.out r hxr)
  have hgv:=HV.out g rfl
  have hgl:=HU.out.lt g rfl
  clear hb hxr hrx
  have HO1:=Hd (show Out (wr.alloc (.cells #[.int .u8 b.toNat] 5)).drew v2 _ from (HA.out.ow.alloc _).drew)
  have P0:=Hd (show Blk wr.drew p 65 #[v2] from HA.out.bx.drew)
  have P1:=Hd (show Blk (wr.alloc (.cells #[.int .u8 b.toNat] 5)).drew p 65 #[v2] from (HA.out.bx.alloc _).drew)
  have C1:=Hd (show (wr.alloc (.cells #[.int .u8 b.toNat] 5)).drew.cell? ⟨g,r,none⟩=some (.int .u8 b.toNat) from (World.cell?_alloc_old _ _ _ (Nat.ne_of_lt hgl)).trans C0.out)
  have hlen2:(l++UInt8.ofNat n::List.take (n-(r+1)) x.reverse).length≤1000000000000:=by
   rw [List.length_append,List.length_cons,List.length_take];omega
  go_wp2_with fail
  refine wp_region_noPanic ?_
  refine za8 (fun W'=>Blk W' p 65 #[v2]∧W'.cell? ⟨g,r,none⟩=some (.int .u8 b.toNat)) 13 (by kernel_rfl) ?_
  have hHeld:(fun W'=>Blk W' p 65 #[v2]∧W'.cell? ⟨g,r,none⟩=some (.int .u8 b.toNat)) _:=⟨P0.out,C0.out⟩
  refine tU 0 ⟨some 35,.move (.tmp 0),_,_,_,none⟩ (.pointer (some ⟨p,0,none⟩)) rfl (fun _=>hHeld) ?_
  try go_frame
  refine tU 1 ⟨some 36,.move (.tmp 0),_,_,_,none⟩ (.pointer (some ⟨p,0,none⟩)) rfl (fun _=>hHeld) ?_
  try go_frame
  refine tU 2 ⟨some 37,.nilCheck (.tmp 36),_,_,_,none⟩ (.pointer (some ⟨p,0,none⟩)) rfl (fun _=>hHeld) ?_
  try go_frame
  refine tU 3 ⟨some 38,.fieldAddr 65 (.tmp 37) 0,_,_,_,none⟩ (.pointer (some ⟨p,0,none⟩)) rfl (fun _=>hHeld) ?_
  try go_frame
  refine tV 4 ⟨some 39,.load 59 (.tmp 38),59,_,_,none⟩ v2 rfl hHeld (Or.inl ⟨by rfl,by intro W hW;have hc:W.cell? ⟨p,0,none⟩=some (v2):=hW.1.cell 0;go_simp⟩) ?_
  try go_frame
  refine tU 5 ⟨some 40,.move (.tmp 4),_,_,_,none⟩ (.slice (some ⟨g,0,none⟩) n cap4) rfl (fun _=>hHeld) ?_
  try go_frame
  refine tU 6 ⟨some 41,.move (.tmp 5),_,_,_,none⟩ (.int .i64 (r:Int)) rfl (fun _=>hHeld) ?_
  try go_frame
  refine tU 7 ⟨some 42,.indexAddr 59 (.tmp 40) (.tmp 41),_,_,_,none⟩ (.pointer (some ⟨g,r,none⟩)) rfl (fun _=>hHeld) ?_
  try go_frame
  refine tV 8 ⟨some 43,.load 5 (.tmp 42),5,_,_,none⟩ (.int .u8 b.toNat) rfl hHeld (Or.inl ⟨by rfl,by intro W hW;have hc:W.cell? ⟨g,r,none⟩=some (.int .u8 b.toNat):=hW.2;go_simp⟩) ?_
  try go_frame
  refine zai 9 (o:=⟨some 44,.buildSlice 59 1 #[(0,.tmp 43)],59,_,_,none⟩) (by kernel_rfl) rfl rfl (fun K hK=>?_)
  go_simp
  refine hK.out _ _ (fun _=>⟨P1.out,C1.out⟩) ?_
  have hHeld:(fun W'=>Blk W' p 65 #[v2]∧W'.cell? ⟨g,r,none⟩=some (.int .u8 b.toNat)) _:=⟨P1.out,C1.out⟩
  clear hK K
  try go_frame
  obtain ⟨v9,w9,hr9,o9,t9⟩:=znc (P:=prog) (w:=(wr.alloc (.cells #[.int .u8 b.toNat] 5)).drew) 59 59 i0 underlying59 hi0 hz0 hz1 hz2 v2 _ HO1.out wr.heap.size b.toNat (by omega) (by omega) (World.cell?_alloc_at _ _ _ _ rfl) hlen2
  obtain ⟨A9,n9,c9,hv9⟩:=zf8 o9
  subst hv9
  have hB9:=P1.out.outTo t9 HA.out.ne
  have hC9:w9.cell? ⟨g,r,none⟩=some (.int .u8 b.toNat):=(t9.cell (p:=⟨g,r,none⟩) (by simp;omega) hgv).trans C1.out
  refine zai 10 (o:=⟨some 45,.call { callee:=.builtin .append,args:=#[.tmp 39,.tmp 44],argTypes:=#[59,59] },59,_,_,none⟩) (by kernel_rfl) rfl rfl (fun K hK=>?_)
  refine zbk (.tmp 39) (.tmp 44) _ _ rfl _ _ _ _ rfl rfl hr9 ?_
  refine hK.out _ _ (fun _=>⟨hB9,hC9⟩) ?_
  have hHeld:(fun W'=>Blk W' p 65 #[v2]∧W'.cell? ⟨g,r,none⟩=some (.int .u8 b.toNat)) _:=⟨hB9,hC9⟩
  clear hK K
  try go_frame
  refine tU 11 ⟨some 46,.nilCheck (.tmp 35),_,_,_,none⟩ (.pointer (some ⟨p,0,none⟩)) rfl (fun _=>hHeld) ?_
  try go_frame
  refine tU 12 ⟨some 47,.fieldAddr 65 (.tmp 46) 0,_,_,_,none⟩ (.pointer (some ⟨p,0,none⟩)) rfl (fun _=>hHeld) ?_
  try go_frame
  refine zai 13 (o:=⟨none,.store 59 (.tmp 47) (.tmp 45),0,_,_,none⟩) (by kernel_rfl) rfl rfl (fun K hK=>?_)
  have kc:w9.cell? ⟨p,0,none⟩=some v2:=hB9.cell 0
  have kf:=hB9.frozen 0
  go_simp
  refine hK.out _ _ (fun h=>absurd h (by decide)) ?_
  clear hK K
  try go_frame
  refine za9 (by kernel_rfl) ?_
  refine NoPanic.normal ?_
  have HF:=Hd ((HA.out.put (W1:=w9) o9 ⟨(Chg.of_below (show Below wr.heap.size wr (wr.alloc (.cells #[.int .u8 b.toNat] 5)).drew by go_grown) _ (fun k hk _=>hk)).trans t9.chg,fun k hk=>(t9.own k hk).elim .inl (fun e=>.inr (by simp at e;omega))⟩))
  have HU9:=Hd ((((HU.out.alloc (.cells #[.int .u8 b.toNat] 5)).drew).outTo t9 (fun q hq=>HV.out q hq)).far (p:=⟨p,0,none⟩) HUP.out (.slice A9 n9 c9))
  have HV9:=Hd (show ∀k,(Value.slice (some ⟨g,0,none⟩) n cap4).ownBlock=some k→(Value.slice A9 n9 c9).ownBlock≠some k from fun k hk hv=>(t9.own k hv).elim (HV.out k hk) (fun e=>by have:=HU.out.lt k hk;simp at e;omega))
  clear hHeld hB9 hC9 o9 t9 hr9
  go_wp2
  refine ⟨⟨r,_,by omega,rfl,?_,HPW.out.trans HF.out.2,HU9.out,HV9.out⟩,by simp [intOf]⟩
  rw [HTK.out]
  simpa using HF.out.1
theorem zgh (s:zaa):∃k m,zh4 s=.agg #[.int .u8 k,.int .i64 m,str []]:=by
 unfold zh4
 split
 ·exact ⟨_,_,rfl⟩
 split
 ·exact ⟨_,_,rfl⟩
 exact ⟨_,_,rfl⟩
theorem zlx (s:zaa) (w:World) (hs:txtE s=0) (hl:s.length≤1000000):
 Calls prog 238 #[vVal 3 0 s,.func (.func 239) #[] #[]] w fun u w'=>u=.returned (zh4 s)∧Below w.heap.size w w':=by
 have HS:=Hd hs
 clear hs
 go_enter func238,ntmps238
 go_wp2_with fail
 go_region_held3 (fun W:World=>W.cell? ⟨w.heap.size,0,none⟩=some (.int .u8 3)∧W.cell? ⟨w.heap.size,1,none⟩=some (.int .i64 0)∧W.cell? ⟨w.heap.size,2,none⟩=some (str s))
  (first
   | (go_simp;done)
   | exact ⟨(hb1.cell (p:=⟨w.heap.size,0,none⟩) (by simp;omega)).trans (by go_simp),(hb1.cell (p:=⟨w.heap.size,1,none⟩) (by simp;omega)).trans (by go_simp),(hb1.cell (p:=⟨w.heap.size,2,none⟩) (by simp;omega)).trans (by go_simp)⟩)
  (first
   | (go_at_call 239;refine (ztx s _).mono ?_;rintro e w1 ⟨n,rfl,hmp,hb1⟩;have hlk:=zl6 (P:=prog) _ _ _ underlying253 underlying5 w1 n (zmy s) 5 3 3 _ hmp rfl;clear hmp))
 have hb9:=hb1
 have c0:w1.cell? ⟨w.heap.size,0,none⟩=some (.int .u8 3):=(hb1.cell (p:=⟨w.heap.size,0,none⟩) (by simp;omega)).trans (by go_simp)
 have c1:w1.cell? ⟨w.heap.size,1,none⟩=some (.int .i64 0):=(hb1.cell (p:=⟨w.heap.size,1,none⟩) (by simp;omega)).trans (by go_simp)
 have c2:w1.cell? ⟨w.heap.size,2,none⟩=some (str s):=(hb1.cell (p:=⟨w.heap.size,2,none⟩) (by simp;omega)).trans (by go_simp)
 have hz:=hb1.size
 have HB:=Hd (show Below w.heap.size w w1 from nxt hb1)
 have hf:∀o,w1.frozen? ⟨w.heap.size+1,o,none⟩=_:=fun o=>hb1.frozen (p:=⟨w.heap.size+1,o,none⟩) (by simp)
 have hc:∀o,w1.cell? ⟨w.heap.size+1,o,none⟩=_:=fun o=>hb1.cell (p:=⟨w.heap.size+1,o,none⟩) (by simp)
 clear hb1 hb9 hlk
 go_wp2_with fail
 refine (zkk s _ HS.out hl).mono ?_
 rintro e w2 ⟨rfl,hb2⟩
 have hz2:=hb2.size
 have HB2:=Hd (show Below w.heap.size w w2 from Below.next HB.out hb2 HB.out.size)
 simp at hz
 have hf2:∀o,w2.frozen? ⟨w.heap.size+1,o,none⟩=_:=fun o=>(hb2.frozen (p:=⟨w.heap.size+1,o,none⟩) (by simp;omega)).trans (hf o)
 have hc2:∀o,w2.cell? ⟨w.heap.size+1,o,none⟩=_:=fun o=>(hb2.cell (p:=⟨w.heap.size+1,o,none⟩) (by simp;omega)).trans (hc o)
 clear hb2 hf hc c0 c1 c2
 go_wp2_with fail
 refine (zrv s _ hl).mono ?_
 rintro e w3 ⟨rfl,hb3⟩
 obtain ⟨k,m,hk⟩:=zgh s
 rw [hk]
 have HK:=Hd hk
 have hz3:=hb3.size
 have HB3:=Hd (show Below w.heap.size w w3 from Below.next HB2.out hb3 HB2.out.size)
 have hf3:∀o,w3.frozen? ⟨w.heap.size+1,o,none⟩=_:=fun o=>(hb3.frozen (p:=⟨w.heap.size+1,o,none⟩) (by simp;omega)).trans (hf2 o)
 have hc3:∀o,w3.cell? ⟨w.heap.size+1,o,none⟩=_:=fun o=>(hb3.cell (p:=⟨w.heap.size+1,o,none⟩) (by simp;omega)).trans (hc2 o)
 have hl3:w.heap.size+1<w3.heap.size:=by omega
 clear hb3 hf2 hc2 hk
 go_wp2
 refine bodyPost_ret (v:=.agg #[.int .u8 k,.int .i64 m,str []]) (by simp (maxDischargeDepth:=9) [results,results238,go_sem,hc3]) rfl ?_
 exact ⟨by rw [HK.out],Below.setCell (Below.setCell (Below.setCell HB3.out (by simp) _) (by simp) _) (by simp) _⟩
theorem zoq (s:zaa) (w:World) (hs:txtE s=0) (hl:s.length≤1000000):
 Calls prog 215 #[vVal 3 0 s] w fun u w'=>u=.returned (zh4 s)∧Below w.heap.size w w':=by
 have HS:=Hd hs
 clear hs
 obtain ⟨k,m,hk⟩:=zgh s
 have HK:=Hd hk
 clear hk
 go_enter func215,ntmps215
 go_wp2_with fail
 refine (zlx s _ HS.out hl).mono ?_
 rintro e w1 ⟨rfl,hb1⟩
 have hz1:=hb1.size
 try simp at hz1
 have hB1:Below w.heap.size w w1:=nxt hb1
 obtain ⟨hc1_0,hl1_0,hm1_0,hn1_0,ho1_0,hf1_0⟩:=oldB (g:=w.heap.size) hb1
 obtain ⟨hc1_1,hl1_1,hm1_1,hn1_1,ho1_1,hf1_1⟩:=oldB (g:=w.heap.size+1) hb1
 rw [HK.out]
 go_wp2
 refine bodyPost_ret (v:=.agg #[.int .u8 k,.int .i64 m,str []]) (by simp (maxDischargeDepth:=9) [results,results215,go_sem,hc1_1]) rfl ?_
 exact ⟨by rw [HK.out],by go_grown⟩
theorem zo7 (w:World):Calls prog 290 #[.int .i64 1] w fun u w'=>u=.returned (str [35,68,73,86,47,48,33])∧w=w':=by
 go_enter func290,ntmps290
 go_wp2
 go_ret
 exact ⟨rfl,rfl⟩
theorem zo6 (w:World):Calls prog 290 #[.int .i64 2] w fun u w'=>u=.returned (str [35,86,65,76,85,69,33])∧w=w':=by
 go_enter func290,ntmps290
 go_wp2
 go_ret
 exact ⟨rfl,rfl⟩
theorem zo5 (w:World):Calls prog 290 #[.int .i64 3] w fun u w'=>u=.returned (str [35,78,85,77,33])∧w=w':=by
 go_enter func290,ntmps290
 go_wp2
 go_ret
 exact ⟨rfl,rfl⟩
theorem zo4 (w:World):Calls prog 290 #[.int .i64 4] w fun u w'=>u=.returned (str [35,78,47,65])∧w=w':=by
 go_enter func290,ntmps290
 go_wp2
 go_ret
 exact ⟨rfl,rfl⟩
theorem zo3 (w:World):Calls prog 290 #[.int .i64 5] w fun u w'=>u=.returned (str [35,82,69,70,33])∧w=w':=by
 go_enter func290,ntmps290
 go_wp2
 go_ret
 exact ⟨rfl,rfl⟩
theorem zo2 (w:World):Calls prog 290 #[.int .i64 6] w fun u w'=>u=.returned (str [35,67,89,67,76,69,33])∧w=w':=by
 go_enter func290,ntmps290
 go_wp2
 go_ret
 exact ⟨rfl,rfl⟩
theorem zo1 (w:World):Calls prog 290 #[.int .i64 7] w fun u w'=>u=.returned (str [35,68,69,78,73,69,68])∧w=w':=by
 go_enter func290,ntmps290
 go_wp2
 go_ret
 exact ⟨rfl,rfl⟩
def errN:Nat→zaa
 | 1=>[35,68,73,86,47,48,33]
 | 2=>[35,86,65,76,85,69,33]
 | 3=>[35,78,85,77,33]
 | 4=>[35,78,47,65]
 | 5=>[35,82,69,70,33]
 | 6=>[35,67,89,67,76,69,33]
 | 7=>[35,68,69,78,73,69,68]
 | _=>[]
theorem zne (k:Nat) (h1:1≤k) (h7:k≤7) (w:World):Calls prog 290 #[.int .i64 k] w fun u w'=>u=.returned (str (errN k))∧w=w':=by
 have hk:k=1∨k=2∨k=3∨k=4∨k=5∨k=6∨k=7:=by omega
 rcases hk with rfl | rfl | rfl | rfl | rfl | rfl | rfl
 ·exact zo7 w
 ·exact zo6 w
 ·exact zo5 w
 ·exact zo4 w
 ·exact zo3 w
 ·exact zo2 w
 exact zo1 w
theorem zul (n:Int) (w:World) (h1:1≤n) (h7:n≤7):
 Calls prog 257 #[.int .i64 n] w fun u w'=>u=.returned (.agg #[.int .u8 4,.int .i64 n,str []])∧Below w.heap.size w w':=by
 have e1:¬n<1:=by omega
 have e2:¬7<n:=by omega
 go_enter func257,ntmps257
 go_wp2
 refine bodyPost_ret (v:=.agg #[.int .u8 4,.int .i64 n,str []]) (by simp (maxDischargeDepth:=9) [results,results257,go_sem]) rfl ?_
 exact ⟨rfl,by go_grown⟩
theorem zuk (n:Int) (w:World) (h: -9223372036854775807≤n):
 Calls prog 259 #[.int .i64 n] w fun u w'=>u=.returned (.agg #[.int .u8 1,.int .i64 n,str []])∧Below w.heap.size w w':=by
 have e1:¬n< -9223372036854775807:=by omega
 go_enter func259,ntmps259
 go_wp2
 refine bodyPost_ret (v:=.agg #[.int .u8 1,.int .i64 n,str []]) (by simp (maxDischargeDepth:=9) [results,results259,go_sem]) rfl ?_
 exact ⟨rfl,by go_grown⟩
theorem znk (n:Int) (w:World) (h1:1≤n) (h6:n≤6):
 Calls prog 346 #[.agg #[.int .u8 4,.int .i64 n,str []]] w fun u w'=>u=.returned (.int .i64 0)∧Below w.heap.size w w':=by
 go_enter func346,ntmps346
 go_wp2
 go_ret
 exact ⟨rfl,by go_grown⟩
theorem zum (n:Int) (w:World) (h0:0≤n):
 Calls prog 346 #[.agg #[.int .u8 1,.int .i64 n,str []]] w fun u w'=>u=.returned (.int .i64 0)∧Below w.heap.size w w':=by
 have e1: -9223372036854775807≤n:=by omega
 go_enter func346,ntmps346
 go_wp2
 go_ret
 exact ⟨rfl,by go_grown⟩
theorem zpb (w:World):
 Calls prog 346 #[.agg #[.int .u8 2,.int .i64 0,str []]] w fun u w'=>u=.returned (.int .i64 0)∧Below w.heap.size w w':=by
 go_enter func346,ntmps346
 go_wp2
 go_ret
 exact ⟨rfl,by go_grown⟩
theorem zpa (w:World):
 Calls prog 346 #[.agg #[.int .u8 2,.int .i64 1,str []]] w fun u w'=>u=.returned (.int .i64 0)∧Below w.heap.size w w':=by
 go_enter func346,ntmps346
 go_wp2
 go_ret
 exact ⟨rfl,by go_grown⟩
theorem zrb (x:zaa) (w:World) (h:txtR x=0) (hl:x.length≤1000000000):
 Calls prog 346 #[.agg #[.int .u8 3,.int .i64 0,str x]] w fun u w'=>u=.returned (.int .i64 0)∧Below w.heap.size w w':=by
 have HT:=Hd h
 clear h
 go_enter func346,ntmps346
 go_wp2_with fail
 refine (zib x _ hl).mono ?_
 rintro u w1 ⟨rfl,rfl⟩
 rw [HT.out]
 go_wp2
 go_ret
 exact ⟨rfl,by go_grown⟩
theorem zk2 (n:Nat) (w:World) (h1:1≤n) (h5:n≤5):
 Calls prog 331 #[.agg #[.int .u8 4,.int .i64 n,str []]] w fun u w'=>u=.returned (str (errN n))∧Below w.heap.size w w':=by
 have hne:((n:Int)==7)=false:=by simp only [beq_eq_false_iff_ne,ne_eq];omega
 have he:∀W,(binOp .eql 189 (.agg #[.int .u8 4,.int .i64 n,str []]) (.agg #[.int .u8 4,.int .i64 7,str []])).run prog W=.ok (.bool false) W:=by
  intro W
  simp [go_sem,hne]
 have n0:(0:Int)≤(n:Int):=by omega
 have HN:=Hd (zne n h1 (by omega))
 have C0:=Hd ((Blk.new w 189 #[.int .u8 4,.int .i64 n,str []]).cell 0)
 have C1:=Hd ((Blk.new w 189 #[.int .u8 4,.int .i64 n,str []]).cell 1)
 have C2:=Hd ((Blk.new w 189 #[.int .u8 4,.int .i64 n,str []]).cell 2)
 go_enter func331,ntmps331
 go_wp2
 have hlt:w.heap.size<(w.alloc (.cells #[.int .u8 4,.int .i64 n,str []] 189)).heap.size:=by simp
 obtain ⟨W0,hW0⟩:∃W0,w.alloc (.cells #[.int .u8 4,.int .i64 n,str []] 189)=W0:=⟨_,rfl⟩
 have HB0:=Hd (show Below w.heap.size w W0 by rw [← hW0];go_grown)
 rw [hW0] at C0 C1 C2 hlt ⊢
 clear hW0
 go_region_held3 (fun W:World=>W.cell? ⟨w.heap.size,0,none⟩=some (.int .u8 4)∧W.cell? ⟨w.heap.size,1,none⟩=some (.int .i64 n)∧W.cell? ⟨w.heap.size,2,none⟩=some (str []))
  (first
   | exact ⟨C0.out,C1.out,C2.out⟩
   | exact ⟨(hb1.cell hlt).trans C0.out,(hb1.cell hlt).trans C1.out,(hb1.cell hlt).trans C2.out⟩)
  (first
   | (go_at_call 257;refine (zul 7 _ (by omega) (by omega)).mono ?_;rintro e w1 ⟨rfl,hb1⟩))
 have HB1:=Hd (show Below w.heap.size w w1 from Below.next HB0.out (Below.trans ((Below.refl _ _).drew) hb1) HB0.out.size)
 have hlt1:=Nat.lt_of_lt_of_le hlt hb1.size
 have d0:=(hb1.cell (p:=⟨w.heap.size,0,none⟩) hlt).trans C0.out
 have d1:=(hb1.cell (p:=⟨w.heap.size,1,none⟩) hlt).trans C1.out
 have d2:=(hb1.cell (p:=⟨w.heap.size,2,none⟩) hlt).trans C2.out
 clear he hb1
 go_wp2_with fail
 refine (znk n _ (by omega) (by omega)).mono ?_
 rintro u w2 ⟨rfl,hb2⟩
 have HB2:=Hd (Below.next HB1.out hb2 HB1.out.size)
 have f0:=(hb2.cell (p:=⟨w.heap.size,0,none⟩) hlt1).trans d0
 have f1:=(hb2.cell (p:=⟨w.heap.size,1,none⟩) hlt1).trans d1
 clear hb2
 go_wp2_with fail
 refine (HN.out _).mono ?_
 rintro u w3 ⟨rfl,rfl⟩
 go_wp2
 go_ret
 exact ⟨rfl,HB2.out⟩
theorem zdc (s:zaa) (i:Nat) (h:s.length≤i):s.getD i 0=0:=by rw [List.getD_eq_getElem?_getD,List.getElem?_eq_none h];rfl
theorem zet (s:zaa) (i:Nat) (w:World):
 Calls prog 311 #[str s,.int .i64 i] w fun u w'=>u=.returned (.bool (digB (s.getD i 0)))∧w=w':=by
 have hi0:(0:Int)≤(i:Int):=Int.natCast_nonneg _
 by_cases hlt:i<s.length
 rotate_left
 ·have hi1:¬(i:Int)<(s.length:Int):=by omega
  rw [zdc s i (by omega)]
  go_enter func311,ntmps311
  go_wp2
  go_ret
  exact ⟨rfl,rfl⟩
 have hi1:(i:Int)<(s.length:Int):=by omega
 have hx:=za2 s i (by rw [zad];exact hlt)
 have HE:=Hd (show digB (s.getD i 0)=(decide (48≤(s.getD i 0).toNat)&&decide ((s.getD i 0).toNat≤57)) from rfl)
 generalize digB (s.getD i 0)=r at *
 generalize s.getD i 0=c at *
 by_cases h1:48≤c.toNat
 ·have e1:(48:Int)≤(c.toNat:Int):=by omega
  by_cases h2:c.toNat≤57
  ·have e2:(c.toNat:Int)≤57:=by omega
   have HR:=Hd (show r=true by rw [HE.out];simp [h1,h2])
   clear HE
   go_enter func311,ntmps311
   go_wp2
   go_ret
   exact ⟨by rw [HR.out];rfl,rfl⟩
  have e2:¬(c.toNat:Int)≤57:=by omega
  have HR:=Hd (show r=false by rw [HE.out];simp [h2])
  clear HE
  go_enter func311,ntmps311
  go_wp2
  go_ret
  exact ⟨by rw [HR.out];rfl,rfl⟩
 have e1:¬(48:Int)≤(c.toNat:Int):=by omega
 have HR:=Hd (show r=false by rw [HE.out];simp [h1])
 clear HE
 go_enter func311,ntmps311
 go_wp2
 go_ret
 exact ⟨by rw [HR.out];rfl,rfl⟩
theorem zes (s:zaa) (i:Nat) (w:World):
 Calls prog 314 #[str s,.int .i64 i] w fun u w'=>u=.returned (.bool (letB (s.getD i 0)))∧w=w':=by
 have hi0:(0:Int)≤(i:Int):=Int.natCast_nonneg _
 by_cases hlt:i<s.length
 rotate_left
 ·have hi1:¬(i:Int)<(s.length:Int):=by omega
  rw [zdc s i (by omega)]
  go_enter func314,ntmps314
  go_wp2
  go_ret
  exact ⟨rfl,rfl⟩
 have hi1:(i:Int)<(s.length:Int):=by omega
 have hx:=za2 s i (by rw [zad];exact hlt)
 have HE:=Hd (show letB (s.getD i 0)=((decide (65≤(s.getD i 0).toNat)&&decide ((s.getD i 0).toNat≤90))||(decide (97≤(s.getD i 0).toNat)&&decide ((s.getD i 0).toNat≤122))) from rfl)
 generalize letB (s.getD i 0)=r at *
 generalize s.getD i 0=c at *
 by_cases h1:65≤c.toNat
 rotate_left
 ·have e1:¬(65:Int)≤(c.toNat:Int):=by omega
  have e3:¬(97:Int)≤(c.toNat:Int):=by omega
  have HR:=Hd (show r=false by rw [HE.out];simp [h1];omega)
  clear HE
  go_enter func314,ntmps314
  go_wp2
  go_ret
  exact ⟨by rw [HR.out];rfl,rfl⟩
 have e1:(65:Int)≤(c.toNat:Int):=by omega
 by_cases h2:c.toNat≤90
 ·have e2:(c.toNat:Int)≤90:=by omega
  have HR:=Hd (show r=true by rw [HE.out];simp [h1,h2])
  clear HE
  go_enter func314,ntmps314
  go_wp2
  go_ret
  exact ⟨by rw [HR.out];rfl,rfl⟩
 have e2:¬(c.toNat:Int)≤90:=by omega
 by_cases h3:97≤c.toNat
 ·have e3:(97:Int)≤(c.toNat:Int):=by omega
  by_cases h4:c.toNat≤122
  ·have e4:(c.toNat:Int)≤122:=by omega
   have HR:=Hd (show r=true by rw [HE.out];simp [h3,h4])
   clear HE
   go_enter func314,ntmps314
   go_wp2
   go_ret
   exact ⟨by rw [HR.out];rfl,rfl⟩
  have e4:¬(c.toNat:Int)≤122:=by omega
  have HR:=Hd (show r=false by rw [HE.out];simp [h2,h4])
  clear HE
  go_enter func314,ntmps314
  go_wp2
  go_ret
  exact ⟨by rw [HR.out];rfl,rfl⟩
 have e3:¬(97:Int)≤(c.toNat:Int):=by omega
 have HR:=Hd (show r=false by rw [HE.out];simp [h2,h3])
 clear HE
 go_enter func314,ntmps314
 go_wp2
 go_ret
 exact ⟨by rw [HR.out];rfl,rfl⟩
theorem zda (p:UInt8→Bool) (s:zaa) (i:Nat) (h:i<s.length):lenB p s i=if p (s.getD i 0) then lenB p s (i+1)+1 else 0:=by
 rw [zdb,zgd s i h,zdb p s (i+1)]
 generalize s.getD i 0=c
 by_cases hc:p c=true
 ·simp [lenB,hc]
 simp [lenB,hc]
theorem zgx (p:UInt8→Bool) (s:zaa) (i:Nat) (h:s.length≤i):lenB p s i=0:=by have:=ze6 p s i;omega
theorem zhf (s:zaa) (i:Nat) (w:World) (hs:s.length≤1000000) (hi:i≤s.length):
 Calls prog 329 #[str s,.int .i64 i] w fun u w'=>u=.returned (.int .i64 (i+lenB alnB s i:Nat))∧w=w':=by
 have hlim:=ze6 alnB s i
 go_enter func329,ntmps329
 go_wp2
 go_loopw [1] (fun v wr=>∃k:Nat,k≤s.length∧v=.int .i64 k∧i+lenB alnB s i=k+lenB alnB s k∧w=wr) (fun v _=>s.length-(intOf v).toNat)
 case atStart=>exact ⟨i,hi,rfl,rfl,rfl⟩
 obtain ⟨k,hk,rfl,he,rfl⟩:=hrel
 have HE:=Hd he
 have HL:=Hd (zes s k)
 have HD:=Hd (zet s k)
 clear he
 by_cases hlt:k<s.length
 rotate_left
 ·have hp:=zdc s k (by omega)
  rw [hp] at HL HD
  have hz:=zgx alnB s k (by omega)
  have HZ:=Hd hz
  clear hp hz
  go_wp2_with fail
  refine (HL.out _).mono ?_
  rintro u w1 ⟨rfl,rfl⟩
  rw [show letB 0=false from rfl]
  go_wp2_with fail
  refine (HD.out _).mono ?_
  rintro u w2 ⟨rfl,rfl⟩
  rw [show digB 0=false from rfl]
  go_wp2
  go_ret
  have h1:=HE.out
  have h2:=HZ.out
  exact ⟨by rw [h1,h2];rfl,by first | rfl | trivial⟩
 have hst:=zda alnB s k hlt
 have ha:alnB (s.getD k 0)=(letB (s.getD k 0)||digB (s.getD k 0)):=rfl
 rw [ha] at hst
 generalize letB (s.getD k 0)=a at *
 generalize digB (s.getD k 0)=b at *
 have HST:=Hd hst
 clear hst ha
 cases a
 ·cases b
  ·go_wp2_with fail
   refine (HL.out _).mono ?_
   rintro u w1 ⟨rfl,rfl⟩
   go_wp2_with fail
   refine (HD.out _).mono ?_
   rintro u w2 ⟨rfl,rfl⟩
   go_wp2
   go_ret
   have h1:=HE.out
   have h2:=HST.out
   simp only [Bool.or_self,Bool.false_eq_true,if_false] at h2
   exact ⟨by rw [h1,h2];rfl,by first | rfl | trivial⟩
  go_wp2_with fail
  refine (HL.out _).mono ?_
  rintro u w1 ⟨rfl,rfl⟩
  go_wp2_with fail
  refine (HD.out _).mono ?_
  rintro u w2 ⟨rfl,rfl⟩
  go_wp2
  refine ⟨⟨k+1,by omega,by go_num,?_,by trivial⟩,by simp [intOf];omega⟩
  have h1:=HE.out
  have h2:=HST.out
  simp only [Bool.or_true,if_true] at h2
  omega
 go_wp2_with fail
 refine (HL.out _).mono ?_
 rintro u w1 ⟨rfl,rfl⟩
 go_wp2
 refine ⟨⟨k+1,by omega,by go_num,?_,by trivial⟩,by simp [intOf];omega⟩
 have h1:=HE.out
 have h2:=HST.out
 simp only [Bool.true_or,if_true] at h2
 omega
def RdAt (W:World) (p:Nat) (r:Rd):Prop:=Blk W p 97 #[str r.1,.bool r.2]
structure RdTo (p:Nat) (W W':World) (r':Rd):Prop where
 blk:RdAt W' p r'
 chg:Chg (fun k=>k=p) W W'
theorem RdTo.trans {p:Nat} {W W1 W2:World} {r1 r2:Rd} (h:RdTo p W W1 r1) (k:RdTo p W1 W2 r2):RdTo p W W2 r2:=⟨k.blk,h.chg.trans k.chg⟩
theorem RdAt.lt {W:World} {p:Nat} {r:Rd} (h:RdAt W p r):p<W.heap.size:=Blk.lt h
theorem RdTo.drew {p:Nat} {W W':World} {r:Rd} (h:RdTo p W W' r):RdTo p W W'.drew r:=⟨h.blk,h.chg.drew⟩
theorem RdTo.set {p g:Nat} {W W':World} {r:Rd} (h:RdTo p W W' r) (hg:W.heap.size≤g) (hp:p≠g) (i:Nat) (u:Value):RdTo p W (W'.setCell ⟨g,i,none⟩ u) r:=
 ⟨Blk.far h.blk (by exact hp) u,h.chg.setCell (p:=⟨g,i,none⟩) (.inr hg) u⟩
theorem RdTo.alloc {p:Nat} {W W':World} {r:Rd} (h:RdTo p W W' r) (o:Obj):RdTo p W (W'.alloc o) r:=⟨Blk.alloc h.blk o,h.chg.alloc o⟩
theorem RdTo.refl {p:Nat} {W:World} {r:Rd} (h:RdAt W p r):RdTo p W W r:=⟨h,Chg.refl _ _⟩
end Go.Proofs.YtamcgggmfghljaaGreatDoor
