/- val.words: what the row's list gives the walks. -/
import Derived.Lib.LaidTab
import Derived.Stop.LaidErr
import Derived.Great.BuildSlice
import Derived.Test.YtamcgggmfghljaaGreatDoorD24
set_option maxRecDepth 100000
set_option maxHeartbeats 8000000
open Go.Proofs.Tryz
namespace Go.Proofs.YtamcgggmfghljaaGreatDoor
open Go.RowKit
theorem zke {H:Type} {enc:TypeId × Value→H} {P:Program} {w:World} {base:Nat} {sp:Nat→Bool} {held:Bool} {fuel:Nat} {t e:TypeId} {n:Nat} {cs:List Value} {zs:List zaa} {p:List MemPlace}
 (ht:P.underlying t=some (.array n e)) (he:P.underlying e=some .string) (hce:P.cellsOf e=1) (hct:P.cellsOf t=n)
 (h:DataW.trod enc P w base sp held fuel t cs=some (.agg (zs.map fun z=>.lit (.string z)),p)):cs=zs.map fun z=>str z:=by
 cases fuel with
 | zero=>simp [DataW.trod] at h
 | succ fuel=>
  simp only [DataW.trod,ht,hce,hct,Nat.mul_one] at h
  split at h
  ·rename_i hl
   obtain ⟨xs,hm,hx⟩:=Option.map_eq_some_iff.1 h
   have hxs:xs.map (·.1)=zs.map fun z=>(DataW.lit (.string z):DataW H):=by
    have:=congrArg Prod.fst hx
    simpa using this
   have hxl:xs.length=n:=by simpa using Lib.mapM_length hm
   have hzl:zs.length=n:=by
    have:=congrArg List.length hxs
    simp at this
    omega
   apply List.ext_getElem?
   intro i
   by_cases hi:i<n
   ·obtain ⟨b,hb,hf⟩:=Lib.mapM_at hm i i (by simp [hi])
    obtain ⟨z,hc,rfl,_⟩:=DataW.trod_string he hf
    have h1:cs[i]?=some (.string z):=by
     have:=congrArg (·[0]?) hc
     simpa [List.getElem?_take,List.getElem?_drop] using this
    have h2:(xs.map (·.1))[i]?=some (DataW.lit (.string z.data.toList):DataW H):=by simp [hb]
    rw [hxs] at h2
    simp only [List.getElem?_map,Option.map_eq_some_iff,DataW.lit.injEq,Lit.string.injEq] at h2
    obtain ⟨z',hz',rfl⟩:=h2
    simp [h1,hz']
   rw [List.getElem?_eq_none (by omega),List.getElem?_eq_none (by simp;omega)]
  cases h
theorem zok {a b c:String × DataW Unit} {W:World} (h:laidMet prog [a,b,c,("louvre/val.words",.agg (zg3.map fun z=>.lit (.string z)))] W):Words W:=by
 obtain ⟨ps,⟨g',t',cs,fuel,p,q,hg',ht',hvar,hd,_,_⟩,_⟩:=h.tail.tail.tail
 have hg:prog.globalNamed "louvre/val.words"=some 0:=by kernel_rfl
 have hty:(prog.globals[0]?).map (·.type)=some 257:=by kernel_rfl
 obtain rfl:=Option.some.inj (hg.symm.trans hg')
 obtain rfl:=Option.some.inj (hty.symm.trans ht')
 have hcs:=zke underlying257 underlying9 (by kernel_rfl) (by kernel_rfl) hd
 have hv:W.var? prog "louvre/val.words"=some (zg3.map fun z=>str z).toArray:=by rw [hvar,← hcs]
 refine ⟨fun j s hj=>World.var?_cell hg hv j |>.trans ?_,?_⟩
 ·simp [hj]
 rcases Nat.lt_or_ge 0 W.heap.size with h | h
 ·exact h
 simp only [World.var?,hg,Option.bind_some] at hv
 rw [Array.getElem?_eq_none h] at hv
 simp at hv
def pow10T:List Value:=[1,10,100,1000,10000,100000,1000000,10000000,100000000,1000000000,10000000000,100000000000,1000000000000,10000000000000,100000000000000,1000000000000000,10000000000000000,100000000000000000,1000000000000000000,10000000000000000000].map fun z=>.int .u64 z
def zs9:List Value:=[0,1,28,2,29,14,24,3,30,22,20,15,25,17,4,8,31,27,13,23,21,19,16,7,26,12,18,6,11,5,10,9].map fun z=>.int .u8 z
def zs8:List Value:=[0,1,56,2,57,49,28,3,61,58,42,50,38,29,17,4,62,47,59,36,45,43,51,22,53,39,33,30,24,18,12,5,63,55,48,27,60,41,37,16,46,35,44,21,52,32,23,11,54,26,40,15,34,20,31,10,25,14,19,9,13,8,7,6].map fun z=>.int .u8 z
def zvw (g:Nat) (l:List Value) (h:Array Obj):Array Obj:=h.modify g fun
 | .cells _ t frozen=>.cells l.toArray t frozen
 | o=>o
def lay4 (h:Array Obj):Array Obj:=zvw 0 (zg3.map fun z=>str z) (zvw 1 pow10T (zvw 2 zs9 (zvw 3 zs8 h)))
def arg1 (fn n:Nat) (p:Nat):Array Value:=#[.pointer (some ⟨p,0,none⟩),.int .u8 fn,.int .i64 n]
theorem arg_ok (e:Int) (f fn n:Nat) (h1:1≤fn) (h2:fn≤50) (hn2:n≤2000) (hl:RunS 224 one1 e f (.level 1)):
 RunS 356 (arg1 fn n) e (f+1) (.arg fn n):=by
 intro p ov st W h hn hf
 have HFO:=Hd hl
 have HH:=Hd h
 simp only [zbd] at hf
 have HWI:Hid (∀W:World,Calls prog 327 #[.int .u8 fn,.int .i64 n] W fun u W'=>u=.returned (.tuple #[.bool (zb9 fn n).1,.int .i64 (zb9 fn n).2])∧W=W'):=Hd (fun W=>zkm fn n h1 h2 hn2 W)
 generalize ht:zak e st=t
 have HR:Hid (parS e (f+1) (.arg fn n) st=if t.kind≠6 then parS e f (.level 1) st
  else if (zb9 fn n).1=false∨(zb9 fn n).2≠0 then .error (t.at_,4)
  else .ok (putS { nod0 3 with rect:=t.rect } (zan st))):=Hd (by subst ht;rfl)
 generalize parS e (f+1) (.arg fn n) st=R at HR ⊢
 generalize zb9 fn n=wd at HWI HR
 obtain ⟨wb,we⟩:=wd
 have HN:Hid (t.kind≠0→st.1≠ []):=Hd (by rw [← ht];exact zd3)
 have HLT:=Hd h.lt
 have HOV:=Hd (show ∀k,W.heap.size≤k→ov.ownBlock≠some k from fun k hk e=>by have:=h.ow.lt _ e;omega)
 clear hl h
 unfold arg1
 go_enter func356,ntmps356
 go_wp2_with fail
 refine (zco p e ov st _ HH.out (by omega)).mono ?_
 rintro u w1 ⟨rfl,hb1⟩
 rw [ht]
 clear ht
 have K1:=Hd (Blk.new w1 239 (cTok t).toArray)
 have HB2:=Hd (show Below W.heap.size W (w1.alloc (.cells (cTok t).toArray 239)) from hb1.alloc hb1.size _)
 have HS1:=Hd hb1.size
 clear hb1
 have H1:=Hd (HH.out.below HB2.out)
 have T1:=Hd (PTo.below (PTo.refl p W ov) HB2.out)
 obtain ⟨W1,hW1⟩:∃W1,w1.alloc (.cells (cTok t).toArray 239)=W1:=⟨_,rfl⟩
 rw [hW1] at K1 HB2 H1 T1
 rw [show (cTok t).toArray=#[.int .u8 t.kind,.int .i64 t.num,str t.text,.int .i64 t.rect.c1,.int .i64 t.rect.r1,.int .i64 t.rect.c2,.int .i64 t.rect.r2,.int .i64 t.at_] from rfl] at hW1 ⊢
 obtain ⟨g,hg⟩:∃g,g=w1.heap.size:=⟨_,rfl⟩
 rw [← hg] at K1 HS1
 have HGN:=Hd (show g≠p by have:=HLT.out;have:=HS1.out;omega)
 have HGO:=Hd (HOV.out g HS1.out)
 go_upto_region 1 with (fail)
 rw [← hg]
 clear hW1 hg
 have x0:W1.cell? ⟨g,0,none⟩=some (.int .u8 t.kind):=K1.out.cell 0
 have x7:W1.cell? ⟨g,7,none⟩=some (.int .i64 t.at_):=K1.out.cell 7
 by_cases h6:t.kind=6
 rotate_left
 ·have b6:(t.kind != 6)=true:=by simpa using h6
  have HR2:=Hd (HR.out.trans (if_pos h6))
  clear h6 HR
  go_wp2_with fail
  refine (HFO.out p ov st _ H1.out hn (by simp only [zbd];omega)).mono ?_
  intro u w2 hw
  rcases zax hw with ⟨s2,ov2,hr,rfl,ha,ht⟩ | ⟨a,er,hr,rfl,hb⟩
  ·have HR3:=Hd (HR2.out.trans hr)
   have H2:=Hd ha
   have T2:=Hd (T1.out.trans ht)
   clear ha ht hr hw
   go_wp2
   refine bR ?_
   exact zbg HR3.out H2.out T2.out
  have HR3:=Hd (HR2.out.trans hr)
  have HB3:=Hd ((T1.out.old' HH.out).trans hb)
  clear hr hw hb
  unfold flt
  go_wp2
  exact ⟨rfl,zaw HR3.out HB3.out⟩
 have b6:(t.kind != 6)=false:=by simpa using h6
 have hne:=HN.out (by omega)
 have HR2:=Hd (HR.out.trans (if_neg (by simpa using h6)))
 clear h6 HR
 go_wp2_with fail
 refine (HWI.out _).mono ?_
 rintro u w2 ⟨rfl,rfl⟩
 by_cases hw:wb=false∨we≠0
 ·have HR3:=Hd (HR2.out.trans (if_pos hw))
  have HX:Hid (wb=false∨we≠0):=Hd hw
  clear hw HR2
  rcases Bool.eq_false_or_eq_true wb with hwb | hwb
  ·have he:(we != 0)=true:=by
    rcases HX.out with h | h
    ·rw [hwb] at h;cases h
    simpa using h
   subst hwb
   clear HX
   go_wp2_with fail
   refine (zcp _ t.at_ 4 _).mono ?_
   rintro u w3 ⟨rfl,rfl⟩
   unfold flt
   go_wp2
   exact ⟨rfl,zaw HR3.out (T1.out.old' HH.out)⟩
  subst hwb
  clear HX
  go_wp2_with fail
  refine (zcp _ t.at_ 4 _).mono ?_
  rintro u w3 ⟨rfl,rfl⟩
  unfold flt
  go_wp2
  exact ⟨rfl,zaw HR3.out (T1.out.old' HH.out)⟩
 have HR3:=Hd (HR2.out.trans (if_neg hw))
 obtain ⟨ha,hb⟩:=not_or.1 hw
 have hwb:wb=true:=eq_true_of_ne_false ha
 have hwe:we=0:=Decidable.not_not.1 hb
 subst hwb hwe
 clear hw ha hb HR2
 go_wp2_with fail
 refine (zbu p e ov st _ H1.out (by omega) hne).mono ?_
 rintro u w3 ⟨rfl,ha,ht⟩
 have H2:=Hd ha
 have T2:=Hd (T1.out.trans ht)
 have K2:=Hd (ht.blk K1.out HGN.out HGO.out)
 clear ha ht
 have y3:w3.cell? ⟨g,3,none⟩=some (.int .i64 t.rect.c1):=K2.out.cell 3
 have y4:w3.cell? ⟨g,4,none⟩=some (.int .i64 t.rect.r1):=K2.out.cell 4
 have y5:w3.cell? ⟨g,5,none⟩=some (.int .i64 t.rect.c2):=K2.out.cell 5
 have y6:w3.cell? ⟨g,6,none⟩=some (.int .i64 t.rect.r2):=K2.out.cell 6
 go_wp2_with fail
 refine (zdq p e ov (zan st) { nod0 3 with rect:=t.rect } _ H2.out (by rw [zah];omega)).mono ?_
 rintro u w4 ⟨rfl,ov3,ha,ht⟩
 have H3:=Hd ha
 have T3:=Hd (T2.out.trans ht)
 clear ha ht
 go_wp2
 refine bE ?_
 exact zbg HR3.out H3.out T3.out
def zbm:Array Value:=(zbh.map str).toArray
theorem zon (W:World):Calls prog 364 #[] W fun u W'=>u=.returned (.agg zbm)∧Below W.heap.size W W':=by
 go_enter func364,ntmps364
 go_upto_region 1 with (fail)
 apply wp_region_lit
 refine wpList_buildTo rfl 355 _ rfl (some 1) rfl zbm (by kernel_rfl) ?_
 refine wpList_store_row rfl 355 (.tmp 0) (.tmp 1) rfl W.heap.size zbm rfl rfl 355 _ (heap_alloc_new W _) (by kernel_rfl) (by kernel_rfl) (by kernel_rfl) ?_
 rw [zil]
 refine wpList_nil ?_
 have HB:=Hd (show Below W.heap.size W (W.alloc (.cells zbm 355)) from by go_grown)
 refine (by assumption:∀(a:Act) (w:World),Code.wp prog Code.ret _ a w→_) _ _ ?_
 refine wp_ret ?_
 refine bodyPost_ret (results_cell_row rfl _ _ W.heap.size 355 zbm (0,0) _ (by rfl) (heap_alloc_new W _) underlying355 rfl (by kernel_rfl)) rfl ?_
 exact ⟨rfl,HB.out⟩
def cStr (b:zaa):List Value:=[str b]
def idxS (l:List zaa) (s:zaa):Int:=if l.contains s then (l.idxOf s:Int) else -1
theorem zw7 (s:zaa):∀(l:List zaa) (k:Nat),k<l.idxOf s→l[k]?≠some s
 | [],k,h=>by simp
 | x::l,0,h=>by
  intro e
  simp at e
  subst e
  simp at h
 | x::l,k+1,h=>by
  rw [List.idxOf_cons] at h
  by_cases hx:x=s
  ·simp [hx] at h
  have hx':(x==s)=false:=by simpa using hx
  rw [hx'] at h
  simp at h
  simpa using zw7 s l k h
theorem zy2 (l:List zaa) (s:zaa) (k:Nat) (hk:l[k]?=some s) (h:∀j,j<k→l[j]?≠some s):idxS l s=k:=by
 have hlt:=(List.getElem?_eq_some_iff.1 hk).1
 have hm:s∈l:=List.mem_of_getElem? hk
 unfold idxS
 rw [if_pos (by simpa using hm)]
 have h1:l.idxOf s<l.length:=List.idxOf_lt_length_of_mem hm
 have h2:l[l.idxOf s]?=some s:=by rw [List.getElem?_eq_getElem h1,List.getElem_idxOf]
 rcases Nat.lt_trichotomy (l.idxOf s) k with c | c | c
 ·exact absurd h2 (h _ c)
 ·rw [c]
 exact absurd hk (zw7 s l k c)
theorem zv3 (l:List zaa) (s:zaa) (h:∀j,j<l.length→l[j]?≠some s):idxS l s= -1:=by
 unfold idxS
 rw [if_neg]
 intro hc
 have hm:s∈l:=by simpa using hc
 obtain ⟨j,hj,e⟩:=List.getElem_of_mem hm
 exact h j hj (by rw [List.getElem?_eq_getElem hj,e])
theorem zsg (B:Nat) (v:Value) (l:List zaa) (s:zaa) (W:World) (h:Sls cStr W B v l) (hl:l.length≤1000):
 Calls prog 365 #[v,str s] W fun u W'=>u=.returned (.int .i64 (idxS l s))∧W=W':=by
 obtain ⟨A,cap,rfl,hc,hm,hr⟩:=id h
 have HS:=Hd h
 clear h hr hm
 generalize hn:l.length=n at hc hl
 have HNn:=Hd hn
 clear hn
 go_enter func365,ntmps365
 go_wp2_with fail
 go_loopw [8] (fun v wr=>∃k:Nat,k≤n∧v=.int .i64 k∧(∀j,j<k→l[j]?≠some s)∧W=wr) (fun v _=>n-(intOf v).toNat)
 case atStart=>exact ⟨0,by omega,rfl,fun j hj=>by omega,rfl⟩
 obtain ⟨k,hk,rfl,hz,rfl⟩:=hrel
 have HZ:=Hd hz
 clear hz
 by_cases hkn:k<n
 rotate_left
 ·have hk1:¬(k:Int)<(n:Int):=by omega
  have HE:=Hd (zv3 l s (fun j hj=>HZ.out j (by rw [HNn.out] at hj;omega)))
  go_wp2
  go_ret
  exact ⟨by rw [HE.out];rfl,rfl⟩
 have hk1:(k:Int)<(n:Int):=by omega
 have k0:(0:Int)≤(k:Int):=by omega
 have hlk:k<l.length:=by rw [HNn.out];exact hkn
 have hx:l[k]?=some l[k]:=List.getElem?_eq_getElem hlk
 have HS2:=HS.out
 rw [HNn.out] at HS2
 obtain ⟨b,o,rfl,hb,hrg⟩:=HS2.get 1 (fun _=>rfl) hx
 generalize hx0:l[k]=x at hx hrg
 have hc0:W.cell? ⟨b,o+k,none⟩=some (str x):=by
  have:=hrg 0 (str x) rfl
  simpa using this
 have HX:=Hd hx
 clear hx hx0 hrg HS2 hlk
 by_cases hsx:s=x
 ·have HE:=Hd (zy2 l s k (by rw [HX.out,hsx]) HZ.out)
  have be:(s==x)=true:=by simpa using hsx
  clear hsx
  go_wp2
  go_ret
  exact ⟨by rw [HE.out];rfl,rfl⟩
 have HZ2:=Hd (show ∀j,j<k+1→l[j]?≠some s from fun j hj=>by
  rcases Nat.lt_or_ge j k with c | c
  ·exact HZ.out j c
  obtain rfl:j=k:=by omega
  rw [HX.out]
  exact fun e=>hsx (Option.some.inj e).symm)
 have be:(s==x)=false:=by simpa using hsx
 clear hsx
 go_wp2
 exact ⟨⟨k+1,by omega,by go_num,HZ2.out,trivial⟩,by simp [intOf];omega⟩
theorem ziv:zbm.size=50:=by decide
theorem zl4 (w:World) (cur:Array Value) (hc:cur.size=50):(storeCells ⟨w.heap.size,0,none⟩ zbm.toList).run prog (w.alloc (.cells cur 355))=.ok () (w.alloc (.cells zbm 355)):=by
 have h:=run_storeCells_at prog w.heap.size 0 355 zbm.toList 0 cur (w.alloc (.cells cur 355)) (heap_alloc_new w _) (by rw [Array.length_toList,ziv,hc];omega) (by
  intro v hv
  simp only [zbm,List.mem_map] at hv
  obtain ⟨x,_,rfl⟩:=hv
  rfl)
 rw [h,zil]
 congr 3
 apply Array.ext'
 simp [ziv,hc]
theorem zru (w:World):Sls cStr (w.alloc (.cells zbm 355)) (w.heap.size+1) (.slice (some ⟨w.heap.size,0,none⟩) 50 50) zbh:=
 ⟨_,50,rfl,Nat.le_refl _,by unfold maxLen;decide,fun _=>⟨w.heap.size,0,rfl,Nat.lt_succ_self _,(Blk.new w 355 zbm).range fun j v hv=>by
  rw [Nat.zero_add]
  have e:zbm.toList=zbh.flatMap cStr:=rfl
  rw [← Array.getElem?_toList,e]
  exact hv⟩⟩
theorem zsk (s:zaa) (h:zbh.contains s=true):∃i:Nat,i<50∧idxS zbh s=i∧fnOf s=i+1:=by
 refine ⟨zbh.idxOf s,List.idxOf_lt_length_of_mem (by simpa using h),?_,?_⟩
 ·unfold idxS;rw [if_pos h]
 unfold fnOf;rw [if_pos h]
theorem zsl (s:zaa) (h:zbh.contains s=false):idxS zbh s= -1∧fnOf s=0:=by
 unfold idxS fnOf
 rw [h]
 exact ⟨rfl,rfl⟩
theorem zjb (s:zaa) (W:World):Calls prog 355 #[str s] W fun u W'=>(∃er:Int,(er=0↔fnOf s≠0)∧u=.returned (.tuple #[.int .u8 (fnOf s),.int .i64 er]))∧Below W.heap.size W W':=by
 go_enter func355,ntmps355
 go_wp2_with fail
 refine (zon _).mono ?_
 rintro u w1 ⟨rfl,hb1⟩
 go_wp2_with fail
 rw [zl4 w1 _ rfl]
 go_simp
 go_wp2_with fail
 refine (zsg (w1.heap.size+1) _ zbh s _ (zru w1) (by decide)).mono ?_
 rintro u w2 ⟨rfl,rfl⟩
 have HB:=Hd (show Below W.heap.size W (w1.alloc (.cells zbm 355)) from hb1.alloc hb1.size _)
 clear hb1
 cases hc:zbh.contains s with
 | true=>
  obtain ⟨i,hi,e1,e2⟩:=zsk s hc
  rw [e1]
  have E2:=Hd e2
  have i0:(0:Int)≤(i:Int):=by omega
  have i1:(i:Int)<50:=by omega
  clear e1 e2 hc
  go_wp2
  go_ret2
  exact ⟨⟨0,by rw [E2.out];simp,by rw [E2.out];rfl⟩,HB.out⟩
 | false=>
  obtain ⟨e1,e2⟩:=zsl s hc
  rw [e1]
  have E2:=Hd e2
  clear e1 e2 hc
  go_wp2
  go_ret2
  exact ⟨⟨6,by rw [E2.out];simp,by rw [E2.out];rfl⟩,HB.out⟩
theorem ztd (fn:Nat) (h1:1≤fn) (h2:fn≤50):1≤(zam fn).1:=by
 unfold zam
 repeat' split
 all_goals first | decide | omega
theorem zv5 (s:zaa) (h:fnOf s≠0):1≤fnOf s∧fnOf s≤50:=by
 cases hc:zbh.contains s with
 | true=>
  obtain ⟨i,hi,_,e⟩:=zsk s hc
  omega
 | false=>exact absurd (zsl s hc).2 h
theorem zzc (e:Int) (f:Nat) (hl:∀f' fn n,f'≤f→1≤fn→fn≤50→n≤2000→RunS 356 (arg1 fn n) e f' (.arg fn n)):ztn e (f+1):=by
 intro t p ov st W h hn hf ht hk
 have HL:=Hd hl
 have HH:=Hd h
 have HLT:=Hd h.lt
 have HOV:=Hd (show ∀k,W.heap.size≤k→ov.ownBlock≠some k from fun k hk e=>by have:=h.ow.lt _ e;omega)
 have hne:st.1≠ []:=zd3 (e:=e) (by rw [ht,hk];decide)
 have HR:Hid (parS e (f+1) (.call t) st=if fnOf t.text=0 then .error (t.at_,10) else
  thenS (zd6 e 9 (zan st)) fun st=>if (zak e st).kind=10 then zd5 e t (fnOf t.text) 0 st else parS e f (.args t (fnOf t.text) 0) st):=Hd rfl
 generalize parS e (f+1) (.call t) st=R at HR ⊢
 clear hl h ht hk
 have K0:=Hd (Blk.new W 239 (cTok t).toArray)
 have HB0:=Hd (show Below W.heap.size W (W.alloc (.cells (cTok t).toArray 239)) from by go_grown)
 rw [show (cTok t).toArray=#[.int .u8 t.kind,.int .i64 t.num,str t.text,.int .i64 t.rect.c1,.int .i64 t.rect.r1,.int .i64 t.rect.c2,.int .i64 t.rect.r2,.int .i64 t.at_] from rfl] at K0 HB0 ⊢
 have H0:=Hd (HH.out.below HB0.out)
 go_enter func343,ntmps343
 go_upto_region 1 with (fail)
 obtain ⟨W1,hW1⟩:∃W1,W.alloc (.cells #[.int .u8 t.kind,.int .i64 t.num,str t.text,.int .i64 t.rect.c1,.int .i64 t.rect.r1,.int .i64 t.rect.c2,.int .i64 t.rect.r2,.int .i64 t.at_] 239)=W1:=⟨_,rfl⟩
 rw [hW1] at K0 HB0 H0 ⊢
 clear hW1
 have KU:Hid (∀W' ov',PTo p W1 ov W' ov'→Blk W' W.heap.size 239 #[.int .u8 t.kind,.int .i64 t.num,str t.text,.int .i64 t.rect.c1,.int .i64 t.rect.r1,.int .i64 t.rect.c2,.int .i64 t.rect.r2,.int .i64 t.at_]):=Hd (fun W' ov' h=>h.blk K0.out (by have:=HLT.out;omega) (HOV.out _ (Nat.le_refl _)))
 have BU:Hid (∀W' ov',PTo p W1 ov W' ov'→Below p W W'):=Hd (fun W' ov' h=>(HB0.out.mono (Nat.le_of_lt HLT.out)).trans (h.old (by have:=H0.out.lt;omega) HH.out.ob))
 have TU:Hid (∀W' ov',PTo p W1 ov W' ov'→PTo p W ov W' ov'):=Hd (fun W' ov' h=>(PTo.below (PTo.refl p W ov) HB0.out).trans h)
 have x2:W1.cell? ⟨W.heap.size,2,none⟩=some (str t.text):=K0.out.cell 2
 have x7:W1.cell? ⟨W.heap.size,7,none⟩=some (.int .i64 t.at_):=K0.out.cell 7
 go_wp2_with fail
 refine (zjb t.text _).mono ?_
 rintro u w2 ⟨⟨er,her,rfl⟩,hb2⟩
 have H2:=Hd (H0.out.below hb2)
 have U2:=Hd (PTo.below (PTo.refl p W1 ov) hb2)
 clear hb2 x2 x7
 by_cases hf0:fnOf t.text=0
 ·have x7:w2.cell? ⟨W.heap.size,7,none⟩=some (.int .i64 t.at_):=(KU.out _ _ U2.out).cell 7
  have HR2:=Hd (HR.out.trans (if_pos hf0))
  have be:(er != 0)=true:=by
   have:¬er=0:=fun h=>her.1 h hf0
   simpa using this
  clear her hf0 HR
  generalize fnOf t.text=fn
  go_wp2_with fail
  refine (zcp _ t.at_ 10 _).mono ?_
  rintro u w3 ⟨rfl,rfl⟩
  unfold flt
  go_wp2
  exact ⟨rfl,zaw HR2.out (BU.out _ _ U2.out)⟩
 have HR2:=Hd (HR.out.trans (if_neg hf0))
 have he0:er=0:=her.2 hf0
 have HFR:=Hd (zv5 t.text hf0)
 subst he0
 clear her hf0 HR
 generalize hfn:fnOf t.text=fn at HR2 HFR ⊢
 clear hfn
 go_wp2_with fail
 refine (zbu p e ov st _ H2.out (by omega) hne).mono ?_
 rintro u w3 ⟨rfl,ha,ht⟩
 have hpos:1≤st.1.length:=List.length_pos_iff.2 hne
 have H3:=Hd ha
 have U3:=Hd (U2.out.trans ht)
 clear ha ht
 go_wp2_with fail
 refine (znn p e ov (zan st) 9 _ H3.out (by rw [zaj];omega) (by decide)).mono ?_
 intro u w4 hw
 rcases zax hw with ⟨s4,ov4,hr,rfl,ha,ht⟩ | ⟨a,er,hr,rfl,hb⟩
 rotate_left
 ·have HR3:=Hd (show R=.error (a,er) by rw [HR2.out,hr];rfl)
  have HB3:=Hd ((BU.out _ _ U3.out).trans hb)
  clear hr hw hb
  unfold flt
  go_wp2
  exact ⟨rfl,zaw HR3.out HB3.out⟩
 have HS4:=Hd (zg4 (by decide) hr)
 have HR3:=Hd (show R=if (zak e s4).kind=10 then zd5 e t fn 0 s4 else parS e f (.args t fn 0) s4 by rw [HR2.out,hr];rfl)
 have H4:=Hd ha
 have U4:=Hd (U3.out.trans ht)
 have HL4:=Hd (show s4.1.length+2=st.1.length∧s4.2=st.2 by
  obtain ⟨h1,h2⟩:=HS4.out
  rw [h1,zaj,zaj,zah,zah]
  rw [zaj] at h2
  exact ⟨by omega,rfl⟩)
 clear ha ht hr hw HR2
 go_wp2_with fail
 refine (zco p e ov4 s4 _ H4.out (by have:=HL4.out;omega)).mono ?_
 rintro u w5 ⟨rfl,hb5⟩
 have H5:=Hd (H4.out.below hb5)
 have U5:=Hd (PTo.below U4.out hb5)
 clear hb5
 generalize hq:zak e s4=q at HR3 ⊢
 have HQ:=Hd hq
 clear hq
 rw [show (cTok q).toArray=#[.int .u8 q.kind,.int .i64 q.num,str q.text,.int .i64 q.rect.c1,.int .i64 q.rect.r1,.int .i64 q.rect.c2,.int .i64 q.rect.r2,.int .i64 q.at_] from rfl]
 have hfi:∀W:World,(Instr.field 239 (.agg #[.int .u8 q.kind,.int .i64 q.num,str q.text,.int .i64 q.rect.c1,.int .i64 q.rect.r1,.int .i64 q.rect.c2,.int .i64 q.rect.r2,.int .i64 q.at_]) 0).run prog W=.ok (.int .u8 q.kind) W:=fun W=>by rfl
 by_cases h10:q.kind=10
 ·have b10:(q.kind != 10)=false:=by simpa using h10
  have HR4:=Hd (HR3.out.trans (if_pos h10))
  have H10:=Hd h10
  clear HR3 h10
  go_wp2_with fail
  refine (zco p e ov4 s4 _ H5.out (by have:=HL4.out;omega)).mono ?_
  rintro u w6 ⟨rfl,hb6⟩
  rw [HQ.out]
  have U6:=Hd (PTo.below U5.out (hb6.alloc hb6.size (.cells (cTok q).toArray 239)))
  have KQ:=Hd (Blk.new w6 239 (cTok q).toArray)
  clear hb6
  obtain ⟨W6,hW6⟩:∃W6,w6.alloc (.cells (cTok q).toArray 239)=W6:=⟨_,rfl⟩
  rw [hW6] at U6 KQ
  rw [show (cTok q).toArray=#[.int .u8 q.kind,.int .i64 q.num,str q.text,.int .i64 q.rect.c1,.int .i64 q.rect.r1,.int .i64 q.rect.c2,.int .i64 q.rect.r2,.int .i64 q.at_] from rfl] at hW6 KQ ⊢
  go_upto_region 13 with (fail)
  clear hW6
  have y0:W6.cell? ⟨w6.heap.size,0,none⟩=some (.int .u8 q.kind):=KQ.out.cell 0
  have x7:W6.cell? ⟨W.heap.size,7,none⟩=some (.int .i64 t.at_):=(KU.out _ _ U6.out).cell 7
  have ha1:=ztd fn HFR.out.1 HFR.out.2
  have HA:=Hd (zey fn HFR.out.1 HFR.out.2 W6)
  have HD:Hid (zd5 e t fn 0 s4=.error (t.at_,11)):=Hd (by
   unfold zd5
   rw [HQ.out,if_neg (by simpa using H10.out),if_pos (.inl (by omega))])
  generalize (zam fn).1=m0 at HA ha1
  generalize (zam fn).2.1=m1 at HA
  generalize (zam fn).2.2=m2 at HA
  have m0p:(0:Int)<m0:=by omega
  clear ha1
  go_wp2_with fail
  refine HA.out.mono ?_
  rintro u w7 ⟨rfl,rfl⟩
  go_wp2_with fail
  refine (zcp _ t.at_ 11 _).mono ?_
  rintro u w8 ⟨rfl,rfl⟩
  unfold flt
  go_wp2
  exact ⟨rfl,zaw (HR4.out.trans HD.out) (BU.out _ _ U6.out)⟩
 have b10:(q.kind != 10)=true:=by simpa using h10
 have HR4:=Hd (HR3.out.trans (if_neg h10))
 clear HR3 h10 HQ
 go_wp2_with fail
 go_loopw [6] (fun nv wr=>∃(n:Nat) (f':Nat) (s':PSt) (ov':Value),nv=.int .i64 n∧R=parS e f' (.args t fn n) s'∧10*s'.1.length+13≤f'∧f'≤f+1∧n+s'.1.length≤2000∧s'.1.length+s'.2.length≤2000∧PA wr p e ov' s'∧PTo p W1 ov wr ov') (fun _ wr=>zpw p wr)
 case atStart=>exact ⟨0,f,s4,ov4,rfl,HR4.out,by have:=HL4.out;omega,by omega,by have:=HL4.out;omega,by have:=HL4.out;rw [this.2];omega,H5.out,U5.out⟩
 obtain ⟨n,f',s',ov',rfl,hr,hf',hff,hns,hn',ha,ht⟩:=hrel
 obtain ⟨f2,rfl⟩:∃f2,f'=f2+1:=⟨f'-1,by omega⟩
 have HR5:=Hd (show R=thenS (parS e f2 (.arg fn n) s') fun st=>if (zak e st).kind=11 then parS e f2 (.args t fn (n+1)) (zan st) else zd5 e t fn (n+1) st from hr)
 have H6:=Hd ha
 have U6:=Hd ht
 have HLA:=Hd (zdy ha)
 have n0:(0:Int)≤(n:Int):=by omega
 have n1:(n:Int)≤2000:=by omega
 clear hr ha ht HR4
 go_wp2_with fail
 refine (HL.out f2 fn n (by omega) HFR.out.1 HFR.out.2 (by omega) p ov' s' _ H6.out hn' (by simp only [zbd];omega)).mono ?_
 intro u w7 hw
 rcases zax hw with ⟨s7,ov7,hr,rfl,ha,ht⟩ | ⟨a,er,hr,rfl,hb⟩
 rotate_left
 ·have HR6:=Hd (show R=.error (a,er) by rw [HR5.out,hr];rfl)
  have HB6:=Hd ((BU.out _ _ U6.out).trans hb)
  clear hr hw hb
  unfold flt
  go_wp2
  exact ⟨rfl,zaw HR6.out HB6.out⟩
 have HL7:=Hd (za0 e f2 _ _ _ hr)
 have HG7:=Hd (zbi e f2 _ _ _ hr)
 have HR6:=Hd (show R=if (zak e s7).kind=11 then parS e f2 (.args t fn (n+1)) (zan s7) else zd5 e t fn (n+1) s7 by rw [HR5.out,hr];rfl)
 have H7:=Hd ha
 have U7:=Hd (U6.out.trans ht)
 clear ha ht hr hw HR5
 go_wp2_with fail
 refine (zco p e ov7 s7 _ H7.out (by have:=HL7.out;omega)).mono ?_
 rintro u w8 ⟨rfl,hb8⟩
 have H8:=Hd (H7.out.below hb8)
 have U8:=Hd (PTo.below U7.out hb8)
 clear hb8
 have HN8:Hid ((zak e s7).kind≠0→s7.1≠ []):=Hd zd3
 generalize hq8:zak e s7=q8 at HR6 HN8 ⊢
 have HQ8:=Hd hq8
 clear hq8
 rw [show (cTok q8).toArray=#[.int .u8 q8.kind,.int .i64 q8.num,str q8.text,.int .i64 q8.rect.c1,.int .i64 q8.rect.r1,.int .i64 q8.rect.c2,.int .i64 q8.rect.r2,.int .i64 q8.at_] from rfl]
 have hfi8:∀W:World,(Instr.field 239 (.agg #[.int .u8 q8.kind,.int .i64 q8.num,str q8.text,.int .i64 q8.rect.c1,.int .i64 q8.rect.r1,.int .i64 q8.rect.c2,.int .i64 q8.rect.r2,.int .i64 q8.at_]) 0).run prog W=.ok (.int .u8 q8.kind) W:=fun W=>by rfl
 by_cases h11:q8.kind=11
 ·have b11:(q8.kind != 11)=false:=by simpa using h11
  have HR7:=Hd (HR6.out.trans (if_pos h11))
  have hne8:=HN8.out (by omega)
  have hpos8:1≤s7.1.length:=List.length_pos_iff.2 hne8
  clear h11 HR6
  go_wp2_with fail
  refine (zbu p e ov7 s7 _ H8.out (by have:=HL7.out;omega) hne8).mono ?_
  rintro u w9 ⟨rfl,ha,ht⟩
  have H9:=Hd ha
  have U9:=Hd (U8.out.trans ht)
  have HL9:=Hd (zdy ha)
  clear ha ht
  go_wp2
  exact ⟨⟨n+1,f2,zan s7,ov7,by go_num,HR7.out,by have:=HL7.out;rw [zaj];simp only [zay] at this;omega,by omega,by have:=HL7.out;rw [zaj];simp only [zay] at this;omega,by have:=HL7.out;rw [zaj,zah];simp only [zay] at this;omega,H9.out,U9.out⟩,by rw [HL9.out,HLA.out,zaj];have:=HL7.out;simp only [zay] at this;omega⟩
 have b11:(q8.kind != 11)=true:=by simpa using h11
 have HR7:=Hd (HR6.out.trans (if_neg h11))
 clear h11 HR6 b10
 go_wp2_with fail
 refine (zco p e ov7 s7 _ H8.out (by have:=HL7.out;omega)).mono ?_
 rintro u w9 ⟨rfl,hb9⟩
 rw [HQ8.out]
 have H9:=Hd (H8.out.below (hb9.alloc hb9.size (.cells (cTok q8).toArray 239)))
 have U9:=Hd (PTo.below U8.out (hb9.alloc hb9.size (.cells (cTok q8).toArray 239)))
 have KQ:=Hd (Blk.new w9 239 (cTok q8).toArray)
 clear hb9
 obtain ⟨W9,hW9⟩:∃W9,w9.alloc (.cells (cTok q8).toArray 239)=W9:=⟨_,rfl⟩
 rw [hW9] at H9 U9 KQ
 rw [show (cTok q8).toArray=#[.int .u8 q8.kind,.int .i64 q8.num,str q8.text,.int .i64 q8.rect.c1,.int .i64 q8.rect.r1,.int .i64 q8.rect.c2,.int .i64 q8.rect.r2,.int .i64 q8.at_] from rfl] at hW9 KQ ⊢
 go_upto_region 13 with (fail)
 clear hW9
 have y0:W9.cell? ⟨w9.heap.size,0,none⟩=some (.int .u8 q8.kind):=KQ.out.cell 0
 have y7:W9.cell? ⟨w9.heap.size,7,none⟩=some (.int .i64 q8.at_):=KQ.out.cell 7
 have x7:W9.cell? ⟨W.heap.size,7,none⟩=some (.int .i64 t.at_):=(KU.out _ _ U9.out).cell 7
 by_cases h10:q8.kind=10
 rotate_left
 ·have c10:(q8.kind != 10)=true:=by simpa using h10
  have HD:=Hd (show R=.error (q8.at_,4) by
   rw [HR7.out]
   unfold zd5
   rw [HQ8.out,if_pos h10])
  clear h10
  go_wp2_with fail
  refine (zcp _ q8.at_ 4 _).mono ?_
  rintro u w10 ⟨rfl,rfl⟩
  unfold flt
  go_wp2
  exact ⟨rfl,zaw HD.out (BU.out _ _ U9.out)⟩
 have c10:(q8.kind != 10)=false:=by simpa using h10
 have hne8:=HN8.out (by omega)
 have HA:=Hd (zey fn HFR.out.1 HFR.out.2 W9)
 have HD:Hid (R=if ((n+1:Nat):Int)<(zam fn).1∨(zam fn).2.1<((n+1:Nat):Int) then .error (t.at_,11) else if 46≤fn∧(s7.2.getLast?.map (·.kind))≠some 2∧(s7.2.getLast?.map (·.kind))≠some 3 then .error (t.at_,4) else .ok (putS { nod0 7 with fn:=fn,n:=(n+1:Nat) } (zan s7))):=Hd (by
  rw [HR7.out]
  unfold zd5
  rw [HQ8.out,if_neg (by simpa using h10)])
 clear h10 HR7
 rw [show ((n+1:Nat):Int)=(n:Int)+1 by omega] at HD
 generalize (zam fn).1=m0 at HA HD
 generalize (zam fn).2.1=m1 at HA HD
 generalize (zam fn).2.2=m2 at HA
 go_wp2_with fail
 refine HA.out.mono ?_
 rintro u w10 ⟨rfl,rfl⟩
 by_cases hm:(n:Int)+1<m0∨m1<(n:Int)+1
 ·have HD2:=Hd (HD.out.trans (if_pos hm))
  have HM:=Hd hm
  clear HD hm
  by_cases hm0:(n:Int)+1<m0
  ·go_wp2_with fail
   refine (zcp _ t.at_ 11 _).mono ?_
   rintro u w11 ⟨rfl,rfl⟩
   unfold flt
   go_wp2
   exact ⟨rfl,zaw HD2.out (BU.out _ _ U9.out)⟩
  have hm1:m1<(n:Int)+1:=HM.out.resolve_left hm0
  go_wp2_with fail
  refine (zcp _ t.at_ 11 _).mono ?_
  rintro u w11 ⟨rfl,rfl⟩
  unfold flt
  go_wp2
  exact ⟨rfl,zaw HD2.out (BU.out _ _ U9.out)⟩
 have HD2:=Hd (HD.out.trans (if_neg hm))
 have hm0:¬(n:Int)+1<m0:=fun h=>hm (.inl h)
 have hm1:¬m1<(n:Int)+1:=fun h=>hm (.inr h)
 clear HD hm
 obtain ⟨m,hm⟩:∃m,s7.2.length=m+1:=⟨s7.2.length-1,by have:=HG7.out;simp only [zay] at this;omega⟩
 have hx:=List.getElem?_eq_getElem (l:=s7.2) (i:=m) (by omega)
 have hlast:s7.2.getLast?=some (s7.2[m]'(by omega)):=by rw [List.getLast?_eq_getElem?,show s7.2.length-1=m by omega];exact hx
 generalize s7.2[m]'(by omega)=x at hx hlast
 obtain ⟨g,cap,hv,hcells⟩:∃g cap,ov7=.slice (some ⟨g,0,none⟩) (m+1) cap∧W9.cell? ⟨g,m*11,none⟩=some (.int .u8 x.kind):=by
  obtain ⟨g,cap,hv,_⟩:=World.ownsRow.form H9.out.ow (by omega)
  have hs:=H9.out.ow.sls (by have:=HL7.out;unfold maxLen;omega)
  rw [hv] at hs
  obtain ⟨b,o,e1,_,hr⟩:=Sls.get hs 11 zbq hx
  injection e1 with e1
  injection e1 with e1 e2
  subst e1 e2
  refine ⟨g,cap,by rw [hv,hm],?_⟩
  have:=hr 0 _ rfl
  rwa [Nat.zero_add,Nat.add_zero] at this
 have HD4:Hid (R=if 46≤fn∧x.kind≠2∧x.kind≠3 then .error (t.at_,4) else .ok (putS { nod0 7 with fn:=fn,n:=(n:Int)+1 } (zan s7))):=Hd (by
  rw [HD2.out,hlast]
  simp only [Option.map_some,ne_eq,Option.some.injEq])
 obtain ⟨lv,hbx,_⟩:=H9.out.bx
 have p2:W9.cell? ⟨p,2,none⟩=some (.slice (some ⟨g,0,none⟩) (m+1) cap):=by rw [← hv];exact hbx.cell 2
 have HV:=Hd hv
 have hmz:(0:Int)≤(m:Int):=by omega
 have hmy:(m:Int)≤2000:=by have:=HL7.out;omega
 clear hx hlast hm hv hbx HD2
 generalize x.kind=xk at HD4 hcells
 clear x
 go_upto_region 18 with (fail)
 go_region
 have HH10:=Hd (H9.out.below ((Below.refl _ _).drew))
 have UU10:=Hd (PTo.below U9.out ((Below.refl _ _).drew))
 clear hcells p2 H9 U9
 have H9:=HH10
 have U9:=UU10
 clear HH10 UU10
 by_cases h46:46≤fn
 rotate_left
 ·have g46:¬(46:Int)≤(fn:Int):=by omega
  have HD3:=Hd (HD4.out.trans (if_neg (fun h=>h46 h.1)))
  clear HD4
  go_wp2_with fail
  refine (zbu p e _ s7 _ H9.out (by have:=HL7.out;omega) hne8).mono ?_
  rintro u w11 ⟨rfl,ha,ht⟩
  have H11:=Hd ha
  have U11:=Hd (U9.out.trans ht)
  clear ha ht
  go_wp2_with fail
  refine (zdq p e _ (zan s7) { nod0 7 with fn:=fn,n:=(n:Int)+1 } _ H11.out (by have:=HL7.out;rw [zah];omega)).mono ?_
  rintro u w12 ⟨rfl,ov12,ha,ht⟩
  have H12:=Hd ha
  have U12:=Hd (U11.out.trans ht)
  clear ha ht
  go_wp2
  refine bE ?_
  exact zbg HD3.out H12.out (TU.out _ _ U12.out)
 have g46:(46:Int)≤(fn:Int):=by omega
 by_cases k2:xk=2
 ·have b2:(xk != 2)=false:=by simpa using k2
  have HD3:=Hd (HD4.out.trans (if_neg (fun h=>h.2.1 k2)))
  clear HD4
  go_wp2_with fail
  refine (zbu p e _ s7 _ H9.out (by have:=HL7.out;omega) hne8).mono ?_
  rintro u w11 ⟨rfl,ha,ht⟩
  have H11:=Hd ha
  have U11:=Hd (U9.out.trans ht)
  clear ha ht
  go_wp2_with fail
  refine (zdq p e _ (zan s7) { nod0 7 with fn:=fn,n:=(n:Int)+1 } _ H11.out (by have:=HL7.out;rw [zah];omega)).mono ?_
  rintro u w12 ⟨rfl,ov12,ha,ht⟩
  have H12:=Hd ha
  have U12:=Hd (U11.out.trans ht)
  clear ha ht
  go_wp2
  refine bE ?_
  exact zbg HD3.out H12.out (TU.out _ _ U12.out)
 have b2:(xk != 2)=true:=by simpa using k2
 by_cases k3:xk=3
 ·have b3:(xk != 3)=false:=by simpa using k3
  have HD3:=Hd (HD4.out.trans (if_neg (fun h=>h.2.2 k3)))
  clear HD4
  go_wp2_with fail
  refine (zbu p e _ s7 _ H9.out (by have:=HL7.out;omega) hne8).mono ?_
  rintro u w11 ⟨rfl,ha,ht⟩
  have H11:=Hd ha
  have U11:=Hd (U9.out.trans ht)
  clear ha ht
  go_wp2_with fail
  refine (zdq p e _ (zan s7) { nod0 7 with fn:=fn,n:=(n:Int)+1 } _ H11.out (by have:=HL7.out;rw [zah];omega)).mono ?_
  rintro u w12 ⟨rfl,ov12,ha,ht⟩
  have H12:=Hd ha
  have U12:=Hd (U11.out.trans ht)
  clear ha ht
  go_wp2
  refine bE ?_
  exact zbg HD3.out H12.out (TU.out _ _ U12.out)
 have b3:(xk != 3)=true:=by simpa using k3
 have HD3:=Hd (HD4.out.trans (if_pos ⟨h46,k2,k3⟩))
 clear HD4 k2 k3
 go_wp2_with fail
 refine (zcp _ t.at_ 4 _).mono ?_
 rintro u w11 ⟨rfl,rfl⟩
 unfold flt
 go_wp2
 exact ⟨rfl,zaw HD3.out (BU.out _ _ U9.out)⟩
theorem zk8 (v:Value) (l:zaa) (c r:Int) (w:World) (h:Out w v l) (hl:l.length≤1000000000):
 Calls prog 88 #[v,.agg #[.int .i64 c,.int .i64 r]] w fun e w'=>∃v',e=.returned v'∧Out w' v' (l++zbz ⟨c,r⟩)∧OutTo w v w' v':=by
 have hv:v.ownBlock≠some w.heap.size:=fun e=>by have:=h.lt _ e;omega
 have kk:Blk (w.alloc (.cells #[.int .i64 c,.int .i64 r] 56)).drew w.heap.size 56 #[.int .i64 c,.int .i64 r]:=(Blk.new _ _ _).drew
 have TT:=((OutTo.refl w v).alloc (.cells #[.int .i64 c,.int .i64 r] 56)).drew
 have oo:=(h.alloc (.cells #[.int .i64 c,.int .i64 r] 56)).drew
 clear h
 have n1:=zab c
 have n2:=zab r
 go_enter func88,ntmps88
 go_wp2_with fail
 go_region_held3 (fun W:World=>W.cell? ⟨w.heap.size,0,none⟩=some (.int .i64 c)∧W.cell? ⟨w.heap.size,1,none⟩=some (.int .i64 r))
  (first
   | exact ⟨kk.cell 0,kk.cell 1⟩)
  (first
   | (go_at_call 84;refine (zbv _ _ _ _ oo (by first | omega | (simp;done) | (simp;omega))).mono ?_;rintro e w1 ⟨v1,rfl,oo,tt⟩;have hv':=tt.ne kk.lt hv;have kk:=kk.outTo tt hv;have hv:=hv';have TT:=TT.trans tt;clear tt hv'))
 have OO:=Hd oo
 have TT:=Hd TT
 go_wp2
 go_ret
 exact ⟨_,rfl,by simpa [zbz] using OO.out,TT.out⟩
theorem zna (v:Value) (l:zaa) (a b c:Int) (w:World) (a0:0≤a) (a1:a<18446744073709551616) (b0:0≤b) (b1:b<18446744073709551616) (c0:0≤c) (c1:c<18446744073709551616) (h:Out w v l) (hl:l.length≤1000000000):
 Calls prog 91 #[v,.agg #[.int .u64 a,.int .u64 b,.int .u64 c]] w fun e w'=>∃v',e=.returned v'∧Out w' v' (l++zcb ⟨a,b,c⟩)∧OutTo w v w' v':=by
 have hv:v.ownBlock≠some w.heap.size:=fun e=>by have:=h.lt _ e;omega
 have kk:Blk (w.alloc (.cells #[.int .u64 a,.int .u64 b,.int .u64 c] 46)).drew w.heap.size 46 #[.int .u64 a,.int .u64 b,.int .u64 c]:=(Blk.new _ _ _).drew
 have TT:=((OutTo.refl w v).alloc (.cells #[.int .u64 a,.int .u64 b,.int .u64 c] 46)).drew
 have oo:=(h.alloc (.cells #[.int .u64 a,.int .u64 b,.int .u64 c] 46)).drew
 clear h
 have n1:=zab a
 have n2:=zab b
 have n3:=zab c
 go_enter func91,ntmps91
 go_wp2_with fail
 go_region_held3 (fun W:World=>W.cell? ⟨w.heap.size,0,none⟩=some (.int .u64 a)∧W.cell? ⟨w.heap.size,1,none⟩=some (.int .u64 b)∧W.cell? ⟨w.heap.size,2,none⟩=some (.int .u64 c))
  (first
   | exact ⟨kk.cell 0,kk.cell 1,kk.cell 2⟩)
  (first
   | (go_at_call 96;refine (zhk _ _ _ _ (by assumption) (by assumption) oo (by first | omega | (simp;done) | (simp;omega))).mono ?_;rintro e w1 ⟨v1,rfl,oo,tt⟩;have hv':=tt.ne kk.lt hv;have kk:=kk.outTo tt hv;have hv:=hv';have TT:=TT.trans tt;clear tt hv'))
 have OO:=Hd oo
 have TT:=Hd TT
 go_wp2
 go_ret
 exact ⟨_,rfl,by simpa [zcb] using OO.out,TT.out⟩
theorem long_4 (s:Scp) (e r g l x o:Value) (B:Nat) (w:World) (hB:B≤w.heap.size) (hb:RdScp w B s e r g l x o) (hr:Reach s) (P1:¬(160:Int)<(s.book.entries.length:Int)+(s.book.rules.length:Int)+(s.book.grants.length:Int)+(s.book.log.length:Int)+(s.book.releases.length:Int))(P2:(300:Int)<(s.ops.length:Int))(P3:(4096:Int)<(s.ops.length:Int))(P4:¬(4101:Int)<(s.ops.length:Int)):
 Calls prog 9 #[vScp s e r g l x o] w fun u w'=>u=.returned (.bool (zds s))∧Below w.heap.size w w':=by
 obtain ⟨Ae,ce,rfl, -⟩:=id hb.book.ents
 obtain ⟨Ar,cr,rfl, -⟩:=id hb.book.ruls
 obtain ⟨Ag,cg,rfl, -⟩:=id hb.book.grts
 obtain ⟨Al,cl,rfl, -⟩:=id hb.book.evts
 obtain ⟨Ax,cx,rfl, -⟩:=id hb.book.rlss
 obtain ⟨Ao,co,rfl, -⟩:=id hb.ops
 obtain ⟨q1,q2,q3,q4⟩:=zqs hr
 have HR:=Hd hr
 have HB:=Hd (show RdScp w B s _ _ _ _ _ _ from hb)
 clear hb hr
 have P1S:=zt0 P1
 have HS:=Hd (head_5 P1S P3 P4)
 clear P1S
 have f1:((160:Int)<(s.book.entries.length:Int)+(s.book.rules.length:Int)+(s.book.grants.length:Int)+(s.book.log.length:Int)+(s.book.releases.length:Int))=False:=eq_false P1
 have f2:((300:Int)<(s.ops.length:Int))=True:=eq_true P2
 have f3:((s.ops.length:Int)≤(4096:Int))=False:=eq_false (Int.not_le.2 P3)
 have f4:((4101:Int)<(s.ops.length:Int))=False:=eq_false P4
 clear P1 P2 P3 P4
 go_enter func9,ntmps9
 go_wp2_with fail
 clear q1 q2 q3 q4 f1 f2 f3 f4
 go_loopw [4] (fun i wr=>∃k:Nat,k≤s.book.entries.length∧i=.int .i64 k∧(s.book.entries.take k).any (fun x=>decide (600<x.input.length))=false∧(Blk wr w.heap.size 31 #[.int .i64 s.book.users,.slice Ae s.book.entries.length ce,.slice Ar s.book.rules.length cr,.slice Ag s.book.grants.length cg,.slice Al s.book.log.length cl,.slice Ax s.book.releases.length cx,.int .i64 s.book.step,.slice Ao s.ops.length co]∧Blk wr (w.heap.size+1) 28 #[.int .i64 s.book.users,.slice Ae s.book.entries.length ce,.slice Ar s.book.rules.length cr,.slice Ag s.book.grants.length cg,.slice Al s.book.log.length cl,.slice Ax s.book.releases.length cx,.int .i64 s.book.step]∧Below w.heap.size w wr)) (fun i _=>s.book.entries.length-(intOf i).toNat)
 case atStart=>exact ⟨0,by omega,rfl,by simp,(Blk.new w _ _).alloc _,by simpa using Blk.new (w.alloc _) 28 _,by go_grown⟩
 obtain ⟨k,hk,rfl,ha,ka,kb,hbw⟩:=hrel
 have HA:=Hd ha
 have KA:=Hd ka
 have KB:=Hd kb
 have HW:=Hd hbw
 have y1:=kb.cell 1
 have z7:=ka.cell 7
 clear ha ka kb hbw
 by_cases hlt:k<s.book.entries.length
 ·have hx:s.book.entries[k]?=some s.book.entries[k]:=List.getElem?_eq_getElem hlt
  have HK:=Hd (show k+1≤s.book.entries.length from hlt)
  have HW1:=Hd (ze0 HR.out.n1 hlt)
  obtain ⟨b1,o1,rfl,_,r1⟩:=(HB.out.book.ents.below (HW.out.mono hB)).get 3 zbw hx
  have HX:=Hd hx
  clear hx
  generalize s.book.entries[k]=x at *
  have r2:wr.cell? ⟨b1,o1+k*3+2,none⟩=some (str x.input):=r1 2 _ rfl
  clear r1
  by_cases hin:(600:Int)<(x.input.length:Int)
  ·go_wp2
   go_ret
   exact ⟨by rw [zns (zoi _ HX.out (decide_eq_true (by omega)))];rfl,HW.out⟩
  go_wp2
  exact ⟨⟨k+1,HK.out,zgs HW1.out,zg1 _ HX.out HA.out (decide_eq_false (by omega)),KA.out,KB.out,HW.out⟩,zft HW1.out HK.out⟩
 have hke:k=s.book.entries.length:=by omega
 subst hke
 have he:=HA.out
 rw [List.take_length] at he
 have HE:=Hd he
 clear he HA
 go_wp2
 go_loopw [5] (fun i wr=>∃k:Nat,k≤s.ops.length∧i=.int .i64 k∧(s.ops.take k).any (fun x=>decide (600<x.input.length))=false∧(Blk wr w.heap.size 31 #[.int .i64 s.book.users,.slice Ae s.book.entries.length ce,.slice Ar s.book.rules.length cr,.slice Ag s.book.grants.length cg,.slice Al s.book.log.length cl,.slice Ax s.book.releases.length cx,.int .i64 s.book.step,.slice Ao s.ops.length co]∧Blk wr (w.heap.size+1) 28 #[.int .i64 s.book.users,.slice Ae s.book.entries.length ce,.slice Ar s.book.rules.length cr,.slice Ag s.book.grants.length cg,.slice Al s.book.log.length cl,.slice Ax s.book.releases.length cx,.int .i64 s.book.step]∧Below w.heap.size w wr)) (fun i _=>s.ops.length-(intOf i).toNat)
 case atStart=>exact ⟨0,by omega,rfl,by simp,KA.out,KB.out,HW.out⟩
 clear KA KB HW y1 z7
 obtain ⟨k,hk,rfl,ha,ka,kb,hbw⟩:=hrel
 have HA:=Hd ha
 have KA:=Hd ka
 have KB:=Hd kb
 have HW:=Hd hbw
 have z7:=ka.cell 7
 clear ha ka kb hbw
 by_cases hlt:k<s.ops.length
 ·have hx:s.ops[k]?=some s.ops[k]:=List.getElem?_eq_getElem hlt
  have HK:=Hd (show k+1≤s.ops.length from hlt)
  have HW1:=Hd (ze0 HR.out.n6 hlt)
  obtain ⟨b1,o1,rfl,_,r1⟩:=(HB.out.ops.below (HW.out.mono hB)).get 13 zdl hx
  have HX:=Hd hx
  clear hx
  generalize s.ops[k]=x at *
  have r2:wr.cell? ⟨b1,o1+k*13+6,none⟩=some (str x.input):=r1 6 _ rfl
  clear r1
  by_cases hin:(600:Int)<(x.input.length:Int)
  ·go_wp2
   go_ret
   exact ⟨by rw [znq (zoi _ HX.out (decide_eq_true (by omega)))];rfl,HW.out⟩
  go_wp2
  exact ⟨⟨k+1,HK.out,zgs HW1.out,zg1 _ HX.out HA.out (decide_eq_false (by omega)),KA.out,KB.out,HW.out⟩,zft HW1.out HK.out⟩
 have hke:k=s.ops.length:=by omega
 subst hke
 have he:=HA.out
 rw [List.take_length] at he
 go_wp2
 go_ret
 exact ⟨by rw [znr HS.out HE.out he];rfl,HW.out⟩
end Go.Proofs.YtamcgggmfghljaaGreatDoor
