/- Layer 41: what bytes are decoded as; what was written is read again. No program in sight. -/
import Derived.ChangeMaps4
import Derived.Test.YtamcgggmfghljaaGreatDoorD10
set_option maxRecDepth 100000
set_option maxHeartbeats 8000000
open Go.Proofs.Tryz
namespace Go.Proofs.YtamcgggmfghljaaGreatDoor
open Go.RowKit
abbrev Rd:=zaa × Bool
def I64 (n:Int):Prop:= -9223372036854775808≤n∧n≤9223372036854775807
def U64 (n:Int):Prop:=0≤n∧n<18446744073709551616
def U8 (n:Int):Prop:=0≤n∧n<256
structure OkRct (x:Rct):Prop where
 c1:I64 x.c1
 r1:I64 x.r1
 c2:I64 x.c2
 r2:I64 x.r2
structure OkRef (x:Ref):Prop where
 col:I64 x.col
 row:I64 x.row
structure OkRts (x:Rts):Prop where
 rd:U64 x.rd
 wr:U64 x.wr
 ow:U64 x.ow
def ztm (s:zaa):Prop:=s.length≤9223372036854775807
structure OkEnt (x:Ent):Prop where
 at_:OkRef x.at_
 input:ztm x.input
structure OkRul (x:Rul):Prop where
 rect:OkRct x.rect
 rights:OkRts x.rights
structure OkGrt (x:Grt):Prop where
 rect:OkRct x.rect
 fns:U8 x.fns
 to_:U64 x.to_
 by_:I64 x.by_
structure OkEvt (x:Evt):Prop where
 step:I64 x.step
 user:I64 x.user
 kind:U8 x.kind
 rect:OkRct x.rect
 to_:U64 x.to_
structure OkRls (x:Rls):Prop where
 step:I64 x.step
 at_:OkRef x.at_
 node:I64 x.node
 fn:U8 x.fn
 rect:OkRct x.rect
 grant:I64 x.grant
 to_:U64 x.to_
structure OkOpr (x:Opr):Prop where
 kind:U8 x.kind
 user:I64 x.user
 rect:OkRct x.rect
 input:ztm x.input
 rights:OkRts x.rights
 fns:U8 x.fns
 to_:U64 x.to_
 index:I64 x.index
structure OkBok (b:Bok):Prop where
 users:I64 b.users
 entries:∀x∈b.entries,OkEnt x
 rules:∀x∈b.rules,OkRul x
 grants:∀x∈b.grants,OkGrt x
 log:∀x∈b.log,OkEvt x
 releases:∀x∈b.releases,OkRls x
 step:I64 b.step
 lens:b.entries.length≤9223372036854775807∧b.rules.length≤9223372036854775807∧b.grants.length≤9223372036854775807∧b.log.length≤9223372036854775807∧b.releases.length≤9223372036854775807
structure OkScp (s:Scp):Prop where
 book:OkBok s.book
 ops:∀x∈s.ops,OkOpr x
 len:s.ops.length≤9223372036854775807
def zjx (a b c d e f g:Bool):Nat:=a.toNat+2*(b.toNat+2*(c.toNat+2*(d.toNat+2*(e.toNat+2*(f.toNat+2*g.toNat)))))
theorem zt3 (g:Nat) (s:zaa) (w:World) (k0:Blk w g 74 #[str s]):
 Calls prog 38 #[.pointer (some ⟨g,0,none⟩)] w fun e w'=>e=.returned (.agg #[.int .i64 (spot s).1.col,.int .i64 (spot s).1.row])∧Blk w' g 74 #[str (spot s).2]∧Chg (fun k=>k=g) w w':=by
 have hg:=k0.lt
 have b1:=zjf 3 (by decide) s
 have b2:=zjf 4 (by decide) (take 3 s).2
 have K0:=Hd k0
 clear k0
 go_enter func38,ntmps38
 go_wp2_with fail
 refine (zdg g s 3 _ (by decide) (by have k0:=K0.out;exact (by repeat' (first | with_reducible exact k0 | with_reducible refine Blk.drew ?_ | with_reducible refine Blk.alloc ?_ _ | with_reducible refine Blk.far ?_ ?_ _ | (simp;done) | (simp;omega) | omega | exact k0)))).mono ?_
 rintro e w1 ⟨rfl,k1,hd1⟩
 have hz1:=hd1.size
 try simp at hz1
 have hD1:Chg (fun k=>k=g) w w1:=Chg.trans (by repeat' (first | with_reducible exact Chg.refl _ _ | with_reducible assumption | with_reducible refine Chg.alloc ?_ _ | with_reducible refine Chg.drew ?_ | with_reducible refine Chg.setCell ?_ (.inr ?_) _ | (simp;done) | (simp;omega) | omega)) (hd1.mono (fun k hk hs=>hs))
 obtain ⟨hc1_0,hl1_0,hm1_0,hn1_0,ho1_0,hf1_0⟩:=oldC (g:=w.heap.size) hd1 (by first | (simp;done) | (simp;omega) | omega) (by first | omega | (simp;omega))
 go_wp2_with fail
 refine (zdg g _ 4 _ (by decide) (by repeat' (first | with_reducible exact k1 | with_reducible refine Blk.drew ?_ | with_reducible refine Blk.alloc ?_ _ | with_reducible refine Blk.far ?_ ?_ _ | (simp;done) | (simp;omega) | omega | exact k1))).mono ?_
 rintro e w2 ⟨rfl,k2,hd2⟩
 have hz2:=hd2.size
 try simp at hz2
 have hD2:Chg (fun k=>k=g) w w2:=Chg.trans (by repeat' (first | with_reducible exact Chg.refl _ _ | with_reducible assumption | with_reducible refine Chg.alloc ?_ _ | with_reducible refine Chg.drew ?_ | with_reducible refine Chg.setCell ?_ (.inr ?_) _ | (simp;done) | (simp;omega) | omega)) (hd2.mono (fun k hk hs=>hs))
 obtain ⟨hc2_0,hl2_0,hm2_0,hn2_0,ho2_0,hf2_0⟩:=oldC (g:=w.heap.size) hd2 (by first | (simp;done) | (simp;omega) | omega) (by first | omega | (simp;omega))
 go_wp2
 refine bodyPost_ret (v:=.agg #[.int .i64 (1+(take 3 s).1),.int .i64 (1+(take 4 (take 3 s).2).1)]) (by simp (maxDischargeDepth:=9) [results,results38,go_sem,hc1_0,hc2_0]) rfl ?_
 exact ⟨rfl,(by repeat' (first | with_reducible exact k2 | with_reducible refine Blk.drew ?_ | with_reducible refine Blk.alloc ?_ _ | with_reducible refine Blk.far ?_ ?_ _ | (simp;done) | (simp;omega) | omega | exact k2)),(by repeat' (first | with_reducible exact Chg.refl _ _ | with_reducible assumption | with_reducible refine Chg.alloc ?_ _ | with_reducible refine Chg.drew ?_ | with_reducible refine Chg.setCell ?_ (.inr ?_) _ | (simp;done) | (simp;omega) | omega))⟩
theorem zrg (u:Nat) (hu:u≤4):(0:Int)<2 ^ u∧(2:Int) ^ u≤16:=by
 have h:u=0∨u=1∨u=2∨u=3∨u=4:=by omega
 rcases h with rfl | rfl | rfl | rfl | rfl <;> simp
theorem zh2 (g:Nat) (s:zaa) (u:Nat) (w:World) (hu:(u:Int)≤4) (k0:Blk w g 74 #[str s]):
 Calls prog 41 #[.pointer (some ⟨g,0,none⟩),.int .i64 u] w fun e w'=>e=.returned (.int .u64 (zgg u s).1)∧Blk w' g 74 #[str (zgg u s).2]∧Chg (fun k=>k=g) w w':=by
 have hp:=zrg u (by omega)
 have hb:=zjf (2 ^ u) hp.1 s
 have HT:=Hd (zdg g s (2 ^ u) w hp.1 k0)
 clear k0
 go_enter func41,ntmps41
 go_wp2_with fail
 refine HT.out.mono ?_
 rintro e w1 ⟨rfl,k1,hd1⟩
 go_wp2
 go_ret
 exact ⟨rfl,k1,hd1⟩
theorem zqc (g:Nat) (s:zaa) (u:Nat) (w:World) (hu:(u:Int)≤4) (k0:Blk w g 74 #[str s]):
 Calls prog 36 #[.pointer (some ⟨g,0,none⟩),.int .i64 u] w fun e w'=>
  e=.returned (.agg #[.int .u64 (zh1 u s).1.rd,.int .u64 (zh1 u s).1.wr,.int .u64 (zh1 u s).1.ow])∧Blk w' g 74 #[str (zh1 u s).2]∧Chg (fun k=>k=g) w w':=by
 have hg:=k0.lt
 have K0:=Hd k0
 clear k0
 go_enter func36,ntmps36
 go_wp2_with fail
 refine (zh2 g s u _ hu (by have k0:=K0.out;exact (by repeat' (first | with_reducible exact k0 | with_reducible refine Blk.drew ?_ | with_reducible refine Blk.alloc ?_ _ | with_reducible refine Blk.far ?_ ?_ _ | (simp;done) | (simp;omega) | omega | exact k0)))).mono ?_
 rintro e w1 ⟨rfl,k1,hd1⟩
 have hz1:=hd1.size
 try simp at hz1
 have hD1:Chg (fun k=>k=g) w w1:=Chg.trans (by repeat' (first | with_reducible exact Chg.refl _ _ | with_reducible assumption | with_reducible refine Chg.alloc ?_ _ | with_reducible refine Chg.drew ?_ | with_reducible refine Chg.setCell ?_ (.inr ?_) _ | (simp;done) | (simp;omega) | omega)) (hd1.mono (fun k hk hs=>hs))
 obtain ⟨hc1_0,hl1_0,hm1_0,hn1_0,ho1_0,hf1_0⟩:=oldC (g:=w.heap.size) hd1 (by first | (simp;done) | (simp;omega) | omega) (by first | omega | (simp;omega))
 go_wp2_with fail
 refine (zh2 g _ u _ hu (by repeat' (first | with_reducible exact k1 | with_reducible refine Blk.drew ?_ | with_reducible refine Blk.alloc ?_ _ | with_reducible refine Blk.far ?_ ?_ _ | (simp;done) | (simp;omega) | omega | exact k1))).mono ?_
 rintro e w2 ⟨rfl,k2,hd2⟩
 have hz2:=hd2.size
 try simp at hz2
 have hD2:Chg (fun k=>k=g) w w2:=Chg.trans (by repeat' (first | with_reducible exact Chg.refl _ _ | with_reducible assumption | with_reducible refine Chg.alloc ?_ _ | with_reducible refine Chg.drew ?_ | with_reducible refine Chg.setCell ?_ (.inr ?_) _ | (simp;done) | (simp;omega) | omega)) (hd2.mono (fun k hk hs=>hs))
 obtain ⟨hc2_0,hl2_0,hm2_0,hn2_0,ho2_0,hf2_0⟩:=oldC (g:=w.heap.size) hd2 (by first | (simp;done) | (simp;omega) | omega) (by first | omega | (simp;omega))
 go_wp2_with fail
 refine (zh2 g _ u _ hu (by repeat' (first | with_reducible exact k2 | with_reducible refine Blk.drew ?_ | with_reducible refine Blk.alloc ?_ _ | with_reducible refine Blk.far ?_ ?_ _ | (simp;done) | (simp;omega) | omega | exact k2))).mono ?_
 rintro e w3 ⟨rfl,k3,hd3⟩
 have hz3:=hd3.size
 try simp at hz3
 have hD3:Chg (fun k=>k=g) w w3:=Chg.trans (by repeat' (first | with_reducible exact Chg.refl _ _ | with_reducible assumption | with_reducible refine Chg.alloc ?_ _ | with_reducible refine Chg.drew ?_ | with_reducible refine Chg.setCell ?_ (.inr ?_) _ | (simp;done) | (simp;omega) | omega)) (hd3.mono (fun k hk hs=>hs))
 obtain ⟨hc3_0,hl3_0,hm3_0,hn3_0,ho3_0,hf3_0⟩:=oldC (g:=w.heap.size) hd3 (by first | (simp;done) | (simp;omega) | omega) (by first | omega | (simp;omega))
 go_wp2
 refine bodyPost_ret (v:=.agg #[.int .u64 (zgg u s).1,.int .u64 (zgg u (zgg u s).2).1,.int .u64 (zgg u (zgg u (zgg u s).2).2).1]) (by simp (maxDischargeDepth:=9) [results,results36,go_sem,hc1_0,hc2_0,hc3_0]) rfl ?_
 exact ⟨rfl,(by repeat' (first | with_reducible exact k3 | with_reducible refine Blk.drew ?_ | with_reducible refine Blk.alloc ?_ _ | with_reducible refine Blk.far ?_ ?_ _ | (simp;done) | (simp;omega) | omega | exact k3)),(by repeat' (first | with_reducible exact Chg.refl _ _ | with_reducible assumption | with_reducible refine Chg.alloc ?_ _ | with_reducible refine Chg.drew ?_ | with_reducible refine Chg.setCell ?_ (.inr ?_) _ | (simp;done) | (simp;omega) | omega))⟩
abbrev vVal (k n:Int) (s:zaa):Value:=.agg #[.int .u8 k,.int .i64 n,str s]
def zy4 (k:Int) (es:Array MapEntry):Bool:=es.toList.all fun x=>match x.key with
 | .int .u8 a=>!decide (k=a)
 | _=>false
theorem zgj (k:Int):∀(l:List MapEntry) (i:Nat),(l.all fun x=>match x.key with | .int .u8 a=>!decide (k=a) | _=>false)=true→Instr.findNow (.int .u8) (.int .u8 k) l i=some none
 | [],_,_=>rfl
 | x::l,i,h=>by
  rw [List.all_cons,Bool.and_eq_true] at h
  obtain ⟨h1,h2⟩:=h
  obtain ⟨key,val,born⟩:=x
  have ih:=zgj k l (i+1) h2
  match key,h1 with
  | .int .u8 a,h1=>
   have hne:(k==a)=false:=by simpa using h1
   simp [Instr.findNow,Instr.sameNow,hne,ih]
theorem zcc {P:Program} (t kt e:TypeId) (ht:P.underlying t=some (.map kt e)) (hk:P.underlying kt=some (.int .u8)) (W:World) (n:Nat) (hn:n=W.heap.size) (es:Array MapEntry) (c:Nat) (k:Int) (v:Value) (h:zy4 k es=true):
 (Instr.mapUpdate t (.map (some n)) (.int .u8 k) v).run P (W.alloc (.map es c))=.ok () (W.alloc (.map (es.push ⟨.int .u8 k,v,c⟩) (c+1))):=by
 subst hn
 have hf:=zgj k es.toList 0 h
 have hb:(W.alloc (.map es c)).heap[W.heap.size]?=some (.map es c):=heap_alloc_new W _
 have hs:∀o:Obj,({ W.alloc (.map es c) with heap:=(W.alloc (.map es c)).heap.setIfInBounds W.heap.size o }:World)=W.alloc o:=fun o=>by
  have he:(W.heap.push (.map es c)).setIfInBounds W.heap.size o=W.heap.push o:=by
   apply Array.ext'
   simp [Array.setIfInBounds,Array.toList_push]
  exact congrArg (fun H=>World.mk H W.tape W.drawn W.os W.output) he
 have hkey:MapKept.IsKey (.int .u8) (.int .u8 k):=rfl
 simp [Instr.mapUpdate,run_underlying ht,MapKept.run_getObj_map hb,MapKept.run_checkKey hk hkey,MapKept.run_findKey hk hf,MapKept.run_setObj_map _ hb,Result.andThen]
 exact hs _
theorem zl6 {P:Program} (t kt e:TypeId) (ht:P.underlying t=some (.map kt e)) (hk:P.underlying kt=some (.int .u8)) (W:World) (n:Nat) (es:Array MapEntry) (c:Nat) (k:Int) (i:Nat) (v:Value) (hb:W.heap[n]?=some (.map es c))
 (hf:Instr.findNow (.int .u8) (.int .u8 k) es.toList 0=some (some (i,v))):
 (Instr.lookup t (.map (some n)) (.int .u8 k) true).run P W=.ok (.tuple #[v,.bool true]) W:=by
 have hkey:MapKept.IsKey (.int .u8) (.int .u8 k):=rfl
 simp [Instr.lookup,run_underlying ht,MapKept.run_getObj_map hb,MapKept.run_checkKey hk hkey,MapKept.run_findKey hk hf,Result.andThen]
theorem zkk (s:zaa) (w:World) (hs:txtE s=0) (hl:s.length≤1000000):
 Calls prog 270 #[vVal 3 0 s] w fun u w'=>u=.returned (.int .i64 0)∧Below w.heap.size w w':=by
 have HS:=Hd hs
 clear hs
 go_enter func270,ntmps270
 go_wp2_with fail
 refine (zhv s _ (by omega)).mono ?_
 rintro e w1 ⟨rfl,hb⟩
 rw [HS.out]
 have HB:=Hd (show Below w.heap.size w w1 from nxt hb)
 clear hb
 go_wp2
 go_ret
 exact ⟨rfl,HB.out⟩
def zmy (s:zaa):Array MapEntry:=#[⟨.int .u8 0,.func (.func 240) #[vVal 3 0 s] #[],0⟩,⟨.int .u8 1,.func (.func 240) #[vVal 3 0 s] #[],1⟩,⟨.int .u8 2,.func (.func 241) #[vVal 3 0 s] #[],2⟩,⟨.int .u8 3,.func (.func 242) #[vVal 3 0 s] #[],3⟩,⟨.int .u8 4,.func (.func 241) #[vVal 3 0 s] #[],4⟩]
theorem ztx (s:zaa) (w:World):
 Calls prog 239 #[vVal 3 0 s] w fun u w'=>∃n,u=.returned (.map (some n))∧w'.heap[n]?=some (.map (zmy s) 5)∧Below w.heap.size w w':=by
 have hmk:∀w:World,(Instr.makeMap 253 none).run prog w=.ok (.map (some w.heap.size)) (w.alloc (.map #[] 0)):=fun w=>by rfl
 have hw:(w.alloc (.cells #[.int .u8 3,.int .i64 0,str s] 252)).heap.size=w.heap.size+1:=by simp
 have s0:(Instr.mapUpdate 253 (.map (some (w.heap.size+1))) (.int .u8 0) (.func (.func 240) #[vVal 3 0 s] #[])).run prog ((w.alloc (.cells #[.int .u8 3,.int .i64 0,str s] 252)).alloc (.map #[] 0))=.ok () ((w.alloc (.cells #[.int .u8 3,.int .i64 0,str s] 252)).alloc (.map #[⟨.int .u8 0,.func (.func 240) #[vVal 3 0 s] #[],0⟩] 1)):=
  zcc _ _ _ underlying253 underlying5 _ _ hw.symm _ _ _ _ rfl
 have s1:(Instr.mapUpdate 253 (.map (some (w.heap.size+1))) (.int .u8 1) (.func (.func 240) #[vVal 3 0 s] #[])).run prog ((w.alloc (.cells #[.int .u8 3,.int .i64 0,str s] 252)).alloc (.map #[⟨.int .u8 0,.func (.func 240) #[vVal 3 0 s] #[],0⟩] 1))=.ok () ((w.alloc (.cells #[.int .u8 3,.int .i64 0,str s] 252)).alloc (.map #[⟨.int .u8 0,.func (.func 240) #[vVal 3 0 s] #[],0⟩,⟨.int .u8 1,.func (.func 240) #[vVal 3 0 s] #[],1⟩] 2)):=
  zcc _ _ _ underlying253 underlying5 _ _ hw.symm _ _ _ _ rfl
 have s2:(Instr.mapUpdate 253 (.map (some (w.heap.size+1))) (.int .u8 2) (.func (.func 241) #[vVal 3 0 s] #[])).run prog ((w.alloc (.cells #[.int .u8 3,.int .i64 0,str s] 252)).alloc (.map #[⟨.int .u8 0,.func (.func 240) #[vVal 3 0 s] #[],0⟩,⟨.int .u8 1,.func (.func 240) #[vVal 3 0 s] #[],1⟩] 2))=.ok () ((w.alloc (.cells #[.int .u8 3,.int .i64 0,str s] 252)).alloc (.map #[⟨.int .u8 0,.func (.func 240) #[vVal 3 0 s] #[],0⟩,⟨.int .u8 1,.func (.func 240) #[vVal 3 0 s] #[],1⟩,⟨.int .u8 2,.func (.func 241) #[vVal 3 0 s] #[],2⟩] 3)):=
  zcc _ _ _ underlying253 underlying5 _ _ hw.symm _ _ _ _ rfl
 have s3:(Instr.mapUpdate 253 (.map (some (w.heap.size+1))) (.int .u8 3) (.func (.func 242) #[vVal 3 0 s] #[])).run prog ((w.alloc (.cells #[.int .u8 3,.int .i64 0,str s] 252)).alloc (.map #[⟨.int .u8 0,.func (.func 240) #[vVal 3 0 s] #[],0⟩,⟨.int .u8 1,.func (.func 240) #[vVal 3 0 s] #[],1⟩,⟨.int .u8 2,.func (.func 241) #[vVal 3 0 s] #[],2⟩] 3))=.ok () ((w.alloc (.cells #[.int .u8 3,.int .i64 0,str s] 252)).alloc (.map #[⟨.int .u8 0,.func (.func 240) #[vVal 3 0 s] #[],0⟩,⟨.int .u8 1,.func (.func 240) #[vVal 3 0 s] #[],1⟩,⟨.int .u8 2,.func (.func 241) #[vVal 3 0 s] #[],2⟩,⟨.int .u8 3,.func (.func 242) #[vVal 3 0 s] #[],3⟩] 4)):=
  zcc _ _ _ underlying253 underlying5 _ _ hw.symm _ _ _ _ rfl
 have s4:(Instr.mapUpdate 253 (.map (some (w.heap.size+1))) (.int .u8 4) (.func (.func 241) #[vVal 3 0 s] #[])).run prog ((w.alloc (.cells #[.int .u8 3,.int .i64 0,str s] 252)).alloc (.map #[⟨.int .u8 0,.func (.func 240) #[vVal 3 0 s] #[],0⟩,⟨.int .u8 1,.func (.func 240) #[vVal 3 0 s] #[],1⟩,⟨.int .u8 2,.func (.func 241) #[vVal 3 0 s] #[],2⟩,⟨.int .u8 3,.func (.func 242) #[vVal 3 0 s] #[],3⟩] 4))=.ok () ((w.alloc (.cells #[.int .u8 3,.int .i64 0,str s] 252)).alloc (.map #[⟨.int .u8 0,.func (.func 240) #[vVal 3 0 s] #[],0⟩,⟨.int .u8 1,.func (.func 240) #[vVal 3 0 s] #[],1⟩,⟨.int .u8 2,.func (.func 241) #[vVal 3 0 s] #[],2⟩,⟨.int .u8 3,.func (.func 242) #[vVal 3 0 s] #[],3⟩,⟨.int .u8 4,.func (.func 241) #[vVal 3 0 s] #[],4⟩] 5)):=
  zcc _ _ _ underlying253 underlying5 _ _ hw.symm _ _ _ _ rfl
 go_enter func239,ntmps239
 go_wp2
 go_ret
 refine ⟨_,rfl,?_,by go_grown⟩
 have:=heap_alloc_new (w.alloc (.cells #[.int .u8 3,.int .i64 0,str s] 252)) (.map (zmy s) 5)
 rw [hw] at this
 exact this
def tT:zaa:=[84,82,85,69]
def tF:zaa:=[70,65,76,83,69]
def zh4 (s:zaa):Value:=if upB s=tT then vVal 2 1 [] else if upB s=tF then vVal 2 0 [] else vVal 4 2 []
theorem zrv (s:zaa) (w:World) (hl:s.length≤1000000):
 Calls prog 242 #[vVal 3 0 s] w fun u w'=>u=.returned (zh4 s)∧Below w.heap.size w w':=by
 by_cases c1:upB s=tT
 ·have H:=Hd (show zh4 s=vVal 2 1 [] by unfold zh4;rw [if_pos c1])
  have t1:(upB s== [84,82,85,69])=true:=by rw [c1];rfl
  clear c1
  go_enter func242,ntmps242
  go_wp2_with fail
  refine (zd7 s _ hl).mono ?_
  rintro e w1 ⟨rfl,hb1⟩
  have hz1:=hb1.size
  try simp at hz1
  have hB1:Below w.heap.size w w1:=nxt hb1
  obtain ⟨hc1_0,hl1_0,hm1_0,hn1_0,ho1_0,hf1_0⟩:=oldB (g:=w.heap.size) hb1
  obtain ⟨hc1_1,hl1_1,hm1_1,hn1_1,ho1_1,hf1_1⟩:=oldB (g:=w.heap.size+1) hb1
  go_wp2
  refine bodyPost_ret (v:=.agg #[.int .u8 2,.int .i64 1,str []]) (by simp (maxDischargeDepth:=9) [results,results242,go_sem,hc1_1,hl1_1]) rfl ?_
  exact ⟨by rw [H.out],by go_grown⟩
 have t1:(upB s== [84,82,85,69])=false:=by rw [beq_eq_false_iff_ne];exact c1
 by_cases c2:upB s=tF
 ·have H:=Hd (show zh4 s=vVal 2 0 [] by unfold zh4;rw [if_neg c1,if_pos c2])
  have t2:(upB s== [70,65,76,83,69])=true:=by rw [c2];rfl
  clear c1 c2
  go_enter func242,ntmps242
  go_wp2_with fail
  refine (zd7 s _ hl).mono ?_
  rintro e w1 ⟨rfl,hb1⟩
  have hz1:=hb1.size
  try simp at hz1
  have hB1:Below w.heap.size w w1:=nxt hb1
  obtain ⟨hc1_0,hl1_0,hm1_0,hn1_0,ho1_0,hf1_0⟩:=oldB (g:=w.heap.size) hb1
  obtain ⟨hc1_1,hl1_1,hm1_1,hn1_1,ho1_1,hf1_1⟩:=oldB (g:=w.heap.size+1) hb1
  go_wp2
  refine bodyPost_ret (v:=.agg #[.int .u8 2,.int .i64 0,str []]) (by simp (maxDischargeDepth:=9) [results,results242,go_sem,hc1_1,hl1_1]) rfl ?_
  exact ⟨by rw [H.out],by go_grown⟩
 have H:=Hd (show zh4 s=vVal 4 2 [] by unfold zh4;rw [if_neg c1,if_neg c2])
 have t2:(upB s== [70,65,76,83,69])=false:=by rw [beq_eq_false_iff_ne];exact c2
 clear c1 c2
 go_enter func242,ntmps242
 go_wp2_with fail
 refine (zd7 s _ hl).mono ?_
 rintro e w1 ⟨rfl,hb1⟩
 have hz1:=hb1.size
 try simp at hz1
 have hB1:Below w.heap.size w w1:=nxt hb1
 obtain ⟨hc1_0,hl1_0,hm1_0,hn1_0,ho1_0,hf1_0⟩:=oldB (g:=w.heap.size) hb1
 obtain ⟨hc1_1,hl1_1,hm1_1,hn1_1,ho1_1,hf1_1⟩:=oldB (g:=w.heap.size+1) hb1
 go_wp2
 refine bodyPost_ret (v:=.agg #[.int .u8 4,.int .i64 2,str []]) (by simp (maxDischargeDepth:=9) [results,results242,go_sem,hc1_1,hl1_1]) rfl ?_
 exact ⟨by rw [H.out],by go_grown⟩
theorem zfo (s:zaa) (w:World) (hs:s.length≤1000000):
 Calls prog 254 #[str s] w fun u w'=>u=.returned (str (s.map upU))∧Below w.heap.size w w':=by
 have hcv:=run_bytes_of_string (P:=prog) w 9 59 5 ⟨s.toArray⟩ rfl rfl rfl
 have hsz:(⟨s.toArray⟩:ByteArray).size=s.length:=by show s.toArray.size=_;simp
 rw [hsz] at hcv
 generalize hcap:grownCap w s.length 0 5=cap at hcv
 have hge:s.length≤cap:=hcap▸grownCap_ge w s.length 0 5
 generalize hrow:bytesRow ⟨s.toArray⟩ cap=row at hcv
 have hat:∀(j:Nat) (c:UInt8),s[j]?=some c→row[j]?=some (.int .u8 c.toNat):=fun j c hj=>by
  have hjl:=(List.getElem?_eq_some_iff.1 hj).1
  rw [← hrow,bytesRow_at _ cap j (by simpa using hjl)]
  have:s[j]=c:=by rw [List.getElem?_eq_getElem hjl] at hj;simpa using hj
  simp [this]
 have hrs:s.length≤row.size:=by
  rw [← hrow]
  simp [bytesRow]
 have HR:=Hd hat
 clear hat hcap hrow
 have H1:=Hd (show Rowb (w.alloc (.cells row 5 (row.size,row.size+1))).drew w.heap.size row from heap_alloc_new w _)
 go_enter func254,ntmps254
 go_wp2
 go_loopw [4] (fun i wr=>∃(k:Nat) (cs:Array Value),k≤s.length∧i=.int .i64 k∧Rowb wr w.heap.size cs∧s.length≤cs.size∧(∀(j:Nat) (c:UInt8),s[j]?=some c→cs[j]?=some (.int .u8 (if j<k then upU c else c).toNat))∧Below w.heap.size w wr) (fun i _=>s.length-(intOf i).toNat)
 case atStart=>exact ⟨0,row,by omega,rfl,H1.out,hrs,by simpa using HR.out,by go_grown⟩
 obtain ⟨k,cs,hk,rfl,hrb,hcs,hall,hbw⟩:=hrel
 have RB:=Hd hrb
 have HA:=Hd hall
 have HBW:=Hd hbw
 by_cases hlt:k<s.length
 rotate_left
 ·obtain rfl:k=s.length:=by omega
  have hcv2:=run_convert_bytes_back (P:=prog) wr 59 9 5 ⟨w.heap.size,0,none⟩ cap (s.map upU) rfl rfl rfl (fun j hj=>by
   have hj':j<s.length:=by simpa using hj
   have h1:=HA.out j _ (List.getElem?_eq_getElem hj')
   rw [zf2,RB.out.cell,h1,if_pos hj']
   simp)
  rw [List.length_map] at hcv2
  clear hrb hall hbw
  go_wp2
  go_ret
  exact ⟨rfl,HBW.out⟩
 have hx:s[k]?=some s[k]:=List.getElem?_eq_getElem hlt
 have hc0:=(hrb.cell k).trans (hall k _ hx)
 rw [if_neg (by omega)] at hc0
 have hlw:=hrb.lt
 have hf1:=hrb.frozen k (by omega)
 have HX:=Hd hx
 clear hrb hall hbw hx
 generalize s[k]=c at *
 have hi0:(0:Int)≤(k:Int):=Int.natCast_nonneg _
 have hi1:(k:Int)<(s.length:Int):=by omega
 have hcl:=c.toNat_lt
 have NEXT:∀cs',cs'=cs.setIfInBounds k (.int .u8 (upU c).toNat)∨(cs'=cs∧upU c=c)→∀(j:Nat) (d:UInt8),s[j]?=some d→cs'[j]?=some (.int .u8 (if j<k+1 then upU d else d).toNat):=by
  intro cs' hcs' j d hj
  have h0:=HA.out j d hj
  have hjl:=(List.getElem?_eq_some_iff.1 hj).1
  by_cases hjk:j=k
  ·subst hjk
   have hd:c=d:=by have:=HX.out.symm.trans hj;simpa using this
   rw [if_pos (by omega),← hd]
   rcases hcs' with rfl | ⟨rfl,he⟩
   ·rw [Array.getElem?_setIfInBounds_self_of_lt (by omega)]
   rw [h0,if_neg (by omega),he,hd]
  have:cs'[j]?=cs[j]?:=by
   rcases hcs' with rfl | ⟨rfl,_⟩
   ·rw [Array.getElem?_setIfInBounds_ne (by omega)]
   rfl
  rw [this,h0]
  by_cases hjk2:j<k
  ·rw [if_pos hjk2,if_pos (by omega)]
  rw [if_neg hjk2,if_neg (by omega)]
 have HNX:=Hd NEXT
 clear NEXT
 by_cases c1:97≤c.toNat
 ·by_cases c2:c.toNat≤122
  ·have d1:(97:Int)≤(c.toNat:Int):=by omega
   have d2:(c.toNat:Int)≤122:=by omega
   have hw:IntKind.u8.wrap ((c.toNat:Int)-32)=(c.toNat:Int)-32:=by rw [IntKind.wrap_u8];omega
   have HU:=Hd (show ((c.toNat:Int)-32)=((upU c).toNat:Int) by
    unfold upU
    rw [if_pos ⟨c1,c2⟩,UInt8.toNat_ofNat']
    omega)
   go_wp2
   rw [HU.out]
   exact ⟨⟨k+1,cs.setIfInBounds k (.int .u8 (upU c).toNat),by omega,by go_num,RB.out.set_ k _,by simpa using hcs,HNX.out _ (.inl rfl),HBW.out.setCell (Nat.le_refl _) _⟩,by simp [intOf];omega⟩
  have d1:(97:Int)≤(c.toNat:Int):=by omega
  have d2:¬(c.toNat:Int)≤122:=by omega
  have HU:=Hd (show upU c=c by unfold upU;rw [if_neg (by omega)])
  go_wp2
  exact ⟨⟨k+1,cs,by omega,by go_num,RB.out,hcs,HNX.out _ (.inr ⟨rfl,HU.out⟩),HBW.out⟩,by simp [intOf];omega⟩
 have d1:¬(97:Int)≤(c.toNat:Int):=by omega
 have HU:=Hd (show upU c=c by unfold upU;rw [if_neg (by omega)])
 go_wp2
 exact ⟨⟨k+1,cs,by omega,by go_num,RB.out,hcs,HNX.out _ (.inr ⟨rfl,HU.out⟩),HBW.out⟩,by simp [intOf];omega⟩
theorem zq9 (s:zaa) (w:World) (hs:s.length≤1000000000):
 Calls prog 366 #[str s] w fun u w'=>u=.returned (.bool (pltB s))∧w=w':=by
 go_enter func366,ntmps366
 go_wp2
 go_loopw [3] (fun v wr=>∃k:Nat,k≤s.length∧v=.int .i64 k∧pltB (s.take k)=true∧w=wr) (fun v _=>s.length-(intOf v).toNat)
 case atStart=>exact ⟨0,by omega,rfl,rfl,rfl⟩
 obtain ⟨k,hk,rfl,he,rfl⟩:=hrel
 have HE:=Hd he
 clear he
 have hi0:(0:Int)≤(k:Int):=Int.natCast_nonneg _
 by_cases hlt:k<s.length
 rotate_left
 ·have hi1:¬(k:Int)<(s.length:Int):=by omega
  have H:=Hd (show pltB s=true by have:=HE.out;rwa [List.take_of_length_le (by omega)] at this)
  go_wp2
  go_ret
  exact ⟨by rw [H.out];rfl,by trivial⟩
 have hi1:(k:Int)<(s.length:Int):=by omega
 have hx:=za2 s k (by rw [zad];exact hlt)
 have htk:s.take (k+1)=s.take k++ [s.getD k 0]:=by rw [List.take_succ_eq_append_getElem hlt,List.getD_eq_getElem?_getD,List.getElem?_eq_getElem hlt];rfl
 have hmem:s.getD k 0∈s:=by rw [List.getD_eq_getElem?_getD,List.getElem?_eq_getElem hlt];exact List.getElem_mem hlt
 have HTK:=Hd htk
 have HNO:=Hd (fun (h:¬(32≤(s.getD k 0).toNat∧(s.getD k 0).toNat≤126))=>show pltB s=false by
  rw [Bool.eq_false_iff]
  intro q
  have:=List.all_eq_true.1 q _ hmem
  simp only [Bool.and_eq_true,decide_eq_true_eq] at this
  exact h this)
 clear htk hmem
 generalize s.getD k 0=c at *
 by_cases c1:32≤c.toNat
 ·by_cases c2:c.toNat≤126
  ·have d1:¬(c.toNat:Int)<32:=by omega
   have d2:¬(126:Int)<(c.toNat:Int):=by omega
   go_wp2
   refine ⟨⟨k+1,by omega,by go_num,?_,by trivial⟩,by simp [intOf];omega⟩
   rw [HTK.out]
   unfold pltB
   rw [List.all_append,show List.all (s.take k) _=true from HE.out]
   simp [c1,c2]
  have d1:¬(c.toNat:Int)<32:=by omega
  have d2:(126:Int)<(c.toNat:Int):=by omega
  have H:=Hd (HNO.out (by omega))
  go_wp2
  go_ret
  exact ⟨by rw [H.out];rfl,by trivial⟩
 have d1:(c.toNat:Int)<32:=by omega
 have H:=Hd (HNO.out (by omega))
 go_wp2
 go_ret
 exact ⟨by rw [H.out];rfl,by trivial⟩
def txtR (s:zaa):Int:=if 256<s.length then 5 else if pltB s=true then 0 else 4
theorem zib (s:zaa) (w:World) (hs:s.length≤1000000000):
 Calls prog 359 #[str s] w fun u w'=>u=.returned (.int .i64 (txtR s))∧w=w':=by
 by_cases hl:256<s.length
 ·have hl':(256:Int)<(s.length:Int):=by omega
  have H:=Hd (show txtR s=5 from if_pos hl)
  go_enter func359,ntmps359
  go_wp2
  go_ret
  exact ⟨by rw [H.out];rfl,rfl⟩
 have hl':¬(256:Int)<(s.length:Int):=by omega
 have HC:=Hd (zq9 s · hs)
 have HT:=Hd (show txtR s=if pltB s=true then 0 else 4 from if_neg hl)
 generalize pltB s=b at *
 cases b
 ·have H:=Hd (show txtR s=4 from HT.out)
  go_enter func359,ntmps359
  go_wp2_with fail
  refine (HC.out _).mono ?_
  rintro u w1 ⟨rfl,rfl⟩
  go_wp2
  go_ret
  exact ⟨by rw [H.out];rfl,by trivial⟩
 have H:=Hd (show txtR s=0 from HT.out)
 go_enter func359,ntmps359
 go_wp2_with fail
 refine (HC.out _).mono ?_
 rintro u w1 ⟨rfl,rfl⟩
 go_wp2
 go_ret
 exact ⟨by rw [H.out];rfl,by trivial⟩
def sumS (b:Bok):Nat:=b.entries.length+b.rules.length+b.grants.length+b.log.length+b.releases.length
def zfv (n m:Nat):Bool:=decide (160<n)||(decide (300<m)&&(decide (m≤4096)||decide (4101<m)))
def zds (s:Scp):Bool:=
 zfv (sumS s.book) s.ops.length||s.book.entries.any (fun x=>decide (600<x.input.length))||s.ops.any (fun x=>decide (600<x.input.length))
theorem head_1 {n:Nat} (m:Nat) (h:160<n):zfv n m=true:=by
 unfold zfv;rw [decide_eq_true h,Bool.true_or]
theorem zho {s:Scp} (h:zfv (sumS s.book) s.ops.length=true):zds s=true:=by
 unfold zds;rw [h,Bool.true_or,Bool.true_or]
theorem sum_1 {s:Scp} (h:(160:Int)<(s.book.entries.length:Int)+(s.book.rules.length:Int)+(s.book.grants.length:Int)+(s.book.log.length:Int)+(s.book.releases.length:Int)):160<sumS s.book:=by
 unfold sumS;omega
theorem head_2 (n:Nat) {m:Nat} (h2:(300:Int)<(m:Int)) (h3:¬(4096:Int)<(m:Int)):zfv n m=true:=by
 unfold zfv;rw [decide_eq_true (show 300<m by omega),decide_eq_true (show m≤4096 by omega),Bool.true_or,Bool.and_true,Bool.or_true]
theorem head_3 (n:Nat) {m:Nat} (_h2:(300:Int)<(m:Int)) (h4:(4101:Int)<(m:Int)):zfv n m=true:=by
 unfold zfv;rw [decide_eq_true (show 300<m by omega),decide_eq_true (show 4101<m by omega),Bool.or_true,Bool.and_true,Bool.or_true]
theorem zt0 {s:Scp} (h:¬(160:Int)<(s.book.entries.length:Int)+(s.book.rules.length:Int)+(s.book.grants.length:Int)+(s.book.log.length:Int)+(s.book.releases.length:Int)):¬160<sumS s.book:=by
 unfold sumS;omega
theorem head_4 {n m:Nat} (h:¬160<n) (h2:¬(300:Int)<(m:Int)):zfv n m=false:=by
 unfold zfv;rw [decide_eq_false h,decide_eq_false (show ¬300<m by omega),Bool.false_and,Bool.or_false]
theorem head_5 {n m:Nat} (h:¬160<n) (h3:(4096:Int)<(m:Int)) (h4:¬(4101:Int)<(m:Int)):zfv n m=false:=by
 unfold zfv;rw [decide_eq_false h,decide_eq_false (show ¬m≤4096 by omega),decide_eq_false (show ¬4101<m by omega),Bool.or_false,Bool.and_false,Bool.or_false]
theorem zns {s:Scp} (h:s.book.entries.any (fun x=>decide (600<x.input.length))=true):zds s=true:=by
 unfold zds;rw [h,Bool.or_true,Bool.true_or]
theorem znq {s:Scp} (h:s.ops.any (fun x=>decide (600<x.input.length))=true):zds s=true:=by
 unfold zds;rw [h,Bool.or_true]
theorem znr {s:Scp} (h:zfv (sumS s.book) s.ops.length=false) (h1:s.book.entries.any (fun x=>decide (600<x.input.length))=false) (h2:s.ops.any (fun x=>decide (600<x.input.length))=false):zds s=false:=by
 unfold zds;rw [h,h1,h2,Bool.false_or,Bool.or_false]
theorem zgs {k:Nat} {W:Int} (h:W=(k:Int)+1):Value.int .i64 W=.int .i64 ((k+1:Nat):Int):=by subst h;rfl
theorem zft {n k:Nat} {W:Int} (h:W=(k:Int)+1) (hk:k+1≤n):n-(intOf (.int .i64 W)).toNat<n-(intOf (.int .i64 (k:Int))).toNat:=by
 subst h;simp [intOf];omega
theorem ze0 {n k:Nat} (h:n≤reachBytes) (hk:k<n):wrap64 ((k:Int)+1)=(k:Int)+1:=by
 unfold reachBytes at h
 exact Go.IntWalk.wrap64_in _ ⟨by omega,by omega⟩
theorem zqs {s:Scp} (h:Reach s):
 wrap64 ((s.book.entries.length:Int)+(s.book.rules.length:Int))=(s.book.entries.length:Int)+(s.book.rules.length:Int)∧
 wrap64 ((s.book.entries.length:Int)+(s.book.rules.length:Int)+(s.book.grants.length:Int))=(s.book.entries.length:Int)+(s.book.rules.length:Int)+(s.book.grants.length:Int)∧
 wrap64 ((s.book.entries.length:Int)+(s.book.rules.length:Int)+(s.book.grants.length:Int)+(s.book.log.length:Int))=(s.book.entries.length:Int)+(s.book.rules.length:Int)+(s.book.grants.length:Int)+(s.book.log.length:Int)∧
 wrap64 ((s.book.entries.length:Int)+(s.book.rules.length:Int)+(s.book.grants.length:Int)+(s.book.log.length:Int)+(s.book.releases.length:Int))=(s.book.entries.length:Int)+(s.book.rules.length:Int)+(s.book.grants.length:Int)+(s.book.log.length:Int)+(s.book.releases.length:Int):=by
 obtain ⟨n1,n2,n3,n4,n5,_⟩:=h
 unfold reachBytes at n1 n2 n3 n4 n5
 exact ⟨Go.IntWalk.wrap64_in _ ⟨by omega,by omega⟩,Go.IntWalk.wrap64_in _ ⟨by omega,by omega⟩,Go.IntWalk.wrap64_in _ ⟨by omega,by omega⟩,Go.IntWalk.wrap64_in _ ⟨by omega,by omega⟩⟩
theorem zg1 {α:Type} (p:α→Bool) {l:List α} {k:Nat} {x:α} (h:l[k]?=some x) (ha:(l.take k).any p=false) (hx:p x=false):(l.take (k+1)).any p=false:=by
 have hk:=(List.getElem?_eq_some_iff.1 h).1
 rw [List.take_succ_eq_append_getElem hk,List.any_append,ha]
 rw [List.getElem?_eq_getElem hk] at h
 simp at h
 simp [h,hx]
theorem zoi {α:Type} (p:α→Bool) {l:List α} {k:Nat} {x:α} (h:l[k]?=some x) (hx:p x=true):l.any p=true:=by
 rw [List.any_eq_true]
 exact ⟨x,List.mem_of_getElem? h,hx⟩
end Go.Proofs.YtamcgggmfghljaaGreatDoor
