/- A region that draws its order, loads its operands, and then stores into the very cells tha -/
import Derived.OrdersHeld
import Derived.Maps.AppendAt
import Derived.OwnWalk
import Derived.Lib.AppendStr
import Derived.Lib.AppendZerosOnto
import Derived.Laws.CopyOwn
import Derived.Deep.RegionHeld3
import Derived.Maps.RangeWalk
import Derived.Deep.RegionHeld
import Derived.Test.YtamcgggmfghljaaGreatDoorD1
set_option maxRecDepth 100000
set_option maxHeartbeats 8000000
open Go.Proofs.Tryz
namespace Go.Proofs.YtamcgggmfghljaaGreatDoor
open Go.RowKit
section
variable {P:Program} {ops:Array Oper} {Q:Exit→Act→World→Prop} {md:Region.Mode} {S:World→Prop} {s:Nat}
def zav (P:Program) (md:Region.Mode) (ops:Array Oper) (Q:Exit→Act→World→Prop) (S:World→Prop) (s:Nat):Nat→Array Bool→Act→World→Prop
 | 0,listed,a,w=>Region.ready md ops listed=[]∧Q .normal a w
 | fuel+1,listed,a,w=>
  (Region.ready md ops listed=[]→Q .normal a w)∧
  ∀i∈Region.ready md ops listed,wpOp P ops Q i (fun a' w'=>((listed.setIfInBounds i true).getD s true=false→S w')∧zav P md ops Q S s fuel (listed.setIfInBounds i true) a' w') a w
theorem zif:∀(fuel:Nat) (listed:Array Bool) (a:Act) (w:World),zav P md ops Q S s fuel listed a w→wpAny P md ops Q fuel listed a w
 | 0,_,_,_,h=>h
 | fuel+1,_,_,_,h=>⟨h.1,fun i hi=>wpOp_mono (fun a' w' h'=>zif fuel _ a' w' h'.2) (h.2 i hi)⟩
def zgr (md:Region.Mode) (ops:Array Oper) (s i:Nat):Bool:=match ops[s]? with
 | some o=>o.after.any fun e=>Region.binds md e&&e.on==i
 | none=>false
theorem zkj {i:Nat} {oi:Oper} {v:Value} (hi:ops[i]?=some oi) (hsel:∀(j:Nat) (o:Oper) cs b,ops[j]?=some o→o.op≠.select cs b)
 (hQ:∀c a w,Q (.panic c) (a.put oi.dst v) w→Q (.panic c) a w) (hw:zgr md ops s i=true) (hsi:i≠s):
 ∀(fuel:Nat) (listed:Array Bool) (a:Act) (w:World),
  (∀j oj,ops[j]?=some oj→j≠i→listed.getD j true=false→(∀e∈oj.after,Region.binds md e=true→e.on≠i)→oi.apart ops oj=true)→
  i∈Region.ready md ops listed→YieldsIf P ops S oi v a→S w→listed.getD s true=false→
  zav P md ops Q S s fuel (listed.setIfInBounds i true) (a.put oi.dst v) w→zav P md ops Q S s (fuel+1) listed a w:=by
 intro fuel
 induction fuel with
 | zero=>
  intro listed a w _ hr hy hS hl H
  refine ⟨fun h=>(by rw [h] at hr;cases hr),fun j hj=>?_⟩
  by_cases hji:j=i
  ·subst hji;exact hy.wpOp hi hS ⟨fun _=>hS,H⟩
  have:=ready_mono hj hji
  rw [H.1] at this
  cases this
 | succ fuel ih=>
  intro listed a w hfree hr hy hS hl H
  refine ⟨fun h=>(by rw [h] at hr;cases hr),fun j hj=>?_⟩
  by_cases hji:j=i
  ·subst hji;exact hy.wpOp hi hS ⟨fun _=>hS,H⟩
  have h1:=H.2 j (ready_mono hj hji)
  obtain ⟨hjun,oj,hoj,hall⟩:=mem_ready.1 hj
  have hnot:∀e∈oj.after,Region.binds md e=true→e.on≠i:=fun e he hb heq=>by
   have h1:=hall e he hb
   have h0:=(mem_ready.1 hr).1
   rw [heq] at h1
   rcases Nat.lt_or_ge i listed.size with h' | h'
   ·simp [h'] at h0 h1;rw [h0] at h1;cases h1
   simp [Array.getElem?_eq_none h'] at h1
  have hjs:j≠s:=by
   rintro rfl
   unfold zgr at hw
   rw [hoj] at hw
   simp only [Array.any_eq_true,Bool.and_eq_true,beq_iff_eq] at hw
   obtain ⟨x,hx,hb,ho⟩:=hw
   exact hnot _ (Array.getElem_mem hx) hb ho
  have hl':((listed.setIfInBounds i true).setIfInBounds j true).getD s true=false:=by
   rw [getD_set_ne true hjs,getD_set_ne true hsi];exact hl
  have h2:=wpOp_putIf hoj (hfree j oj hoj hji hjun hnot) (fun cs b=>hsel i oi cs b hi) (fun cs b=>hsel j oj cs b hoj) hQ hy h1
  have hfree':∀k ok,ops[k]?=some ok→k≠i→(listed.setIfInBounds j true).getD k true=false→
   (∀e∈ok.after,Region.binds md e=true→e.on≠i)→oi.apart ops ok=true:=fun k ok hk hki hun hno=>by
   refine hfree k ok hk hki ?_ hno
   by_cases hjk:j=k
   ·subst hjk;exact hjun
   rw [getD_set_ne true hjk] at hun;exact hun
  refine wpOp_mono (fun a' w' h3=>⟨fun _=>h3.2.1 hl',ih (listed.setIfInBounds j true) a' w' hfree' (ready_mono hr (Ne.symm hji)) h3.1 (h3.2.1 hl') (by rw [getD_set_ne true hjs];exact hl) ?_⟩) h2
  rw [Array.setIfInBounds_comm _ _ hji]
  exact h3.2.2
theorem zi8 {i:Nat} {oi:Oper} {v:Value} (hi:ops[i]?=some oi) (hsel:∀(j:Nat) (o:Oper) cs b,ops[j]?=some o→o.op≠.select cs b)
 (hQ:∀c a w,Q (.panic c) (a.put oi.dst v) w→Q (.panic c) a w) (hsi:i≠s):
 ∀(fuel:Nat) (listed:Array Bool) (a:Act) (w:World),
  (∀j oj,ops[j]?=some oj→j≠i→listed.getD j true=false→(∀e∈oj.after,Region.binds md e=true→e.on≠i)→oi.apart ops oj=true)→
  i∈Region.ready md ops listed→YieldsIf P ops (fun _=>True) oi v a→(listed.getD s true=false→S w)→
  zav P md ops Q S s fuel (listed.setIfInBounds i true) (a.put oi.dst v) w→zav P md ops Q S s (fuel+1) listed a w:=by
 intro fuel
 induction fuel with
 | zero=>
  intro listed a w _ hr hy hS H
  refine ⟨fun h=>(by rw [h] at hr;cases hr),fun j hj=>?_⟩
  by_cases hji:j=i
  ·subst hji;exact hy.wpOp hi trivial ⟨fun h=>hS (by rwa [getD_set_ne true hsi] at h),H⟩
  have:=ready_mono hj hji
  rw [H.1] at this
  cases this
 | succ fuel ih=>
  intro listed a w hfree hr hy hS H
  refine ⟨fun h=>(by rw [h] at hr;cases hr),fun j hj=>?_⟩
  by_cases hji:j=i
  ·subst hji;exact hy.wpOp hi trivial ⟨fun h=>hS (by rwa [getD_set_ne true hsi] at h),H⟩
  have h1:=H.2 j (ready_mono hj hji)
  obtain ⟨hjun,oj,hoj,hall⟩:=mem_ready.1 hj
  have hnot:∀e∈oj.after,Region.binds md e=true→e.on≠i:=fun e he hb heq=>by
   have h1:=hall e he hb
   have h0:=(mem_ready.1 hr).1
   rw [heq] at h1
   rcases Nat.lt_or_ge i listed.size with h' | h'
   ·simp [h'] at h0 h1;rw [h0] at h1;cases h1
   simp [Array.getElem?_eq_none h'] at h1
  have h2:=wpOp_putIf hoj (hfree j oj hoj hji hjun hnot) (fun cs b=>hsel i oi cs b hi) (fun cs b=>hsel j oj cs b hoj) hQ hy h1
  have hfree':∀k ok,ops[k]?=some ok→k≠i→(listed.setIfInBounds j true).getD k true=false→
   (∀e∈ok.after,Region.binds md e=true→e.on≠i)→oi.apart ops ok=true:=fun k ok hk hki hun hno=>by
   refine hfree k ok hk hki ?_ hno
   by_cases hjk:j=k
   ·subst hjk;exact hjun
   rw [getD_set_ne true hjk] at hun;exact hun
  have hS':∀w',(((listed.setIfInBounds i true).setIfInBounds j true).getD s true=false→S w')→(listed.setIfInBounds j true).getD s true=false→S w':=fun w' h hl=>by
   refine h ?_
   rw [Array.setIfInBounds_comm _ _ (Ne.symm hji),getD_set_ne true hsi]
   exact hl
  refine wpOp_mono (fun a' w' h3=>⟨hS' w' h3.2.1,ih (listed.setIfInBounds j true) a' w' hfree' (ready_mono hr (Ne.symm hji)) h3.1 (hS' w' h3.2.1) ?_⟩) h2
  rw [Array.setIfInBounds_comm _ _ hji]
  exact h3.2.2
theorem zar (i:Nat) {oi:Oper} {v:Value} {fuel:Nat} {listed:Array Bool} {a:Act} {w:World} (hi:ops[i]?=some oi)
 (hs:Region.noSelect ops=true) (hf:Region.free md ops listed i=true) (hr:(Region.ready md ops listed).contains i=true) (hsi:i≠s)
 (hQ:∀c a w,Q (.panic c) (a.put oi.dst v) w→Q (.panic c) a w) (hy:YieldsIf P ops (fun _=>True) oi v a) (hS:listed.getD s true=false→S w)
 (h:zav P md ops Q S s fuel (listed.setIfInBounds i true) (a.put oi.dst v) w):zav P md ops Q S s (fuel+1) listed a w:=
 zi8 hi (Region.noSelect_spec hs) hQ hsi fuel listed a w (Region.free_spec hi hf) (by simpa using hr) hy hS h
theorem zb2 (i:Nat) {oi:Oper} {v:Value} {fuel:Nat} {listed:Array Bool} {a:Act} {w:World} (hi:ops[i]?=some oi)
 (hs:Region.noSelect ops=true) (hf:Region.free md ops listed i=true) (hr:(Region.ready md ops listed).contains i=true)
 (hw:zgr md ops s i=true) (hsi:i≠s) (hl:listed.getD s true=false)
 (hQ:∀c a w,Q (.panic c) (a.put oi.dst v) w→Q (.panic c) a w) (hy:YieldsIf P ops S oi v a) (hS:S w)
 (h:zav P md ops Q S s fuel (listed.setIfInBounds i true) (a.put oi.dst v) w):zav P md ops Q S s (fuel+1) listed a w:=
 zkj hi (Region.noSelect_spec hs) hQ hw hsi fuel listed a w (Region.free_spec hi hf) (by simpa using hr) hy hS hl h
theorem zxf {i:Nat} {o:Oper} {a:Act} {w:World} {K:Act→World→Prop} (ho:ops[i]?=some o) (hg:o.guard=none) (h:o.wp P a w K Q):wpOp P ops Q i K a w:=by
 unfold wpOp
 simp only [ho,Region.wanted,hg,if_true]
 exact .inl h
theorem za4 (i:Nat) {o:Oper} {fuel:Nat} {listed:Array Bool} {a:Act} {w:World} (hr:Region.ready md ops listed=[i]) (ho:ops[i]?=some o) (hg:o.guard=none)
 (h:o.wp P a w (fun a' w'=>((listed.setIfInBounds i true).getD s true=false→S w')∧zav P md ops Q S s fuel (listed.setIfInBounds i true) a' w') Q):zav P md ops Q S s (fuel+1) listed a w:=by
 refine ⟨fun h0=>(by rw [hr] at h0;cases h0),fun j hj=>?_⟩
 rw [hr] at hj
 have e:j=i:=by simpa using hj
 subst e
 exact zxf ho hg h
theorem za9 {fuel:Nat} {listed:Array Bool} {a:Act} {w:World} (hr:Region.ready md ops listed=[]) (h:Q .normal a w):zav P md ops Q S s fuel listed a w:=by
 cases fuel with
 | zero=>exact ⟨hr,h⟩
 | succ n=>exact ⟨fun _=>h,by rw [hr];simp⟩
theorem za8 {id:Nat} {a:Act} {w:World} (S:World→Prop) (s:Nat) (hm:P.follows .mixedOrders=true)
 (h:zav P .any ops Q S s ops.size (Array.replicate ops.size false) a w.drew):(Code.region id ops true).wp P Q a w:=
 wp_region_any hm (zif _ _ _ _ h)
end
def zu4 (n:Nat):Code→Option (Array Oper)
 | .region k ops _=>if k=n then some ops else none
 | .seq a b=>(zu4 n a).or (zu4 n b)
 | _=>none
def SlsN {α:Type} (c:α→List Value) (base:Nat) (w:World) (v:Value) (l:List α):Prop:=Sls c w w.heap.size v l∧∀q,v.ownBlock=some q→base≤q
theorem SlsN.below {α:Type} {c:α→List Value} {base:Nat} {w w':World} {v:Value} {l:List α} (h:SlsN c base w v l) (hb:Below w.heap.size w w'):SlsN c base w' v l:=⟨(h.1.below hb).more hb.size,h.2⟩
theorem SlsN.older {α:Type} {c:α→List Value} {base base':Nat} {w:World} {v:Value} {l:List α} (h:SlsN c base w v l) (hb:base'≤base):SlsN c base' w v l:=⟨h.1,fun q hq=>by have:=h.2 q hq;omega⟩
theorem SlsN.set {α:Type} {c:α→List Value} {base:Nat} {w:World} {v:Value} {l:List α} (h:SlsN c base w v l) {p:Addr} (hp:p.block<base) (u:Value):SlsN c base (w.setCell p u) v l:=by
 refine ⟨?_,h.2⟩
 obtain ⟨A,cap,rfl,h1,hm,h2⟩:=h.1
 refine ⟨A,cap,rfl,h1,hm,fun hn=>?_⟩
 obtain ⟨b,o,rfl,hlt,hr⟩:=h2 hn
 refine ⟨b,o,rfl,by simpa [World.setCell] using hlt,fun j t ht=>?_⟩
 have hq:=h.2 b rfl
 rw [World.cell?_setCell_other w p _ u (fun e=>by subst e;simp at hp;omega)]
 exact hr j t ht
theorem zt7 {P:Program} {α:Type} (w:World) (c:α→List Value) (t ty e:TypeId) (i:TypeInfo) (z:Value) (size bytes:Nat) (ht:P.underlying t=some (.slice e)) (hi:P.info? e=some i) (hz:i.zero=some z)
 (hsize:i.size=size) (hby:i.bytes=bytes) (hzs:z.cells.size=size) (hsz:0<size) (B:Nat) (v:Value) (l:List α) (hl:Sls c w B v l)
 (hk:∀x,(c x).length=size) (h1:∀x,∀u∈c x,u.oneCell'=true) (hbytes:l.length*bytes≤140737488355328):
 ∃v' w',(Builtin.append_ #[t,t] ty #[.slice none 0 0,v]).run P w=.ok v' w'∧SlsN c w.heap.size w' v' l∧Below w.heap.size w w':=by
 obtain ⟨A,cap,rfl,hc,hm,hr⟩:=hl
 rcases A with _ | ad
 ·have h0:l.length=0:=by
   rcases Nat.eq_zero_or_pos l.length with h0 | h0
   ·exact h0
   obtain ⟨b,o,h,_⟩:=hr h0
   cases h
  have hn:l=[]:=List.eq_nil_of_length_eq_zero h0
  subst hn
  exact ⟨.slice none 0 0,w,by simp [Builtin.append_,run_underlying ht,sizeOf,typeInfo,hi,Builtin.lenOf,Builtin.firstCells],⟨Sls.nil _ _ _ _ _,by simp [Value.ownBlock]⟩,Below.refl _ _⟩
 have hown:w.ownsRow w.heap.size e size (.slice none 0 0) 0 []:=⟨by simp,.inl ⟨rfl,rfl⟩⟩
 have hcells:∀j u,(l.flatMap c)[j]?=some u→w.cell? (ad.add j)=some u:=by
  intro j u hu
  rcases Nat.eq_zero_or_pos l.length with h0 | h0
  ·have hn:l=[]:=List.eq_nil_of_length_eq_zero h0
   subst hn
   simp at hu
  obtain ⟨b,o,h,_,hg⟩:=hr h0
  injection h with h
  subst h
  rw [Addr.add_mid]
  exact hg j u hu
 obtain ⟨v',w',hrun,h2,h3,h4,h5⟩:=run_append_own_at (P:=P) w w.heap.size t ty e i z size bytes ht hi hz hsize hby hzs hsz (.slice none 0 0) 0 [] hown ad l.length cap (l.flatMap c) (zd4 c size hk l) hcells
  (by intro u hu;obtain ⟨x,_,hx⟩:=List.mem_flatMap.1 hu;exact h1 x u hx) (by omega) (by simpa using hbytes) (Nat.le_refl _)
 refine ⟨v',w',hrun,⟨Sls.of_own (e:=e) (size:=size) (base:=w.heap.size) (by simpa using h2) hm,fun q hq=>by rcases h5 with h | h <;> rw [h] at hq <;> simp [Value.ownBlock] at hq;omega⟩,(Below.refl _ _).grown h3 (Nat.le_refl _) (by simp [Value.ownBlock])⟩
theorem zce {P:Program} {w:World} {α:Type} (c:α→List Value) {ops:Array Oper} {rest:List Oper} {o:Oper} {a:Act} {Q:Exit→Act→World→Prop} (hgd:o.guard=none) (s x:Operand) (t:TypeId)
 (ho:o.op=.call { callee:=.builtin .append,args:=#[s,x],argTypes:=#[t,t] })
 (e:TypeId) (i:TypeInfo) (z:Value) (size bytes:Nat) (ht:P.underlying t=some (.slice e)) (hi:P.info? e=some i) (hz:i.zero=some z)
 (hsize:i.size=size) (hby:i.bytes=bytes) (hzs:z.cells.size=size) (hsz:0<size) (hs:a.eval s=.slice none 0 0) (B:Nat) (v:Value) (l:List α) (hx:a.eval x=v) (hl:Sls c w B v l)
 (hk:∀x,(c x).length=size) (h1:∀x,∀u∈c x,u.oneCell'=true) (hbytes:l.length*bytes≤140737488355328)
 (h:∀v' w',SlsN c w.heap.size w' v' l→Below w.heap.size w w'→wpList P ops Q rest (a.put o.dst v') w'):wpList P ops Q (o::rest) a w:=by
 obtain ⟨v',w',hrun,h2,h3⟩:=zt7 (P:=P) w c t o.type e i z size bytes ht hi hz hsize hby hzs hsz B v l hl hk h1 hbytes
 refine wpList_plain hgd fun K hK=>?_
 unfold Oper.wp execOp
 simp only [ho,resolve,invoke,builtin,Sem.run_bind,Sem.run_pure,Result.andThen_ok,List.map_toArray,List.map_cons,List.map_nil,hs,hx,hrun]
 exact hK _ _ (h v' w' h2 h3)
theorem zof (x:Ent):∀u∈cEnt x,u.oneCell'=true:=by
 simp [cEnt,Value.oneCell']
theorem zwg (v:Value) (l:List Ent) (B:Nat) (w:World) (hv:Sls cEnt w B v l) (hn:l.length≤8192):
 Calls prog 79 #[v] w fun e w'=>∃v',e=.returned v'∧SlsN cEnt w.heap.size w' v' l∧Below w.heap.size w w':=by
 obtain ⟨i0,hi0,hz0,hz1,hz2⟩:=info_parts (show (prog.info? 58).map (fun i=>(i.zero,i.size,i.bytes))=some (some (.agg #[.int .i64 0,.int .i64 0,.string ⟨#[]⟩]),3,32) by kernel_rfl)
 go_enter func79,ntmps79
 go_wp2_with (first
  | (at_builtin
     refine zce cEnt rfl (.const (.slice none 0 0)) (.tmp 3) _ rfl 58 i0 _ 3 32 rfl hi0 hz0 hz1 hz2 rfl (by omega) rfl B v l rfl hv zbw zof (by omega) ?_
     intro v1 w1 hs1 hb1))
 go_ret
 exact ⟨v1,rfl,hs1,hb1⟩
theorem zwi (x:Rul):∀u∈cRul x,u.oneCell'=true:=by
 simp [cRul,Value.oneCell']
theorem zwb (v:Value) (l:List Rul) (B:Nat) (w:World) (hv:Sls cRul w B v l) (hn:l.length≤8192):
 Calls prog 80 #[v] w fun e w'=>∃v',e=.returned v'∧SlsN cRul w.heap.size w' v' l∧Below w.heap.size w w':=by
 obtain ⟨i0,hi0,hz0,hz1,hz2⟩:=info_parts (show (prog.info? 79).map (fun i=>(i.zero,i.size,i.bytes))=some (some (.agg #[.int .i64 0,.int .i64 0,.int .i64 0,.int .i64 0,.int .u64 0,.int .u64 0,.int .u64 0]),7,56) by kernel_rfl)
 go_enter func80,ntmps80
 go_wp2_with (first
  | (at_builtin
     refine zce cRul rfl (.const (.slice none 0 0)) (.tmp 3) _ rfl 79 i0 _ 7 56 rfl hi0 hz0 hz1 hz2 rfl (by omega) rfl B v l rfl hv zcu zwi (by omega) ?_
     intro v1 w1 hs1 hb1))
 go_ret
 exact ⟨v1,rfl,hs1,hb1⟩
theorem zwn (x:Grt):∀u∈cGrt x,u.oneCell'=true:=by
 simp [cGrt,Value.oneCell']
theorem zwe (v:Value) (l:List Grt) (B:Nat) (w:World) (hv:Sls cGrt w B v l) (hn:l.length≤8192):
 Calls prog 81 #[v] w fun e w'=>∃v',e=.returned v'∧SlsN cGrt w.heap.size w' v' l∧Below w.heap.size w w':=by
 obtain ⟨i0,hi0,hz0,hz1,hz2⟩:=info_parts (show (prog.info? 85).map (fun i=>(i.zero,i.size,i.bytes))=some (some (.agg #[.int .i64 0,.int .i64 0,.int .i64 0,.int .i64 0,.int .u8 0,.int .u64 0,.int .i64 0,.bool false]),8,64) by kernel_rfl)
 go_enter func81,ntmps81
 go_wp2_with (first
  | (at_builtin
     refine zce cGrt rfl (.const (.slice none 0 0)) (.tmp 3) _ rfl 85 i0 _ 8 64 rfl hi0 hz0 hz1 hz2 rfl (by omega) rfl B v l rfl hv zdm zwn (by omega) ?_
     intro v1 w1 hs1 hb1))
 go_ret
 exact ⟨v1,rfl,hs1,hb1⟩
theorem zwo (x:Evt):∀u∈cEvt x,u.oneCell'=true:=by
 simp [cEvt,Value.oneCell']
theorem zwf (v:Value) (l:List Evt) (B:Nat) (w:World) (hv:Sls cEvt w B v l) (hn:l.length≤8192):
 Calls prog 82 #[v] w fun e w'=>∃v',e=.returned v'∧SlsN cEvt w.heap.size w' v' l∧Below w.heap.size w w':=by
 obtain ⟨i0,hi0,hz0,hz1,hz2⟩:=info_parts (show (prog.info? 110).map (fun i=>(i.zero,i.size,i.bytes))=some (some (.agg #[.int .i64 0,.int .i64 0,.int .u8 0,.int .i64 0,.int .i64 0,.int .i64 0,.int .i64 0,.bool false,.int .u64 0]),9,72) by kernel_rfl)
 go_enter func82,ntmps82
 go_wp2_with (first
  | (at_builtin
     refine zce cEvt rfl (.const (.slice none 0 0)) (.tmp 3) _ rfl 110 i0 _ 9 72 rfl hi0 hz0 hz1 hz2 rfl (by omega) rfl B v l rfl hv zcw zwo (by omega) ?_
     intro v1 w1 hs1 hb1))
 go_ret
 exact ⟨v1,rfl,hs1,hb1⟩
theorem zwj (x:Rls):∀u∈cRls x,u.oneCell'=true:=by
 simp [cRls,Value.oneCell']
theorem zwc (v:Value) (l:List Rls) (B:Nat) (w:World) (hv:Sls cRls w B v l) (hn:l.length≤8192):
 Calls prog 83 #[v] w fun e w'=>∃v',e=.returned v'∧SlsN cRls w.heap.size w' v' l∧Below w.heap.size w w':=by
 obtain ⟨i0,hi0,hz0,hz1,hz2⟩:=info_parts (show (prog.info? 116).map (fun i=>(i.zero,i.size,i.bytes))=some (some (.agg #[.int .i64 0,.int .i64 0,.int .i64 0,.int .i64 0,.int .u8 0,.int .i64 0,.int .i64 0,.int .i64 0,.int .i64 0,.int .i64 0,.int .u64 0]),11,88) by kernel_rfl)
 go_enter func83,ntmps83
 go_wp2_with (first
  | (at_builtin
     refine zce cRls rfl (.const (.slice none 0 0)) (.tmp 3) _ rfl 116 i0 _ 11 88 rfl hi0 hz0 hz1 hz2 rfl (by omega) rfl B v l rfl hv zcv zwj (by omega) ?_
     intro v1 w1 hs1 hb1))
 go_ret
 exact ⟨v1,rfl,hs1,hb1⟩
theorem zwk (x:Opr):∀u∈cOpr x,u.oneCell'=true:=by
 simp [cOpr,Value.oneCell']
theorem zwd (v:Value) (l:List Opr) (B:Nat) (w:World) (hv:Sls cOpr w B v l) (hn:l.length≤8192):
 Calls prog 26 #[v] w fun e w'=>∃v',e=.returned v'∧SlsN cOpr w.heap.size w' v' l∧Below w.heap.size w w':=by
 obtain ⟨i0,hi0,hz0,hz1,hz2⟩:=info_parts (show (prog.info? 48).map (fun i=>(i.zero,i.size,i.bytes))=some (some (.agg #[.int .u8 0,.int .i64 0,.int .i64 0,.int .i64 0,.int .i64 0,.int .i64 0,.string ⟨#[]⟩,.int .u64 0,.int .u64 0,.int .u64 0,.int .u8 0,.int .u64 0,.int .i64 0]),13,112) by kernel_rfl)
 go_enter func26,ntmps26
 go_wp2_with (first
  | (at_builtin
     refine zce cOpr rfl (.const (.slice none 0 0)) (.tmp 3) _ rfl 48 i0 _ 13 112 rfl hi0 hz0 hz1 hz2 rfl (by omega) rfl B v l rfl hv zdl zwk (by omega) ?_
     intro v1 w1 hs1 hb1))
 go_ret
 exact ⟨v1,rfl,hs1,hb1⟩
def u8s (l:zaa):List Value:=l.map fun b=>.int .u8 b.toNat
theorem zqj (l:zaa):(u8s l).length=l.length:=by simp [u8s]
theorem zl3 (a b:zaa):u8s (a++b)=u8s a++u8s b:=by simp [u8s]
theorem zxo (l:zaa):∀u∈u8s l,u.oneCell'=true:=by
 intro u hu
 simp only [u8s,List.mem_map] at hu
 obtain ⟨b,_,rfl⟩:=hu
 rfl
def Out (w:World) (v:Value) (l:zaa):Prop:=w.ownsRow 0 5 1 v l.length (u8s l)
theorem Out.nil (w:World):Out w (.slice none 0 0) []:=World.ownsRow_nil w 0 _ 1
theorem Out.lt {w:World} {v:Value} {l:zaa} (h:Out w v l) (k:Nat) (hk:v.ownBlock=some k):k<w.heap.size:=(World.ownsRow.lt h k hk).2
theorem Out.alloc {w:World} {v:Value} {l:zaa} (h:Out w v l) (o:Obj):Out (w.alloc o) v l:=World.ownsRow.alloc h o
theorem Out.drew {w:World} {v:Value} {l:zaa} (h:Out w v l):Out w.drew v l:=h
theorem Out.drewN {w:World} {v:Value} {l:zaa} (h:Out w v l) (n:Nat):Out (w.drewN n) v l:=h
theorem Out.below {w w':World} {v:Value} {l:zaa} (h:Out w v l) (hb:Below w.heap.size w w'):Out w' v l:=by
 refine World.ownsRow.kept (row:=none) h ⟨hb.os,hb.tape,hb.output,hb.size,fun k hk _=>hb.block k hk⟩ ?_
 rcases hv:v.ownBlock with _ | k
 ·exact .inl rfl
 exact .inr (by simp)
theorem Out.far {w:World} {v:Value} {l:zaa} (h:Out w v l) {p:Addr} (hp:v.ownBlock≠some p.block) (u:Value):Out (w.setCell p u) v l:=by
 refine World.ownsRow.kept (row:=some p.block) h ⟨rfl,rfl,rfl,by simp [World.setCell],fun k _ hk=>Below.heap_setCell _ _ _ _ (fun e=>hk (by rw [e]))⟩ (.inr hp)
structure OutTo (w:World) (v:Value) (w':World) (v':Value):Prop where
 chg:Chg (fun k=>v.ownBlock=some k) w w'
 own:∀k,v'.ownBlock=some k→v.ownBlock=some k∨w.heap.size≤k
theorem OutTo.refl (w:World) (v:Value):OutTo w v w v:=⟨Chg.refl _ _,fun _ h=>.inl h⟩
theorem OutTo.trans {w w1 w2:World} {v v1 v2:Value} (h:OutTo w v w1 v1) (k:OutTo w1 v1 w2 v2):OutTo w v w2 v2:=by
 refine ⟨⟨k.chg.os.trans h.chg.os,k.chg.tape.trans h.chg.tape,k.chg.output.trans h.chg.output,Nat.le_trans h.chg.size k.chg.size,fun i hi hs=>?_⟩,fun i hi=>?_⟩
 ·refine (k.chg.block i (Nat.lt_of_lt_of_le hi h.chg.size) fun e=>?_).trans (h.chg.block i hi hs)
  rcases h.own i e with e | e
  ·exact hs e
  omega
 rcases k.own i hi with e | e
 ·exact h.own i e
 exact .inr (Nat.le_trans h.chg.size e)
theorem OutTo.below {w w1 w2:World} {v v1:Value} (h:OutTo w v w1 v1) (k:Below w1.heap.size w1 w2):OutTo w v w2 v1:=⟨h.chg.below k,h.own⟩
theorem OutTo.alloc {w w1:World} {v v1:Value} (h:OutTo w v w1 v1) (o:Obj):OutTo w v (w1.alloc o) v1:=⟨h.chg.alloc o,h.own⟩
theorem OutTo.drew {w w1:World} {v v1:Value} (h:OutTo w v w1 v1):OutTo w v w1.drew v1:=⟨h.chg.drew,h.own⟩
theorem OutTo.drewN {w w1:World} {v v1:Value} (h:OutTo w v w1 v1) (n:Nat):OutTo w v (w1.drewN n) v1:=⟨h.chg.drewN n,h.own⟩
theorem OutTo.cell {w w':World} {v v':Value} (h:OutTo w v w' v') {p:Addr} (hp:p.block<w.heap.size) (hs:v.ownBlock≠some p.block):w'.cell? p=w.cell? p:=h.chg.cell hp hs
theorem OutTo.frozen {w w':World} {v v':Value} (h:OutTo w v w' v') {p:Addr} (hp:p.block<w.heap.size) (hs:v.ownBlock≠some p.block):w'.frozen? p=w.frozen? p:=h.chg.frozen hp hs
theorem OutTo.ne {w w':World} {v v':Value} (h:OutTo w v w' v') {g:Nat} (hg:g<w.heap.size) (hv:v.ownBlock≠some g):v'.ownBlock≠some g:=fun e=>by
 rcases h.own g e with e | e
 ·exact hv e
 omega
theorem Blk.outTo {w w':World} {v v':Value} {g:Nat} {t:TypeId} {cs:Array Value} (h:Blk w g t cs) (ho:OutTo w v w' v') (hg:v.ownBlock≠some g):Blk w' g t cs:=h.chg ho.chg hg
theorem OutTo.old {w w':World} {v v':Value} (h:OutTo w v w' v') {B:Nat} (hB:B≤w.heap.size) (hv:∀k,v.ownBlock=some k→B≤k):Below B w w':=h.chg.to_below hB fun k hk e=>by have:=hv k e;omega
theorem OutTo.newer {w w':World} {v v':Value} (h:OutTo w v w' v') {B:Nat} (hB:B≤w.heap.size) (hv:∀k,v.ownBlock=some k→B≤k):∀k,v'.ownBlock=some k→B≤k:=fun k e=>by
 rcases h.own k e with e | e
 ·exact hv k e
 omega
section
variable {P:Program} {w:World}
theorem znc (t ty:TypeId) (i:TypeInfo) (ht:P.underlying t=some (.slice 5)) (hi:P.info? 5=some i) (hz:i.zero=some (.int .u8 0)) (hsize:i.size=1) (hby:i.bytes=1)
 (v:Value) (l:zaa) (hown:Out w v l) (g:Nat) (b:Int) (hb0:0≤b) (hb1:b<256) (hc:w.cell? ⟨g,0,none⟩=some (.int .u8 b)) (hl:l.length≤1000000000000):
 ∃v' w',(Builtin.append_ #[t,t] ty #[v,.slice (some ⟨g,0,none⟩) 1 1]).run P w=.ok v' w'∧Out w' v' (l++ [UInt8.ofNat b.toNat])∧OutTo w v w' v':=by
 obtain ⟨v',w',hr,h2,h3,_,h5⟩:=run_append_own_at (P:=P) w 0 t ty 5 i (.int .u8 0) 1 1 ht hi hz hsize hby rfl (by omega) v l.length (u8s l) hown ⟨g,0,none⟩ 1 1 [.int .u8 b] rfl
  (fun j u hj=>by
    match j,hj with
    | 0,hj=>simp at hj;subst hj;exact hc)
  (fun u hu=>by simp at hu;subst hu;rfl) (by unfold maxLen;omega) (by omega) (by omega)
 refine ⟨v',w',hr,?_,⟨⟨h3.os,h3.tape,h3.output,h3.size,fun k hk hs=>h3.block k hk (fun e=>hs e.symm)⟩,fun k hk=>?_⟩⟩
 ·have e:u8s (l++ [UInt8.ofNat b.toNat])=u8s l++ [.int .u8 b]:=by
   rw [zl3]
   have e2:((UInt8.ofNat b.toNat).toNat:Int)=b:=by
    rw [UInt8.toNat_ofNat']
    omega
   show u8s l++ [Value.int .u8 ((UInt8.ofNat b.toNat).toNat:Int)]=_
   rw [e2]
  show w'.ownsRow 0 5 1 v' (l++ [UInt8.ofNat b.toNat]).length _
  rw [e,List.length_append]
  exact h2
 rcases h5 with h5 | h5
 ·exact .inl (h5▸hk)
 rw [h5] at hk
 exact .inr (by simp at hk;omega)
theorem zbn {ops:Array Oper} {rest:List Oper} {o:Oper} {a:Act} {Q:Exit→Act→World→Prop} (hgd:o.guard=none) (s x:Operand) (t:TypeId)
 (ho:o.op=.call { callee:=.builtin .append,args:=#[s,x],argTypes:=#[t,t] })
 (i:TypeInfo) (ht:P.underlying t=some (.slice 5)) (hi:P.info? 5=some i) (hz:i.zero=some (.int .u8 0)) (hsize:i.size=1) (hby:i.bytes=1)
 (v:Value) (l:zaa) (hs:a.eval s=v) (hown:Out w v l) (g:Nat) (b:Int) (hx:a.eval x=.slice (some ⟨g,0,none⟩) 1 1) (hb0:0≤b) (hb1:b<256) (hc:w.cell? ⟨g,0,none⟩=some (.int .u8 b)) (hl:l.length≤1000000000000)
 (h:∀v' w',Out w' v' (l++ [UInt8.ofNat b.toNat])→OutTo w v w' v'→wpList P ops Q rest (a.put o.dst v') w'):wpList P ops Q (o::rest) a w:=by
 obtain ⟨v',w',hrun,h2,h3⟩:=znc (P:=P) t o.type i ht hi hz hsize hby v l hown g b hb0 hb1 hc hl
 refine wpList_plain hgd fun K hK=>?_
 unfold Oper.wp execOp
 simp only [ho,resolve,invoke,builtin,Sem.run_bind,Sem.run_pure,Result.andThen_ok,List.map_toArray,List.map_cons,List.map_nil,hs,hx,hrun]
 exact hK _ _ (h v' w' h2 h3)
theorem zkr (s:zaa):Lib.strCells ⟨s.toArray⟩=u8s s:=by simp [Lib.strCells,u8s]
theorem zad (s:zaa):(⟨s.toArray⟩:ByteArray).size=s.length:=by show s.toArray.size=_;simp
theorem zkt (t u ty:TypeId) (i:TypeInfo) (ht:P.underlying t=some (.slice 5)) (hu:P.underlying u=some .string) (hi:P.info? 5=some i) (hz:i.zero=some (.int .u8 0)) (hsize:i.size=1) (hby:i.bytes=1)
 (v:Value) (l s:zaa) (hown:Out w v l) (hl:l.length≤1000000000000) (hl2:s.length≤1000000000000):
 ∃v' w',(Builtin.append_ #[t,u] ty #[v,str s]).run P w=.ok v' w'∧Out w' v' (l++s)∧OutTo w v w' v':=by
 have hss:=zad s
 obtain ⟨v',w',hr,h2,h3,_⟩:=Lib.run_append_own_string (P:=P) w 0 t u ty 5 i ht hu hi hz hsize hby v l.length (u8s l) hown ⟨s.toArray⟩ (by rw [hss];unfold maxLen;omega) (by rw [hss];omega) (by omega)
 refine ⟨v',w',hr,?_,⟨⟨h3.os,h3.tape,h3.output,h3.size,fun k hk hs=>h3.block k hk (fun e=>hs e.symm)⟩,fun k hk=>?_⟩⟩
 ·rw [zkr,hss] at h2
  show w'.ownsRow 0 5 1 v' (l++s).length _
  rw [zl3,List.length_append]
  exact h2
 have hown':=hown
 rcases hown'.2 with ⟨rfl,he⟩ | ⟨g,cap,cur,rfl,_,hg,hnc,hcm,hcs,htake⟩
 ·have hown0:w.ownsRow w.heap.size 5 1 (.slice none 0 0) l.length (u8s l):=⟨hown.1,.inl ⟨rfl,he⟩⟩
  obtain ⟨v2,w2,hr2,k2,k3,_⟩:=Lib.run_append_own_string (P:=P) w w.heap.size t u ty 5 i ht hu hi hz hsize hby (.slice none 0 0) l.length (u8s l) hown0 ⟨s.toArray⟩ (by rw [hss];unfold maxLen;omega) (by rw [hss];omega) (by omega)
  rw [hr] at hr2
  obtain ⟨rfl,rfl⟩:v'=v2∧w'=w2:=by injection hr2 with e1 e2;exact ⟨e1,e2⟩
  exact .inr (k2.lt k hk).1
 by_cases hroom:l.length+s.length≤cap
 ·have hr2:=Lib.run_append_room_string (P:=P) w t u ty 5 i ht hu hi hsize g l.length cap cur hg ⟨s.toArray⟩ (by rw [hss];exact hroom) (by rw [hss];simpa [hcs] using hroom)
  rw [hr] at hr2
  obtain ⟨rfl,rfl⟩:v'=_∧w'=_:=by injection hr2 with e1 e2;exact ⟨e1,e2⟩
  exact .inl hk
 have hcl:∀j u,(u8s l)[j]?=some u→w.cell? ((⟨g,0,none⟩:Addr).add j)=some u:=World.ownsRow.cells hown (g:=g) rfl
 have hr2:=Lib.run_append_grow_string (P:=P) w t u ty 5 i (.int .u8 0) ht hu hi hz ⟨g,0,none⟩ l.length cap (u8s l) (by rw [hsize,zqj];simp) hcl ⟨s.toArray⟩ (by rw [hss];omega) (by rw [hss];omega) (by rw [hby,hss];exact growslice_fits (by omega) (by omega))
 rw [hr] at hr2
 obtain ⟨rfl,rfl⟩:v'=_∧w'=_:=by injection hr2 with e1 e2;exact ⟨e1,e2⟩
 exact .inr (by simp [Value.ownBlock] at hk;omega)
theorem zen {ops:Array Oper} {rest:List Oper} {o:Oper} {a:Act} {Q:Exit→Act→World→Prop} (hgd:o.guard=none) (sl x:Operand) (t u:TypeId)
 (ho:o.op=.call { callee:=.builtin .append,args:=#[sl,x],argTypes:=#[t,u] })
 (i:TypeInfo) (ht:P.underlying t=some (.slice 5)) (hu:P.underlying u=some .string) (hi:P.info? 5=some i) (hz:i.zero=some (.int .u8 0)) (hsize:i.size=1) (hby:i.bytes=1)
 (v:Value) (l s:zaa) (hs:a.eval sl=v) (hown:Out w v l) (hx:a.eval x=str s) (hl:l.length≤1000000000000) (hl2:s.length≤1000000000000)
 (h:∀v' w',Out w' v' (l++s)→OutTo w v w' v'→wpList P ops Q rest (a.put o.dst v') w'):wpList P ops Q (o::rest) a w:=by
 obtain ⟨v',w',hrun,h2,h3⟩:=zkt (P:=P) t u o.type i ht hu hi hz hsize hby v l s hown hl hl2
 refine wpList_plain hgd fun K hK=>?_
 unfold Oper.wp execOp
 simp only [ho,resolve,invoke,builtin,Sem.run_bind,Sem.run_pure,Result.andThen_ok,List.map_toArray,List.map_cons,List.map_nil,hs,hx,hrun]
 exact hK _ _ (h v' w' h2 h3)
end
def Own {α:Type} (c:α→List Value) (e:TypeId) (k:Nat) (w:World) (v:Value) (l:List α):Prop:=w.ownsRow 0 e k v l.length (l.flatMap c)
section
variable {α:Type} {c:α→List Value} {e:TypeId} {k:Nat} {w w':World} {v:Value} {l:List α}
theorem Own.nil (c:α→List Value) (e:TypeId) (k:Nat) (w:World):Own c e k w (.slice none 0 0) []:=World.ownsRow_nil w 0 _ _
theorem Own.lt (h:Own c e k w v l) (q:Nat) (hq:v.ownBlock=some q):q<w.heap.size:=(World.ownsRow.lt h q hq).2
theorem Own.alloc (h:Own c e k w v l) (o:Obj):Own c e k (w.alloc o) v l:=World.ownsRow.alloc h o
theorem Own.drew (h:Own c e k w v l):Own c e k w.drew v l:=h
theorem Own.drewN (h:Own c e k w v l) (n:Nat):Own c e k (w.drewN n) v l:=h
theorem Own.chg {S:Nat→Prop} (h:Own c e k w v l) (hb:Chg S w w') (hv:∀q,v.ownBlock=some q→¬S q):Own c e k w' v l:=by
 rcases hq:v.ownBlock with _ | q
 ·rcases h.2 with ⟨rfl,he⟩ | ⟨g,cap,cur,rfl,_⟩
  ·exact ⟨h.1,.inl ⟨rfl,he⟩⟩
  simp [Value.ownBlock] at hq
 obtain ⟨h1,h2⟩:=h
 refine ⟨h1,?_⟩
 rcases h2 with ⟨rfl,he⟩ | ⟨g,cap,cur,rfl,hb0,hg,hr⟩
 ·exact .inl ⟨rfl,he⟩
 have e1:g=q:=by simpa [Value.ownBlock] using hq
 have hlt:g<w.heap.size:=(World.ownsRow.lt (v:=.slice (some ⟨g,0,none⟩) l.length cap) ⟨h1,.inr ⟨g,cap,cur,rfl,hb0,hg,hr⟩⟩ g rfl).2
 exact .inr ⟨g,cap,cur,rfl,hb0,(hb.block g hlt (hv g (by simp [Value.ownBlock]))).trans hg,hr⟩
theorem Own.below (h:Own c e k w v l) (hb:Below w.heap.size w w'):Own c e k w' v l:=h.chg (S:=fun _=>False) ⟨hb.os,hb.tape,hb.output,hb.size,fun q hq _=>hb.block q hq⟩ (fun _ _ h=>h)
theorem Own.outTo {u u':Value} (h:Own c e k w v l) (hb:OutTo w u w' u') (hv:∀q,v.ownBlock=some q→u.ownBlock≠some q):Own c e k w' v l:=h.chg hb.chg hv
theorem Own.sls (h:Own c e k w v l) (hm:l.length≤maxLen):Sls c w w.heap.size v l:=Sls.of_own h hm
end
section
variable {P:Program} {α:Type}
theorem zdh (w:World) (c:α→List Value) (t ty e:TypeId) (i:TypeInfo) (z:Value) (size bytes:Nat) (ht:P.underlying t=some (.slice e)) (hi:P.info? e=some i) (hz:i.zero=some z)
 (hsize:i.size=size) (hby:i.bytes=bytes) (hzs:z.cells.size=size) (hsz:0<size) (v:Value) (l:List α) (hown:Own c e size w v l) (B:Nat) (v2:Value) (l2:List α) (hl:Sls c w B v2 l2)
 (hk:∀x,(c x).length=size) (h1:∀x,∀u∈c x,u.oneCell'=true) (hn:l.length+l2.length≤1000000) (hb:bytes≤1000000):
 ∃v' w',(Builtin.append_ #[t,t] ty #[v,v2]).run P w=.ok v' w'∧Own c e size w' v' (l++l2)∧OutTo w v w' v':=by
 obtain ⟨A,cap,rfl,hc,hm,hr⟩:=hl
 rcases A with _ | ad
 ·have h0:l2.length=0:=by
   rcases Nat.eq_zero_or_pos l2.length with h0 | h0
   ·exact h0
   obtain ⟨b,o,h,_⟩:=hr h0
   cases h
  have hn:l2=[]:=List.eq_nil_of_length_eq_zero h0
  subst hn
  rw [List.append_nil]
  refine ⟨v,w,?_,hown,OutTo.refl _ _⟩
  rcases hown.2 with ⟨rfl,he⟩ | ⟨g,cp,cur,rfl,hb0,hg,hnc,hcm,hcs,htake⟩
  ·simp [Builtin.append_,run_underlying ht,sizeOf,typeInfo,hi,Builtin.lenOf,Builtin.firstCells]
  simp [Builtin.append_,run_underlying ht,sizeOf,typeInfo,hi,Builtin.lenOf,Builtin.firstCells,hnc,storeCells]
 have hcells:∀j u,(l2.flatMap c)[j]?=some u→w.cell? (ad.add j)=some u:=by
  intro j u hu
  rcases Nat.eq_zero_or_pos l2.length with h0 | h0
  ·have hn:l2=[]:=List.eq_nil_of_length_eq_zero h0
   subst hn
   simp at hu
  obtain ⟨b,o,h,_,hg⟩:=hr h0
  injection h with h
  subst h
  rw [Addr.add_mid]
  exact hg j u hu
 have hmul:(l.length+l2.length)*bytes≤1000000*1000000:=Nat.mul_le_mul hn hb
 obtain ⟨v',w',hrun,h2,h3,h4,h5⟩:=run_append_own_at (P:=P) w 0 t ty e i z size bytes ht hi hz hsize hby hzs hsz v l.length (l.flatMap c) hown ad l2.length cap (l2.flatMap c) (zd4 c size hk l2) hcells
  (by intro u hu;obtain ⟨x,_,hx⟩:=List.mem_flatMap.1 hu;exact h1 x u hx) (by unfold maxLen;omega) (by omega) (Nat.zero_le _)
 refine ⟨v',w',hrun,?_,⟨⟨h3.os,h3.tape,h3.output,h3.size,fun k hk hs=>h3.block k hk (fun e=>hs e.symm)⟩,fun k hk=>?_⟩⟩
 ·show w'.ownsRow 0 e size v' (l++l2).length ((l++l2).flatMap c)
  rw [List.length_append,List.flatMap_append]
  exact h2
 rcases h5 with h5 | h5
 ·exact .inl (h5▸hk)
 rw [h5] at hk
 exact .inr (by simp at hk;omega)
theorem zbo {w:World} (c:α→List Value) {ops:Array Oper} {rest:List Oper} {o:Oper} {a:Act} {Q:Exit→Act→World→Prop} (hgd:o.guard=none) (s x:Operand) (t:TypeId)
 (ho:o.op=.call { callee:=.builtin .append,args:=#[s,x],argTypes:=#[t,t] })
 (e:TypeId) (i:TypeInfo) (z:Value) (size bytes:Nat) (ht:P.underlying t=some (.slice e)) (hi:P.info? e=some i) (hz:i.zero=some z)
 (hsize:i.size=size) (hby:i.bytes=bytes) (hzs:z.cells.size=size) (hsz:0<size) (v:Value) (l:List α) (hs:a.eval s=v) (hown:Own c e size w v l) (B:Nat) (v2:Value) (l2:List α) (hx:a.eval x=v2) (hl:Sls c w B v2 l2)
 (hk:∀x,(c x).length=size) (h1:∀x,∀u∈c x,u.oneCell'=true) (hn:l.length+l2.length≤1000000) (hb:bytes≤1000000)
 (h:∀v' w',Own c e size w' v' (l++l2)→OutTo w v w' v'→wpList P ops Q rest (a.put o.dst v') w'):wpList P ops Q (o::rest) a w:=by
 obtain ⟨v',w',hrun,h2,h3⟩:=zdh (P:=P) w c t o.type e i z size bytes ht hi hz hsize hby hzs hsz v l hown B v2 l2 hl hk h1 hn hb
 refine wpList_plain hgd fun K hK=>?_
 unfold Oper.wp execOp
 simp only [ho,resolve,invoke,builtin,Sem.run_bind,Sem.run_pure,Result.andThen_ok,List.map_toArray,List.map_cons,List.map_nil,hs,hx,hrun]
 exact hK _ _ (h v' w' h2 h3)
end
section
variable {P:Program} {ops:Array Oper} {o:Oper} {a:Act} {w:World} {K:Act→World→Prop} {Q:Exit→Act→World→Prop} {E:Prop}
variable {rest:List Oper}
theorem zgl (hgd:o.guard=none) (s x:Operand) (t t2:TypeId) (ho:o.op=.call { callee:=.builtin .append,args:=#[s,x],argTypes:=#[t,t2] })
 (sv xv v:Value) (w':World) (hs:a.eval s=sv) (hx:a.eval x=xv) (hrun:(Builtin.append_ #[t,t2] o.type #[sv,xv]).run P w=.ok v w') (h:wpList P ops Q rest (a.put o.dst v) w'):wpList P ops Q (o::rest) a w:=by
 refine wpList_plain hgd fun K hK=>?_
 unfold Oper.wp execOp
 simp only [ho,resolve,invoke,builtin,Sem.run_bind,Sem.run_pure,Result.andThen_ok,List.map_toArray,List.map_cons,List.map_nil,hs,hx,hrun]
 exact hK _ _ h
end
section
variable {α:Type} {c:α→List Value} {k:Nat} (hk:∀x,(c x).length=k)
include hk
theorem zln:∀(l:List α) (j:Nat),(l.flatMap c).take (j*k)=(l.take j).flatMap c
 | [],j=>by simp
 | x::l,0=>by simp
 | x::l,j+1=>by
  rw [List.flatMap_cons,List.take_succ_cons,List.flatMap_cons,← zln l j,List.take_append,hk,List.take_of_length_le (by rw [hk,Nat.add_mul];omega)]
  congr 2
  rw [Nat.add_mul]
  omega
theorem zlp:∀(l:List α) (j:Nat),(l.flatMap c).drop (j*k)=(l.drop j).flatMap c
 | [],j=>by simp
 | x::l,0=>by simp
 | x::l,j+1=>by
  rw [List.flatMap_cons,List.drop_succ_cons,← zlp l j,List.drop_append,hk,List.drop_of_length_le (by rw [hk,Nat.add_mul];omega)]
  rw [List.nil_append]
  congr 1
  rw [Nat.add_mul]
  omega
end
section
variable {α:Type} {c:α→List Value} {k:Nat} (hk:∀x,(c x).length=k)
include hk
end
theorem Own.row {α:Type} {c:α→List Value} {e:TypeId} {k:Nat} (_hk:∀x,(c x).length=k) {w:World} {v:Value} {l:List α} (h:Own c e k w v l) (hl:0<l.length):
 ∃g cap cur,v=.slice (some ⟨g,0,none⟩) l.length cap∧w.heap[g]?=some (.cells cur e (0,0))∧l.length≤cap∧cap≤maxLen∧cur.size=cap*k∧cur.toList.take (l.length*k)=l.flatMap c:=by
 obtain ⟨h1,h2⟩:=h
 rcases h2 with ⟨he,e2⟩ | ⟨g,cap,cur,rfl,hb0,hg,hnc,hcm,hcs,htake⟩
 ·omega
 exact ⟨g,cap,cur,rfl,hg,hnc,hcm,hcs,htake⟩
theorem NoPanic.put {Q:Exit→Act→World→Prop} {c:_} {a:Act} {d:Option Tmp} {v:Value} {w:World} (h:NoPanic Q (.panic c) (a.put d v) w):NoPanic Q (.panic c) a w:=(h:False).elim
theorem zai {P:Program} {md:Region.Mode} {ops:Array Oper} {Q:Exit→Act→World→Prop} {S:World→Prop} {s:Nat} (i:Nat) {o:Oper} {fuel:Nat} {listed:Array Bool} {a:Act} {w:World} (hr:Region.ready md ops listed=[i]) (ho:ops[i]?=some o) (hg:o.guard=none)
 (h:∀K':Act→World→Prop,Shut (∀a' w',((listed.setIfInBounds i true).getD s true=false→S w')→zav P md ops Q S s fuel (listed.setIfInBounds i true) a' w'→K' a' w')→o.wp P a w K' Q):zav P md ops Q S s (fuel+1) listed a w:=
 za4 i hr ho hg (h _ (fun _ _ h1 h2=>⟨h1,h2⟩))
section
variable {P:Program} {o:Oper} {a:Act} {w:World} {K:Act→World→Prop} {Q:Exit→Act→World→Prop}
theorem zbk (s x:Operand) (t t2:TypeId) (ho:o.op=.call { callee:=.builtin .append,args:=#[s,x],argTypes:=#[t,t2] })
 (sv xv v:Value) (w':World) (hs:a.eval s=sv) (hx:a.eval x=xv) (hrun:(Builtin.append_ #[t,t2] o.type #[sv,xv]).run P w=.ok v w') (h:K (a.put o.dst v) w'):Oper.wp P o a w K Q:=by
 unfold Oper.wp
 simp [execOp,ho,resolve,invoke,builtin,hs,hx,hrun,Result.andThen]
 exact h
end
structure L4 (B:Nat) (W:World) (e r g o:Value) (le:List Ent) (lr:List Rul) (lg:List Grt) (lo:List Opr):Prop where
 oe:Own cEnt 58 3 W e le
 oru:Own cRul 79 7 W r lr
 og:Own cGrt 85 8 W g lg
 oo:Own cOpr 48 13 W o lo
 be:∀q,e.ownBlock=some q→B≤q
 br:∀q,r.ownBlock=some q→B≤q
 bg:∀q,g.ownBlock=some q→B≤q
 bo:∀q,o.ownBlock=some q→B≤q
 er:∀q,e.ownBlock=some q→r.ownBlock≠some q
 eg:∀q,e.ownBlock=some q→g.ownBlock≠some q
 eo:∀q,e.ownBlock=some q→o.ownBlock≠some q
 rg:∀q,r.ownBlock=some q→g.ownBlock≠some q
 ro:∀q,r.ownBlock=some q→o.ownBlock≠some q
 go':∀q,g.ownBlock=some q→o.ownBlock≠some q
section
variable {B:Nat} {W W':World} {e r g o:Value} {le:List Ent} {lr:List Rul} {lg:List Grt} {lo:List Opr}
theorem L4.chg {S:Nat→Prop} (h:L4 B W e r g o le lr lg lo) (hb:Chg S W W') (hS:∀k,S k→e.ownBlock≠some k∧r.ownBlock≠some k∧g.ownBlock≠some k∧o.ownBlock≠some k):L4 B W' e r g o le lr lg lo:=
 { h with
  oe:=h.oe.chg hb fun q hq hs=>(hS q hs).1 hq
  oru:=h.oru.chg hb fun q hq hs=>(hS q hs).2.1 hq
  og:=h.og.chg hb fun q hq hs=>(hS q hs).2.2.1 hq
  oo:=h.oo.chg hb fun q hq hs=>(hS q hs).2.2.2 hq }
theorem L4.below (h:L4 B W e r g o le lr lg lo) (hb:Below W.heap.size W W'):L4 B W' e r g o le lr lg lo:=h.chg (S:=fun _=>False) ⟨hb.os,hb.tape,hb.output,hb.size,fun q hq _=>hb.block q hq⟩ (fun _ h=>h.elim)
theorem L4.set (h:L4 B W e r g o le lr lg lo) {p:Addr} (hp:e.ownBlock≠some p.block∧r.ownBlock≠some p.block∧g.ownBlock≠some p.block∧o.ownBlock≠some p.block) (u:Value):L4 B (W.setCell p u) e r g o le lr lg lo:=
 h.chg (S:=fun k=>k=p.block) ((Chg.refl (fun k=>k=p.block) W).setCell (p:=p) (.inl rfl) u) (fun k hk=>by subst hk;exact hp)
end
section
variable {P:Program} {md:Region.Mode} {ops:Array Oper} {Q:Exit→Act→World→Prop} {S:World→Prop} {s:Nat}
theorem tH (i:Nat) (oi:Oper) (v:Value) {fuel:Nat} {listed:Array Bool} {a:Act} {w:World} (hi:ops[i]?=some oi) (hS:S w)
 (h:wpAnyH P md ops Q S fuel (listed.setIfInBounds i true) (a.put oi.dst v) w)
 (hs:Region.noSelect ops=true:=by kernel_rfl) (hf:Region.free md ops listed i=true:=by kernel_rfl) (hr:(Region.ready md ops listed).contains i=true:=by kernel_rfl)
 (hQ:∀c a w,Q (.panic c) (a.put oi.dst v) w→Q (.panic c) a w:=by first | exact fun _ _ _ h=>NoPanic.put h | exact fun _ _ _ h=>h)
 (hy:YieldsIf P ops S oi v a:=by exact Or.inl ⟨by rfl,by intro W hW;go_simp⟩):wpAnyH P md ops Q S (fuel+1) listed a w:=
 wpAnyH_take hi hs hf hr hQ hy hS h
theorem tU (i:Nat) (oi:Oper) (v:Value) {fuel:Nat} {listed:Array Bool} {a:Act} {w:World} (hi:ops[i]?=some oi) (hS:listed.getD s true=false→S w)
 (h:zav P md ops Q S s fuel (listed.setIfInBounds i true) (a.put oi.dst v) w)
 (hs:Region.noSelect ops=true:=by kernel_rfl) (hf:Region.free md ops listed i=true:=by kernel_rfl) (hr:(Region.ready md ops listed).contains i=true:=by kernel_rfl) (hsi:i≠s:=by decide)
 (hQ:∀c a w,Q (.panic c) (a.put oi.dst v) w→Q (.panic c) a w:=by exact fun _ _ _ h=>NoPanic.put h)
 (hy:YieldsIf P ops (fun _=>True) oi v a:=by exact Or.inl ⟨by rfl,by intro W hW;go_simp⟩):zav P md ops Q S s (fuel+1) listed a w:=
 zar i hi hs hf hr hsi hQ hy hS h
theorem tV (i:Nat) (oi:Oper) (v:Value) {fuel:Nat} {listed:Array Bool} {a:Act} {w:World} (hi:ops[i]?=some oi) (hS:S w) (hy:YieldsIf P ops S oi v a)
 (h:zav P md ops Q S s fuel (listed.setIfInBounds i true) (a.put oi.dst v) w)
 (hs:Region.noSelect ops=true:=by kernel_rfl) (hf:Region.free md ops listed i=true:=by kernel_rfl) (hr:(Region.ready md ops listed).contains i=true:=by kernel_rfl)
 (hw:zgr md ops s i=true:=by kernel_rfl) (hsi:i≠s:=by decide) (hl:listed.getD s true=false:=by kernel_rfl)
 (hQ:∀c a w,Q (.panic c) (a.put oi.dst v) w→Q (.panic c) a w:=by exact fun _ _ _ h=>NoPanic.put h):zav P md ops Q S s (fuel+1) listed a w:=
 zb2 i hi hs hf hr hw hsi hl hQ hy hS h
theorem tC (i:Nat) (o:Oper) {fuel:Nat} {listed:Array Bool} {a:Act} {w:World} (ho:ops[i]?=some o)
 (h:∀K':Act→World→Prop,Shut (∀a w,S w→(S w→wpAnyH P md ops Q S fuel (listed.setIfInBounds i true) a w)→K' a w)→if Region.wanted o (yielded ops a.tmps)=true then Oper.wp P o a w K' Q else K' (a.put o.dst undef) w)
 (hr:Region.ready md ops listed=[i]:=by kernel_rfl):wpAnyH P md ops Q S (fuel+1) listed a w:=
 wpAnyH_ready hr (by simp) (AllReadyH.cons ho h AllReadyH.nil)
end
theorem Hd {p:Prop} (h:p):Hid p:=Lib.hid h
theorem oldB {w w':World} {g:Nat} (hb:Below w.heap.size w w') (h:g<w.heap.size:=by first | (simp;done) | (simp;omega) | omega):(∀o,w'.cell? ⟨g,o,none⟩=w.cell? ⟨g,o,none⟩)∧g<w'.heap.size∧g≤w'.heap.size∧g≤w'.heap.size+1∧g≤w'.heap.size+1+1∧∀o,w'.frozen? ⟨g,o,none⟩=w.frozen? ⟨g,o,none⟩:=
 have:=hb.size
 ⟨fun o=>hb.cell (p:=⟨g,o,none⟩) h,by omega,by omega,by omega,by omega,fun o=>hb.frozen (p:=⟨g,o,none⟩) h⟩
theorem oldC {S:Nat→Prop} {w w':World} {g:Nat} (hd:Chg S w w') (h:g<w.heap.size) (hs:¬S g):(∀o,w'.cell? ⟨g,o,none⟩=w.cell? ⟨g,o,none⟩)∧g<w'.heap.size∧g≤w'.heap.size∧g≤w'.heap.size+1∧g≤w'.heap.size+1+1∧∀o,w'.frozen? ⟨g,o,none⟩=w.frozen? ⟨g,o,none⟩:=
 have:=hd.size
 ⟨fun o=>hd.cell (p:=⟨g,o,none⟩) h hs,by omega,by omega,by omega,by omega,fun o=>hd.frozen (p:=⟨g,o,none⟩) h hs⟩
theorem nxt {a b c:World} (k:Below b.heap.size b c) (h:Below a.heap.size a b:=by go_grown) (hB:a.heap.size≤b.heap.size:=by first | (simp;done) | (simp;omega) | omega):Below a.heap.size a c:=h.trans (k.mono hB)
theorem bE {P:Program} {fn:Func} {R:Ending→World→Prop} {a:Act} {w:World} (hR:R (.returned (.tuple #[])) w) (hr:fn.results=#[]:=by rfl) (hd:a.defers=[]:=by rfl):bodyPost P fn R .normal a w:=bodyPost_end (results_none hr _ _ _) hd hR
theorem bR {P:Program} {fn:Func} {R:Ending→World→Prop} {a:Act} {w:World} (hR:R (.returned (.tuple #[])) w) (hr:fn.results=#[]:=by rfl) (hd:a.defers=[]:=by rfl):bodyPost P fn R .ret a w:=bodyPost_ret (results_none hr _ _ _) hd hR
end Go.Proofs.YtamcgggmfghljaaGreatDoor
