/- walk -/
import Derived.OrdersHeld
import Derived.Lib.AppendZerosOnto
import Derived.Laws.CopyOwn
import Derived.Maps.RangeWalk
import Derived.Deep.RegionHeld
import Derived.Test.YtamcgggmfghljaaGreatDoorE1
set_option maxRecDepth 100000
set_option maxHeartbeats 8000000
open Go.Proofs.Tryz
namespace Go.Proofs.YtamcgggmfghljaaGreatDoor
open Go.RowKit
variable {a:Act} {p:Addr} {fn:Func} {base base' fuel g i id k s:Nat} {o oi:Oper} {P:Program} {α:Type} {e:TypeId} {u u' v:Value} {b c w w':World}
section
variable {P:Program} {ops:Array Oper} {Q:Exit->Act->World->Prop} {md:Region.Mode} {S:World->Prop} {s:Nat}
def zck (P:Program) (md:Region.Mode) (ops:Array Oper) (Q:Exit->Act->World->Prop) (S:World->Prop) (s:Nat):Nat->Array Bool->Act->World->Prop
 | 0,listed,a,w=>Region.ready md ops listed=[]/\Q .normal a w
 | fuel+1,listed,a,w=>
  (Region.ready md ops listed=[]->Q .normal a w)/\
  ∀i∈Region.ready md ops listed,wpOp P ops Q i (λa' w'=>((listed.setIfInBounds i true).getD s true=false->S w')/\zck P md ops Q S s fuel (listed.setIfInBounds i true) a' w') a w
theorem zkj:∀(fuel:Nat) (listed:Array Bool) (a:Act) (w:World),zck P md ops Q S s fuel listed a w->wpAny P md ops Q fuel listed a w
 | 0,_,_,_,h=>h
 | fuel+1,_,_,_,h=>⟨h.1,λi hi=>wpOp_mono (λa' w' h'=>zkj fuel _ a' w' h'.2) (h.2 i hi)⟩
def zim (md:Region.Mode) (ops:Array Oper) (s i:Nat):Bool:=match ops[s]? with
 | some o=>o.after.any λe=>Region.binds md e&&e.on==i
 | none=>false
theorem zm0 (hi:ops[i]?=some oi) (hsel:∀(j:Nat) (o:Oper) cs b,ops[j]?=some o->o.op≠.select cs b)
 (hQ:∀c a w,Q (.panic c) (a.put oi.dst v) w->Q (.panic c) a w) (hw:zim md ops s i=true) (hsi:i≠s):
 ∀(fuel:Nat) (listed:Array Bool) (a:Act) (w:World),
  (∀j oj,ops[j]?=some oj->j≠i->listed.getD j true=false->(∀e∈oj.after,Region.binds md e=true->e.on≠i)->oi.apart ops oj=true)->
  i∈Region.ready md ops listed->YieldsIf P ops S oi v a->S w->listed.getD s true=false->
  zck P md ops Q S s fuel (listed.setIfInBounds i true) (a.put oi.dst v) w->zck P md ops Q S s (fuel+1) listed a w:=by
 intro fuel
 induction fuel with
 | zero=>
  intro listed a w _ hr hy hS hl H;refine ⟨λh=>(by rw[h] at hr;cases hr),λj hj=>?_⟩;by_cases hji:j=i
  ·subst hji;exact hy.wpOp hi hS ⟨λ_=>hS,H⟩
  have:=ready_mono hj hji;rw[H.1] at this;cases this
 | succ fuel ih=>
  intro listed a w hfree hr hy hS hl H;refine ⟨λh=>(by rw[h] at hr;cases hr),λj hj=>?_⟩;by_cases hji:j=i
  ·subst hji;exact hy.wpOp hi hS ⟨λ_=>hS,H⟩
  have h1:=H.2 j (ready_mono hj hji);obtain ⟨hjun,oj,hoj,hall⟩:=mem_ready.1 hj;have hnot:∀e∈oj.after,Region.binds md e=true->e.on≠i:=λe he hb heq=>by
   have h1:=hall e he hb;have h0:=(mem_ready.1 hr).1;rw[heq] at h1;rcases Nat.lt_or_ge i listed.size with h' | h'
   ·simp[h'] at h0 h1;rw[h0] at h1;cases h1
   simp[Array.getElem?_eq_none h'] at h1
  have hjs:j≠s:=by rintro rfl;unfold zim at hw;rw[hoj] at hw;simp only[Array.any_eq_true,ji,beq_iff_eq] at hw;obtain ⟨x,hx,hb,ho⟩:=hw;exact hnot _ (Array.getElem_mem hx) hb ho
  have hl':((listed.setIfInBounds i true).setIfInBounds j true).getD s true=false:=by rw[getD_set_ne true hjs,getD_set_ne true hsi];exact hl
  have h2:=wpOp_putIf hoj (hfree j oj hoj hji hjun hnot) (λcs b=>hsel i oi cs b hi) (λcs b=>hsel j oj cs b hoj) hQ hy h1;have hfree':∀k ok,ops[k]?=some ok->k≠i->(listed.setIfInBounds j true).getD k true=false->
   (∀e∈ok.after,Region.binds md e=true->e.on≠i)->oi.apart ops ok=true:=λk ok hk hki hun hno=>by
   refine hfree k ok hk hki ?_ hno;by_cases hjk:j=k
   ·subst hjk;exact hjun
   rw[getD_set_ne true hjk] at hun;exact hun
  refine wpOp_mono (λa' w' h3=>⟨λ_=>h3.2.1 hl',ih (listed.setIfInBounds j true) a' w' hfree' (ready_mono hr (Ne.symm hji)) h3.1 (h3.2.1 hl') (by rw[getD_set_ne true hjs];exact hl) ?_⟩) h2;rw[Array.setIfInBounds_comm _ _ hji];exact h3.2.2
theorem zlj (hi:ops[i]?=some oi) (hsel:∀(j:Nat) (o:Oper) cs b,ops[j]?=some o->o.op≠.select cs b)
 (hQ:∀c a w,Q (.panic c) (a.put oi.dst v) w->Q (.panic c) a w) (hsi:i≠s):
 ∀(fuel:Nat) (listed:Array Bool) (a:Act) (w:World),
  (∀j oj,ops[j]?=some oj->j≠i->listed.getD j true=false->(∀e∈oj.after,Region.binds md e=true->e.on≠i)->oi.apart ops oj=true)->
  i∈Region.ready md ops listed->YieldsIf P ops (λ_=>True) oi v a->(listed.getD s true=false->S w)->
  zck P md ops Q S s fuel (listed.setIfInBounds i true) (a.put oi.dst v) w->zck P md ops Q S s (fuel+1) listed a w:=by
 intro fuel
 induction fuel with
 | zero=>
  intro listed a w _ hr hy hS H;refine ⟨λh=>(by rw[h] at hr;cases hr),λj hj=>?_⟩;by_cases hji:j=i
  ·subst hji;exact hy.wpOp hi trivial ⟨λh=>hS (by rwa [getD_set_ne true hsi] at h),H⟩
  have:=ready_mono hj hji;rw[H.1] at this;cases this
 | succ fuel ih=>
  intro listed a w hfree hr hy hS H;refine ⟨λh=>(by rw[h] at hr;cases hr),λj hj=>?_⟩;by_cases hji:j=i
  ·subst hji;exact hy.wpOp hi trivial ⟨λh=>hS (by rwa [getD_set_ne true hsi] at h),H⟩
  have h1:=H.2 j (ready_mono hj hji);obtain ⟨hjun,oj,hoj,hall⟩:=mem_ready.1 hj;have hnot:∀e∈oj.after,Region.binds md e=true->e.on≠i:=λe he hb heq=>by
   have h1:=hall e he hb;have h0:=(mem_ready.1 hr).1;rw[heq] at h1;rcases Nat.lt_or_ge i listed.size with h' | h'
   ·simp[h'] at h0 h1;rw[h0] at h1;cases h1
   simp[Array.getElem?_eq_none h'] at h1
  have h2:=wpOp_putIf hoj (hfree j oj hoj hji hjun hnot) (λcs b=>hsel i oi cs b hi) (λcs b=>hsel j oj cs b hoj) hQ hy h1;have hfree':∀k ok,ops[k]?=some ok->k≠i->(listed.setIfInBounds j true).getD k true=false->
   (∀e∈ok.after,Region.binds md e=true->e.on≠i)->oi.apart ops ok=true:=λk ok hk hki hun hno=>by
   refine hfree k ok hk hki ?_ hno;by_cases hjk:j=k
   ·subst hjk;exact hjun
   rw[getD_set_ne true hjk] at hun;exact hun
  have hS':∀w',(((listed.setIfInBounds i true).setIfInBounds j true).getD s true=false->S w')->(listed.setIfInBounds j true).getD s true=false->S w':=λw' h hl=>by
   refine h ?_;rw[Array.setIfInBounds_comm _ _ (Ne.symm hji),getD_set_ne true hsi];exact hl
  refine wpOp_mono (λa' w' h3=>⟨hS' w' h3.2.1,ih (listed.setIfInBounds j true) a' w' hfree' (ready_mono hr (Ne.symm hji)) h3.1 (hS' w' h3.2.1) ?_⟩) h2;rw[Array.setIfInBounds_comm _ _ hji];exact h3.2.2
theorem zmz (i:Nat) {listed:Array Bool} (hi:ops[i]?=some oi)
 (hs:Region.noSelect ops=true) (hf:Region.free md ops listed i=true) (hr:(Region.ready md ops listed).contains i=true) (hsi:i≠s)
 (hQ:∀c a w,Q (.panic c) (a.put oi.dst v) w->Q (.panic c) a w) (hy:YieldsIf P ops (λ_=>True) oi v a) (hS:listed.getD s true=false->S w)
 (h:zck P md ops Q S s fuel (listed.setIfInBounds i true) (a.put oi.dst v) w):zck P md ops Q S s (fuel+1) listed a w:=
 zlj hi (Region.noSelect_spec hs) hQ hsi fuel listed a w (Region.free_spec hi hf) (by simpa using hr) hy hS h
theorem zo1 (i:Nat) {listed:Array Bool} (hi:ops[i]?=some oi)
 (hs:Region.noSelect ops=true) (hf:Region.free md ops listed i=true) (hr:(Region.ready md ops listed).contains i=true)
 (hw:zim md ops s i=true) (hsi:i≠s) (hl:listed.getD s true=false)
 (hQ:∀c a w,Q (.panic c) (a.put oi.dst v) w->Q (.panic c) a w) (hy:YieldsIf P ops S oi v a) (hS:S w)
 (h:zck P md ops Q S s fuel (listed.setIfInBounds i true) (a.put oi.dst v) w):zck P md ops Q S s (fuel+1) listed a w:=
 zm0 hi (Region.noSelect_spec hs) hQ hw hsi fuel listed a w (Region.free_spec hi hf) (by simpa using hr) hy hS hl h
theorem z1i {K:Act->World->Prop} (ho:ops[i]?=some o) (hg:o.guard=none) (h:o.wp P a w K Q):wpOp P ops Q i K a w:=by
 unfold wpOp;simp only[ho,Region.wanted,hg,if_true];exact .inl h
theorem zr6 (i:Nat) {listed:Array Bool} (hr:Region.ready md ops listed=[i]) (ho:ops[i]?=some o) (hg:o.guard=none)
 (h:o.wp P a w (λa' w'=>((listed.setIfInBounds i true).getD s true=false->S w')/\zck P md ops Q S s fuel (listed.setIfInBounds i true) a' w') Q):zck P md ops Q S s (fuel+1) listed a w:=by
 refine ⟨λh0=>(by rw[hr] at h0;cases h0),λj hj=>?_⟩;rw[hr] at hj;have e:j=i:=by simpa using hj
 subst e;exact z1i ho hg h
theorem zax {listed:Array Bool} (hr:Region.ready md ops listed=[]) (h:Q .normal a w):zck P md ops Q S s fuel listed a w:=by
 cases fuel with
 | zero=>exact ⟨hr,h⟩
 | succ n=>exact ⟨λ_=>h,by rw[hr];simp⟩
theorem zaw (S:World->Prop) (s:Nat) (hm:P.follows .mixedOrders=true)
 (h:zck P .any ops Q S s ops.size (Array.replicate ops.size false) a w.drew):(Code.region id ops true).wp P Q a w:=
 wp_region_any hm (zkj _ _ _ _ h)
end
def SlsN {α:Type} (c:α->List Value) (base:Nat) (w:World) (v:Value) (l:List α):Prop:=Sls c w w.heap.size v l/\∀q,v.ownBlock=some q->base<=q
theorem SlsN.below {c:α->List Value} {l:List α} (h:SlsN c base w v l) (hb:Below w w w'):SlsN c base w' v l:=⟨(h.1.below hb).more hb.size,h.2⟩
theorem SlsN.older {c:α->List Value} {l:List α} (h:SlsN c base w v l) (hb:base'<=base):SlsN c base' w v l:=⟨h.1,λq hq=>by have:=h.2 q hq;omega⟩
theorem SlsN.set {c:α->List Value} {l:List α} (h:SlsN c base w v l) (hp:p.block<base) (u:Value):SlsN c base (w.setCell p u) v l:=by
 refine ⟨?_,h.2⟩;obtain ⟨A,cap,rfl,h1,hm,h2⟩:=h.1;refine ⟨A,cap,rfl,h1,hm,λhn=>?_⟩;obtain ⟨b,o,rfl,hlt,hr⟩:=h2 hn;refine ⟨b,o,rfl,by simpa [World.setCell] using hlt,λj t ht=>?_⟩;have hq:=h.2 b rfl;rw[World.cell?_setCell_other w p _ u (λe=>by subst e;simp at hp;omega)];exact hr j t ht
theorem zyl (w:World) (c:α->List Value) (t ty e:TypeId) (i:TypeInfo) (z:Value) (size bytes:Nat) (ht:P.underlying t=some (.slice e)) (hi:P.info? e=some i) (hz:i.zero=some z)
 (hsize:i.size=size) (hby:i.bytes=bytes) (hzs:z.cells.size=size) (hsz:0<size) (B:Nat) (v:Value) (l:List α) (hl:Sls c w B v l)
 (hk:∀x,(c x).length=size) (h1:∀x,∀u∈c x,u.oneCell'=true) (hbytes:l.length*bytes<=140737488355328):
 ∃v' w',(Builtin.append_ #[t,t] ty #[.slice none 0 0,v]).run P w=.ok v' w'/\SlsN c w.heap.size w' v' l/\Below w w w':=by
 obtain ⟨A,cap,rfl,hc,hm,hr⟩:=hl;rcases A with _ | ad
 ·have h0:l.length=0:=by
   rcases Nat.eq_zero_or_pos l.length with h0 | h0
   ·exact h0
   obtain ⟨b,o,h,_⟩:=hr h0;cases h
  have hn:l=[]:=js h0;subst hn;exact ⟨.slice none 0 0,w,by simp[Builtin.append_,run_underlying ht,sizeOf,typeInfo,hi,Builtin.lenOf,Builtin.firstCells],⟨Sls.nil _ _ _ _ _,by simp[Value.ownBlock]⟩,jg _ _⟩
 have hown:w.ownsRow w.heap.size e size (.slice none 0 0) 0 []:=⟨by simp,.inl ⟨rfl,rfl⟩⟩;have hcells:∀j u,(l.flatMap c)[j]?=some u->w.cell? (ad.add j)=some u:=by
  intro j u hu;rcases Nat.eq_zero_or_pos l.length with h0 | h0
  ·have hn:l=[]:=js h0;subst hn;simp at hu
  obtain ⟨b,o,h,_,hg⟩:=hr h0;injection h with h
  subst h;rw[Addr.add_mid];exact hg j u hu
 obtain ⟨v',w',hrun,h2,h3,h4,h5⟩:=run_append_own_at (P:=P) w w.heap.size t ty e i z size bytes ht hi hz hsize hby hzs hsz (.slice none 0 0) 0 [] hown ad l.length cap (l.flatMap c) (zgy c size hk l) hcells
  (by intro u hu;obtain ⟨x,_,hx⟩:=List.mem_flatMap.1 hu;exact h1 x u hx) (by omega) (by simpa using hbytes) jy
 refine ⟨v',w',hrun,⟨Sls.of_own (e:=e) (size:=size) (base:=w.heap.size) (by simpa using h2) hm,λq hq=>by rcases h5 with h | h <;> rw[h] at hq <;> simp[Value.ownBlock] at hq;omega⟩,(jg _ _).grown h3 jy (by simp[Value.ownBlock])⟩
theorem zo0 (c:α->List Value) {ops:Array Oper} {rest:List Oper} {Q:Exit->Act->World->Prop} (hgd:o.guard=none) (s x:Operand) (t:TypeId)
 (ho:o.op=.call { callee:=.builtin .append,args:=#[s,x],argTypes:=#[t,t] })
 (e:TypeId) (i:TypeInfo) (z:Value) (size bytes:Nat) (ht:P.underlying t=some (.slice e)) (hi:P.info? e=some i) (hz:i.zero=some z)
 (hsize:i.size=size) (hby:i.bytes=bytes) (hzs:z.cells.size=size) (hsz:0<size) (hs:a.eval s=.slice none 0 0) (B:Nat) (v:Value) (l:List α) (hx:a.eval x=v) (hl:Sls c w B v l)
 (hk:∀x,(c x).length=size) (h1:∀x,∀u∈c x,u.oneCell'=true) (hbytes:l.length*bytes<=140737488355328)
 (h:∀v' w',SlsN c w.heap.size w' v' l->Below w w w'->wpList P ops Q rest (a.put o.dst v') w'):wpList P ops Q (o::rest) a w:=by
 obtain ⟨v',w',hrun,h2,h3⟩:=zyl (P:=P) w c t o.type e i z size bytes ht hi hz hsize hby hzs hsz B v l hl hk h1 hbytes;refine wpList_plain hgd λK hK=>?_;unfold Oper.wp execOp;simp only[ho,resolve,invoke,builtin,Sem.run_bind,Sem.run_pure,Result.andThen_ok,List.map_toArray,List.map_cons,List.map_nil,hs,hx,hrun];exact hK _ _ (h v' w' h2 h3)
theorem zmt (x:Ent):∀u∈cEnt x,u.oneCell'=true:=by
 simp[cEnt,Value.oneCell']
theorem zrw (x:Rul):∀u∈cRul x,u.oneCell'=true:=by
 simp[cRul,Value.oneCell']
theorem zrz (x:Grt):∀u∈cGrt x,u.oneCell'=true:=by
 simp[cGrt,Value.oneCell']
theorem zr0 (x:Evt):∀u∈cEvt x,u.oneCell'=true:=by
 simp[cEvt,Value.oneCell']
theorem zrx (x:Rls):∀u∈cRls x,u.oneCell'=true:=by
 simp[cRls,Value.oneCell']
theorem zry (x:Opr):∀u∈cOpr x,u.oneCell'=true:=by
 simp[cOpr,Value.oneCell']
def Own {α:Type} (c:α->List Value) (e:TypeId) (k:Nat) (w:World) (v:Value) (l:List α):Prop:=w.ownsRow 0 e k v l.length (l.flatMap c)
section
variable {α:Type} {c:α->List Value} {e:TypeId} {k:Nat} {w w':World} {v:Value} {l:List α}
theorem Own.nil (c:α->List Value) (e:TypeId) (k:Nat) (w:World):Own c e k w (.slice none 0 0) []:=World.ownsRow_nil w 0 _ _
theorem Own.lt (h:Own c e k w v l) (q:Nat) (hq:v.ownBlock=some q):q<w.heap.size:=(World.ownsRow.lt h q hq).2
theorem Own.alloc (h:Own c e k w v l) (o:Obj):Own c e k (w.alloc o) v l:=World.ownsRow.alloc h o
theorem Own.drew (h:Own c e k w v l):Own c e k w.drew v l:=h
theorem Own.drewN (h:Own c e k w v l) (n:Nat):Own c e k (w.drewN n) v l:=h
theorem Own.chg {S:Nat->Prop} (h:Own c e k w v l) (hb:Chg S w w') (hv:∀q,v.ownBlock=some q->¬S q):Own c e k w' v l:=by
 rcases hq:v.ownBlock with _ | q
 ·rcases h.2 with ⟨rfl,he⟩ | ⟨g,cap,cur,rfl,_⟩
  ·exact ⟨h.1,.inl ⟨rfl,he⟩⟩
  simp[Value.ownBlock] at hq
 obtain ⟨h1,h2⟩:=h;refine ⟨h1,?_⟩;rcases h2 with ⟨rfl,he⟩ | ⟨g,cap,cur,rfl,hb0,hg,hr⟩
 ·exact .inl ⟨rfl,he⟩
 have e1:g=q:=by simpa [Value.ownBlock] using hq
 have hlt:g<w.heap.size:=(World.ownsRow.lt (v:=.slice (some (g,0)) l.length cap) ⟨h1,.inr ⟨g,cap,cur,rfl,hb0,hg,hr⟩⟩ g rfl).2;exact .inr ⟨g,cap,cur,rfl,hb0,(hb.block g hlt (hv g (by simp[Value.ownBlock]))).trans hg,hr⟩
theorem Own.below (h:Own c e k w v l) (hb:Below w w w'):Own c e k w' v l:=h.chg (S:=λ_=>False) ⟨hb.os,hb.tape,hb.output,hb.size,λq hq _=>hb.block q hq⟩ (λ_ _ h=>h)
theorem Own.outTo (h:Own c e k w v l) (hb:OutTo w u w' u') (hv:∀q,v.ownBlock=some q->u.ownBlock≠some q):Own c e k w' v l:=h.chg hb.chg hv
theorem Own.sls (h:Own c e k w v l) (hm:l.length<=maxLen):Sls c w w.heap.size v l:=Sls.of_own h hm
end
section
variable {P:Program} {α:Type}
theorem zdp (w:World) (c:α->List Value) (t ty e:TypeId) (i:TypeInfo) (z:Value) (size bytes:Nat) (ht:P.underlying t=some (.slice e)) (hi:P.info? e=some i) (hz:i.zero=some z)
 (hsize:i.size=size) (hby:i.bytes=bytes) (hzs:z.cells.size=size) (hsz:0<size) (v:Value) (l:List α) (hown:Own c e size w v l) (B:Nat) (v2:Value) (l2:List α) (hl:Sls c w B v2 l2)
 (hk:∀x,(c x).length=size) (h1:∀x,∀u∈c x,u.oneCell'=true) (hn:l.length+l2.length<=1000000) (hb:bytes<=1000000):
 ∃v' w',(Builtin.append_ #[t,t] ty #[v,v2]).run P w=.ok v' w'/\Own c e size w' v' (l++l2)/\OutTo w v w' v':=by
 obtain ⟨A,cap,rfl,hc,hm,hr⟩:=hl;rcases A with _ | ad
 ·have h0:l2.length=0:=by
   rcases Nat.eq_zero_or_pos l2.length with h0 | h0
   ·exact h0
   obtain ⟨b,o,h,_⟩:=hr h0;cases h
  have hn:l2=[]:=js h0;subst hn;rw[jh];refine ⟨v,w,?_,hown,OutTo.refl _ _⟩;rcases hown.2 with ⟨rfl,he⟩ | ⟨g,cp,cur,rfl,hb0,hg,hnc,hcm,hcs,htake⟩
  ·simp[Builtin.append_,run_underlying ht,sizeOf,typeInfo,hi,Builtin.lenOf,Builtin.firstCells]
  simp[Builtin.append_,run_underlying ht,sizeOf,typeInfo,hi,Builtin.lenOf,Builtin.firstCells,hnc,storeCells]
 have hcells:∀j u,(l2.flatMap c)[j]?=some u->w.cell? (ad.add j)=some u:=by
  intro j u hu;rcases Nat.eq_zero_or_pos l2.length with h0 | h0
  ·have hn:l2=[]:=js h0;subst hn;simp at hu
  obtain ⟨b,o,h,_,hg⟩:=hr h0;injection h with h
  subst h;rw[Addr.add_mid];exact hg j u hu
 have hmul:(l.length+l2.length)*bytes<=1000000*1000000:=Nat.mul_le_mul hn hb;obtain ⟨v',w',hrun,h2,h3,h4,h5⟩:=run_append_own_at (P:=P) w 0 t ty e i z size bytes ht hi hz hsize hby hzs hsz v l.length (l.flatMap c) hown ad l2.length cap (l2.flatMap c) (zgy c size hk l2) hcells
  (by intro u hu;obtain ⟨x,_,hx⟩:=List.mem_flatMap.1 hu;exact h1 x u hx) (by unfold maxLen;omega) (by omega) (Nat.zero_le _)
 refine ⟨v',w',hrun,?_,⟨⟨h3.os,h3.tape,h3.output,h3.size,λk hk hs=>h3.block k hk (λe=>hs e.symm)⟩,λk hk=>?_⟩⟩
 ·show w'.ownsRow 0 e size v' (l++l2).length ((l++l2).flatMap c);rw[jH,List.flatMap_append];exact h2
 rcases h5 with h5 | h5
 ·exact .inl (h5▸hk)
 rw[h5] at hk;exact .inr (by simp at hk;omega)
theorem zal (c:α->List Value) {ops:Array Oper} {rest:List Oper} {Q:Exit->Act->World->Prop} (hgd:o.guard=none) (s x:Operand) (t:TypeId)
 (ho:o.op=.call { callee:=.builtin .append,args:=#[s,x],argTypes:=#[t,t] })
 (e:TypeId) (i:TypeInfo) (z:Value) (size bytes:Nat) (ht:P.underlying t=some (.slice e)) (hi:P.info? e=some i) (hz:i.zero=some z)
 (hsize:i.size=size) (hby:i.bytes=bytes) (hzs:z.cells.size=size) (hsz:0<size) (v:Value) (l:List α) (hs:a.eval s=v) (hown:Own c e size w v l) (B:Nat) (v2:Value) (l2:List α) (hx:a.eval x=v2) (hl:Sls c w B v2 l2)
 (hk:∀x,(c x).length=size) (h1:∀x,∀u∈c x,u.oneCell'=true) (hn:l.length+l2.length<=1000000) (hb:bytes<=1000000)
 (h:∀v' w',Own c e size w' v' (l++l2)->OutTo w v w' v'->wpList P ops Q rest (a.put o.dst v') w'):wpList P ops Q (o::rest) a w:=by
 obtain ⟨v',w',hrun,h2,h3⟩:=zdp (P:=P) w c t o.type e i z size bytes ht hi hz hsize hby hzs hsz v l hown B v2 l2 hl hk h1 hn hb;refine wpList_plain hgd λK hK=>?_;unfold Oper.wp execOp;simp only[ho,resolve,invoke,builtin,Sem.run_bind,Sem.run_pure,Result.andThen_ok,List.map_toArray,List.map_cons,List.map_nil,hs,hx,hrun];exact hK _ _ (h v' w' h2 h3)
end
section
variable {P:Program} {ops:Array Oper} {o:Oper} {a:Act} {w:World} {K:Act->World->Prop} {Q:Exit->Act->World->Prop} {E:Prop}
variable {rest:List Oper}
theorem zig (hgd:o.guard=none) (s x:Operand) (t t2:TypeId) (ho:o.op=.call { callee:=.builtin .append,args:=#[s,x],argTypes:=#[t,t2] })
 (sv xv v:Value) (w':World) (hs:a.eval s=sv) (hx:a.eval x=xv) (hrun:(Builtin.append_ #[t,t2] o.type #[sv,xv]).run P w=.ok v w') (h:wpList P ops Q rest (a.put o.dst v) w'):wpList P ops Q (o::rest) a w:=by
 refine wpList_plain hgd λK hK=>?_;unfold Oper.wp execOp;simp only[ho,resolve,invoke,builtin,Sem.run_bind,Sem.run_pure,Result.andThen_ok,List.map_toArray,List.map_cons,List.map_nil,hs,hx,hrun];exact hK _ _ h
end
section
variable {α:Type} {c:α->List Value} {k:Nat} (hk:∀x,(c x).length=k)
include hk
theorem zoh:∀(l:List α) (j:Nat),(l.flatMap c).take (j*k)=(l.take j).flatMap c
 | [],j=>by simp
 | x::l,0=>by simp
 | x::l,j+1=>by
  rw[List.flatMap_cons,jr,List.flatMap_cons,<- zoh l j,List.take_append,hk,jK (by rw[hk,Nat.add_mul];omega)]
  congr 2
  rw[Nat.add_mul];omega
theorem zoi:∀(l:List α) (j:Nat),(l.flatMap c).drop (j*k)=(l.drop j).flatMap c
 | [],j=>by simp
 | x::l,0=>by simp
 | x::l,j+1=>by
  rw[List.flatMap_cons,List.drop_succ_cons,<- zoi l j,List.drop_append,hk,List.drop_of_length_le (by rw[hk,Nat.add_mul];omega)];rw[List.nil_append]
  congr 1
  rw[Nat.add_mul];omega
end
section
variable {α:Type} {c:α->List Value} {k:Nat} (hk:∀x,(c x).length=k)
include hk
end
theorem Own.row {c:α->List Value} (_hk:∀x,(c x).length=k) {l:List α} (h:Own c e k w v l) (hl:0<l.length):
 ∃g cap cur,v=.slice (some ⟨g,0,none⟩) l.length cap/\w.heap[g]?=some (.cells cur e (0,0))/\l.length<=cap/\cap<=maxLen/\cur.size=cap*k/\cur.toList.take (l.length*k)=l.flatMap c:=by
 obtain ⟨h1,h2⟩:=h;rcases h2 with ⟨he,e2⟩ | ⟨g,cap,cur,rfl,hb0,hg,hnc,hcm,hcs,htake⟩
 ·omega
 exact ⟨g,cap,cur,rfl,hg,hnc,hcm,hcs,htake⟩
theorem NoPanic.put {Q:Exit->Act->World->Prop} {c:_} {d:Option Tmp} (h:NoPanic Q (.panic c) (a.put d v) w):NoPanic Q (.panic c) a w:=(h:False).elim
theorem zo2 {md:Region.Mode} {ops:Array Oper} {Q:Exit->Act->World->Prop} {S:World->Prop} (i:Nat) {listed:Array Bool} (hr:Region.ready md ops listed=[i]) (ho:ops[i]?=some o) (hg:o.guard=none)
 (h:∀K':Act->World->Prop,Shut (∀a' w',((listed.setIfInBounds i true).getD s true=false->S w')->zck P md ops Q S s fuel (listed.setIfInBounds i true) a' w'->K' a' w')->o.wp P a w K' Q):zck P md ops Q S s (fuel+1) listed a w:=
 zr6 i hr ho hg (h _ (λ_ _ h1 h2=>⟨h1,h2⟩))
section
variable {P:Program} {o:Oper} {a:Act} {w:World} {K:Act->World->Prop} {Q:Exit->Act->World->Prop}
theorem zbl (s x:Operand) (t t2:TypeId) (ho:o.op=.call { callee:=.builtin .append,args:=#[s,x],argTypes:=#[t,t2] })
 (sv xv v:Value) (w':World) (hs:a.eval s=sv) (hx:a.eval x=xv) (hrun:(Builtin.append_ #[t,t2] o.type #[sv,xv]).run P w=.ok v w') (h:K (a.put o.dst v) w'):Oper.wp P o a w K Q:=by
 unfold Oper.wp;simp[execOp,ho,resolve,invoke,builtin,hs,hx,hrun,Result.andThen];exact h
end
structure L4 (B:Nat) (W:World) (e r g o:Value) (le:List Ent) (lr:List Rul) (lg:List Grt) (lo:List Opr):Prop where
 oe:Own cEnt 58 3 W e le
 oru:Own cRul 79 7 W r lr
 og:Own cGrt 85 8 W g lg
 oo:Own cOpr 48 13 W o lo
 be:∀q,e.ownBlock=some q->B<=q
 br:∀q,r.ownBlock=some q->B<=q
 bg:∀q,g.ownBlock=some q->B<=q
 bo:∀q,o.ownBlock=some q->B<=q
 er:∀q,e.ownBlock=some q->r.ownBlock≠some q
 eg:∀q,e.ownBlock=some q->g.ownBlock≠some q
 eo:∀q,e.ownBlock=some q->o.ownBlock≠some q
 rg:∀q,r.ownBlock=some q->g.ownBlock≠some q
 ro:∀q,r.ownBlock=some q->o.ownBlock≠some q
 go':∀q,g.ownBlock=some q->o.ownBlock≠some q
section
variable {B:Nat} {W W':World} {e r g o:Value} {le:List Ent} {lr:List Rul} {lg:List Grt} {lo:List Opr}
theorem L4.chg {S:Nat->Prop} (h:L4 B W e r g o le lr lg lo) (hb:Chg S W W') (hS:∀k,S k->e.ownBlock≠some k/\r.ownBlock≠some k/\g.ownBlock≠some k/\o.ownBlock≠some k):L4 B W' e r g o le lr lg lo:=
 { h with
   oe:=h.oe.chg hb λq hq hs=>(hS q hs).1 hq
   oru:=h.oru.chg hb λq hq hs=>(hS q hs).2.1 hq
   og:=h.og.chg hb λq hq hs=>(hS q hs).2.2.1 hq
   oo:=h.oo.chg hb λq hq hs=>(hS q hs).2.2.2 hq }
theorem L4.below (h:L4 B W e r g o le lr lg lo) (hb:Below W W W'):L4 B W' e r g o le lr lg lo:=h.chg (S:=λ_=>False) ⟨hb.os,hb.tape,hb.output,hb.size,λq hq _=>hb.block q hq⟩ (λ_ h=>h.elim)
theorem L4.set (h:L4 B W e r g o le lr lg lo) (hp:e.ownBlock≠some p.block/\r.ownBlock≠some p.block/\g.ownBlock≠some p.block/\o.ownBlock≠some p.block) (u:Value):L4 B (W.setCell p u) e r g o le lr lg lo:=
 h.chg (S:=λk=>k=p.block) ((Chg.refl (λk=>k=p.block) W).setCell (p:=p) (.inl rfl) u) (λk hk=>by subst hk;exact hp)
end
section
variable {P:Program} {md:Region.Mode} {ops:Array Oper} {Q:Exit->Act->World->Prop} {S:World->Prop} {s:Nat}
theorem tH (i:Nat) (v:Value) {listed:Array Bool} {d:_} {op:_} {ty:_} {e1:_} {e2:_} {g:_} (hS:S w)
 (h:wpAnyH P md ops Q S fuel (listed.setIfInBounds i true) (a.put d v) w)
 (hi:ops[i]?=some ⟨d,op,ty,e1,e2,g⟩:=by rfl)
 (hs:Region.noSelect ops=true:=by kernel_rfl) (hf:Region.free md ops listed i=true:=by kernel_rfl) (hr:(Region.ready md ops listed).contains i=true:=by kernel_rfl)
 (hQ:∀c a w,Q (.panic c) (a.put d v) w->Q (.panic c) a w:=by first | exact λ_ _ _ h=>NoPanic.put h | exact λ_ _ _ h=>h)
 (hy:YieldsIf P ops S ⟨d,op,ty,e1,e2,g⟩ v a:=by exact Or.inl ⟨by rfl,by intro W hW;go_simp⟩):wpAnyH P md ops Q S (fuel+1) listed a w:=
 wpAnyH_take hi hs hf hr hQ hy hS h
theorem tU (i:Nat) (v:Value) {listed:Array Bool} {d:_} {op:_} {ty:_} {e1:_} {e2:_} {g:_} (hS:listed.getD s true=false->S w)
 (h:zck P md ops Q S s fuel (listed.setIfInBounds i true) (a.put d v) w)
 (hi:ops[i]?=some ⟨d,op,ty,e1,e2,g⟩:=by rfl)
 (hs:Region.noSelect ops=true:=by kernel_rfl) (hf:Region.free md ops listed i=true:=by kernel_rfl) (hr:(Region.ready md ops listed).contains i=true:=by kernel_rfl) (hsi:i≠s:=by decide)
 (hQ:∀c a w,Q (.panic c) (a.put d v) w->Q (.panic c) a w:=by exact λ_ _ _ h=>NoPanic.put h)
 (hy:YieldsIf P ops (λ_=>True) ⟨d,op,ty,e1,e2,g⟩ v a:=by exact Or.inl ⟨by rfl,by intro W hW;go_simp⟩):zck P md ops Q S s (fuel+1) listed a w:=
 zmz i hi hs hf hr hsi hQ hy hS h
theorem tV (i:Nat) (v:Value) {listed:Array Bool} {d:_} {op:_} {ty:_} {e1:_} {e2:_} {g:_} (hi:ops[i]?=some ⟨d,op,ty,e1,e2,g⟩) (hS:S w) (hy:YieldsIf P ops S ⟨d,op,ty,e1,e2,g⟩ v a)
 (h:zck P md ops Q S s fuel (listed.setIfInBounds i true) (a.put d v) w)
 (hs:Region.noSelect ops=true:=by kernel_rfl) (hf:Region.free md ops listed i=true:=by kernel_rfl) (hr:(Region.ready md ops listed).contains i=true:=by kernel_rfl)
 (hw:zim md ops s i=true:=by kernel_rfl) (hsi:i≠s:=by decide) (hl:listed.getD s true=false:=by kernel_rfl)
 (hQ:∀c a w,Q (.panic c) (a.put d v) w->Q (.panic c) a w:=by exact λ_ _ _ h=>NoPanic.put h):zck P md ops Q S s (fuel+1) listed a w:=
 zo1 i hi hs hf hr hw hsi hl hQ hy hS h
theorem tC (i:Nat) {listed:Array Bool} {d:_} {op:_} {ty:_} {e1:_} {e2:_} {g:_} (ho:ops[i]?=some ⟨d,op,ty,e1,e2,g⟩)
 (h:∀K':Act->World->Prop,Shut (∀a w,S w->(S w->wpAnyH P md ops Q S fuel (listed.setIfInBounds i true) a w)->K' a w)->if Region.wanted ⟨d,op,ty,e1,e2,g⟩ (yielded ops a.tmps)=true then Oper.wp P ⟨d,op,ty,e1,e2,g⟩ a w K' Q else K' (a.put d undef) w)
 (hr:Region.ready md ops listed=[i]:=by kernel_rfl):wpAnyH P md ops Q S (fuel+1) listed a w:=
 wpAnyH_ready hr (by simp) (AllReadyH.cons ho h AllReadyH.nil)
theorem tS (i:Nat) {listed:Array Bool} {d:_} {op:_} {ty:_} {e1:_} {e2:_} (ho:ops[i]?=some ⟨d,op,ty,e1,e2,none⟩)
 (h:∀K':Act->World->Prop,Shut (∀a' w',((listed.setIfInBounds i true).getD s true=false->S w')->zck P md ops Q S s fuel (listed.setIfInBounds i true) a' w'->K' a' w')->Oper.wp P ⟨d,op,ty,e1,e2,none⟩ a w K' Q)
 (hr:Region.ready md ops listed=[i]:=by kernel_rfl):zck P md ops Q S s (fuel+1) listed a w:=
 zo2 i hr ho rfl h
end
theorem Hd {p:Prop} (h:p):Hid p:=Lib.hid h
theorem oldB (hb:Below w w w') (h:g<w.heap.size:=by first | (simp;done) | (simp;omega) | omega):(∀o,w'.cell? ⟨g,o,none⟩=w.cell? ⟨g,o,none⟩)/\g<w'.heap.size/\g<=w'.heap.size/\g<=w'.heap.size+1/\g<=w'.heap.size+1+1/\∀o,w'.frozen? ⟨g,o,none⟩=w.frozen? ⟨g,o,none⟩:=
 have:=hb.size
 ⟨λo=>hb.cell (p:=⟨g,o,none⟩) h,by omega,by omega,by omega,by omega,λo=>hb.frozen (p:=⟨g,o,none⟩) h⟩
theorem oldC {S:Nat->Prop} (hd:Chg S w w') (h:g<w.heap.size) (hs:¬S g):(∀o,w'.cell? ⟨g,o,none⟩=w.cell? ⟨g,o,none⟩)/\g<w'.heap.size/\g<=w'.heap.size/\g<=w'.heap.size+1/\g<=w'.heap.size+1+1/\∀o,w'.frozen? ⟨g,o,none⟩=w.frozen? ⟨g,o,none⟩:=
 have:=hd.size
 ⟨λo=>hd.cell (p:=⟨g,o,none⟩) h hs,by omega,by omega,by omega,by omega,λo=>hd.frozen (p:=⟨g,o,none⟩) h hs⟩
theorem nxt {a:World} (k:Below b b c) (h:Below a a b:=by go_grown) (hB:a.heap.size<=b.heap.size:=by first | (simp;done) | (simp;omega) | omega):Below a a c:=h.trans (k.mono hB)
theorem bE {R:Ending->World->Prop} (hR:R (.returned (.tuple #[])) w) (hr:fn.results=#[]:=by rfl) (hd:a.defers=[]:=by rfl):bodyPost P fn R .normal a w:=bodyPost_end (results_none hr _ _ _) hd hR
theorem bR {R:Ending->World->Prop} (hR:R (.returned (.tuple #[])) w) (hr:fn.results=#[]:=by rfl) (hd:a.defers=[]:=by rfl):bodyPost P fn R .ret a w:=jD (results_none hr _ _ _) hd hR
end Go.Proofs.YtamcgggmfghljaaGreatDoor
