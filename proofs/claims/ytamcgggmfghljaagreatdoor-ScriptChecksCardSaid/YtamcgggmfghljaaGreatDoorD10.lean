/- Layer 5 (program): codes of errors by their names. -/
import Derived.ProofKit
import Derived.Deep.Slices
import Derived.ChangeSame
import Derived.Laws.ShiftsVarLaws
import Derived.Test.YtamcgggmfghljaaGreatDoorD6
import Derived.Test.YtamcgggmfghljaaGreatDoorD7
import Derived.Test.YtamcgggmfghljaaGreatDoorD8
import Derived.Test.YtamcgggmfghljaaGreatDoorD9
set_option maxRecDepth 100000
set_option maxHeartbeats 8000000
open Go.Proofs.Tryz
namespace Go.Proofs.YtamcgggmfghljaaGreatDoor
open Go.RowKit
open Go.ChangeShapes Go.WideShapes Go.Deep Go.RowKit
def zg3:List zaa:=[[],[35,68,73,86,47,48,33],[35,86,65,76,85,69,33],[35,78,85,77,33],[35,78,47,65],[35,82,69,70,33],[35,67,89,67,76,69,33],[35,68,69,78,73,69,68]]
def Words (w:World):Prop:=(∀(j:Nat) (s:zaa),zg3[j]?=some s→w.cell? ⟨0,j,none⟩=some (str s))∧0<w.heap.size
theorem Words.below {w w':World} (h:Words w) (hb:Below w.heap.size w w'):Words w':=⟨fun j s hj=>(hb.cell (p:=⟨0,j,none⟩) h.2).trans (h.1 j s hj),Nat.lt_of_lt_of_le h.2 hb.size⟩
theorem zwh (s:zaa) (w:World) (hl:s.length≤1000000) (hw:Words w):
 Calls prog 217 #[str s] w fun u w'=>∃c e:Int,u=.returned (.tuple #[.int .i64 c,.int .i64 e])∧Below w.heap.size w w':=by
 have HW:=Hd hw
 clear hw
 have x0:∀W:World,(Instr.index 257 (.agg #[str [],str [35,68,73,86,47,48,33],str [35,86,65,76,85,69,33],str [35,78,85,77,33],str [35,78,47,65],str [35,82,69,70,33],str [35,67,89,67,76,69,33],str [35,68,69,78,73,69,68]]) (.int .i64 0)).run prog W=.ok (str []) W:=fun W=>by rfl
 have x1:∀W:World,(Instr.index 257 (.agg #[str [],str [35,68,73,86,47,48,33],str [35,86,65,76,85,69,33],str [35,78,85,77,33],str [35,78,47,65],str [35,82,69,70,33],str [35,67,89,67,76,69,33],str [35,68,69,78,73,69,68]]) (.int .i64 1)).run prog W=.ok (str [35,68,73,86,47,48,33]) W:=fun W=>by rfl
 have x2:∀W:World,(Instr.index 257 (.agg #[str [],str [35,68,73,86,47,48,33],str [35,86,65,76,85,69,33],str [35,78,85,77,33],str [35,78,47,65],str [35,82,69,70,33],str [35,67,89,67,76,69,33],str [35,68,69,78,73,69,68]]) (.int .i64 2)).run prog W=.ok (str [35,86,65,76,85,69,33]) W:=fun W=>by rfl
 have x3:∀W:World,(Instr.index 257 (.agg #[str [],str [35,68,73,86,47,48,33],str [35,86,65,76,85,69,33],str [35,78,85,77,33],str [35,78,47,65],str [35,82,69,70,33],str [35,67,89,67,76,69,33],str [35,68,69,78,73,69,68]]) (.int .i64 3)).run prog W=.ok (str [35,78,85,77,33]) W:=fun W=>by rfl
 have x4:∀W:World,(Instr.index 257 (.agg #[str [],str [35,68,73,86,47,48,33],str [35,86,65,76,85,69,33],str [35,78,85,77,33],str [35,78,47,65],str [35,82,69,70,33],str [35,67,89,67,76,69,33],str [35,68,69,78,73,69,68]]) (.int .i64 4)).run prog W=.ok (str [35,78,47,65]) W:=fun W=>by rfl
 have x5:∀W:World,(Instr.index 257 (.agg #[str [],str [35,68,73,86,47,48,33],str [35,86,65,76,85,69,33],str [35,78,85,77,33],str [35,78,47,65],str [35,82,69,70,33],str [35,67,89,67,76,69,33],str [35,68,69,78,73,69,68]]) (.int .i64 5)).run prog W=.ok (str [35,82,69,70,33]) W:=fun W=>by rfl
 have x6:∀W:World,(Instr.index 257 (.agg #[str [],str [35,68,73,86,47,48,33],str [35,86,65,76,85,69,33],str [35,78,85,77,33],str [35,78,47,65],str [35,82,69,70,33],str [35,67,89,67,76,69,33],str [35,68,69,78,73,69,68]]) (.int .i64 6)).run prog W=.ok (str [35,67,89,67,76,69,33]) W:=fun W=>by rfl
 have x7:∀W:World,(Instr.index 257 (.agg #[str [],str [35,68,73,86,47,48,33],str [35,86,65,76,85,69,33],str [35,78,85,77,33],str [35,78,47,65],str [35,82,69,70,33],str [35,67,89,67,76,69,33],str [35,68,69,78,73,69,68]]) (.int .i64 7)).run prog W=.ok (str [35,68,69,78,73,69,68]) W:=fun W=>by rfl
 go_enter func217,ntmps217
 go_wp2_with fail
 refine (zd7 s _ hl).mono ?_
 rintro e w1 ⟨rfl,hb⟩
 have HB:=Hd hb
 have W1:=HW.out.below hb
 have e0:=W1.1 0 _ rfl
 have e1:=W1.1 1 _ rfl
 have e2:=W1.1 2 _ rfl
 have e3:=W1.1 3 _ rfl
 have e4:=W1.1 4 _ rfl
 have e5:=W1.1 5 _ rfl
 have e6:=W1.1 6 _ rfl
 have e7:=W1.1 7 _ rfl
 clear hb W1
 go_wp2
 clear e0 e1 e2 e3 e4 e5 e6 e7
 go_loopw [9] (fun i wr=>∃k:Int,0≤k∧k≤8∧i=.int .i64 k∧w1=wr) (fun i _=>8-(intOf i).toNat)
 case atStart=>exact ⟨0,by omega,by omega,rfl,rfl⟩
 obtain ⟨k,h0,hk,rfl,rfl⟩:=hrel
 have e:k=0∨k=1∨k=2∨k=3∨k=4∨k=5∨k=6∨k=7∨k=8:=by omega
 rcases e with rfl | rfl | rfl | rfl | rfl | rfl | rfl | rfl | rfl
 ·go_wp2
  exact ⟨⟨1,by omega,by omega,rfl,trivial⟩,by simp [intOf]⟩
 ·cases hq:([35,68,73,86,47,48,33]==upB s)
  ·go_wp2
   exact ⟨⟨2,by omega,by omega,rfl,trivial⟩,by simp [intOf]⟩
  go_wp2
  go_ret2
  exact ⟨1,0,rfl,HB.out⟩
 ·cases hq:([35,86,65,76,85,69,33]==upB s)
  ·go_wp2
   exact ⟨⟨3,by omega,by omega,rfl,trivial⟩,by simp [intOf]⟩
  go_wp2
  go_ret2
  exact ⟨2,0,rfl,HB.out⟩
 ·cases hq:([35,78,85,77,33]==upB s)
  ·go_wp2
   exact ⟨⟨4,by omega,by omega,rfl,trivial⟩,by simp [intOf]⟩
  go_wp2
  go_ret2
  exact ⟨3,0,rfl,HB.out⟩
 ·cases hq:([35,78,47,65]==upB s)
  ·go_wp2
   exact ⟨⟨5,by omega,by omega,rfl,trivial⟩,by simp [intOf]⟩
  go_wp2
  go_ret2
  exact ⟨4,0,rfl,HB.out⟩
 ·cases hq:([35,82,69,70,33]==upB s)
  ·go_wp2
   exact ⟨⟨6,by omega,by omega,rfl,trivial⟩,by simp [intOf]⟩
  go_wp2
  go_ret2
  exact ⟨5,0,rfl,HB.out⟩
 ·cases hq:([35,67,89,67,76,69,33]==upB s)
  ·go_wp2
   exact ⟨⟨7,by omega,by omega,rfl,trivial⟩,by simp [intOf]⟩
  go_wp2
  go_ret2
  exact ⟨6,0,rfl,HB.out⟩
 ·cases hq:([35,68,69,78,73,69,68]==upB s)
  ·go_wp2
   exact ⟨⟨8,by omega,by omega,rfl,trivial⟩,by simp [intOf]⟩
  go_wp2
  go_ret2
  exact ⟨7,0,rfl,HB.out⟩
 go_wp2
 go_ret2
 exact ⟨0,4,rfl,HB.out⟩
def flat (P:Program):Nat→TypeId→List TypeId
 | 0,t=>[t]
 | n+1,t=>match P.underlying t with
  | some (.struct fs)=>fs.toList.flatMap fun f=>flat P n f.type
  | _=>[t]
def zfg (P:Program):Nat→TypeId→Bool
 | 0,t=>P.cellsOf t==1
 | n+1,t=>match P.underlying t with
  | some (.struct fs)=>P.cellsOf t==(fs.toList.flatMap fun f=>flat P n f.type).length&&(List.range fs.toList.length).all fun i=>match fs.toList[i]? with
   | some f=>f.offset==((fs.toList.take i).flatMap fun f=>flat P n f.type).length&&P.cellsOf f.type==(flat P n f.type).length&&zfg P n f.type
   | none=>true
  | _=>P.cellsOf t==1
theorem zdj {α β:Type} (g:α→List β):∀(l:List α) (j:Nat) (b:β),(l.flatMap g)[j]?=some b→
 ∃i f k,l[i]?=some f∧(g f)[k]?=some b∧j=((l.take i).flatMap g).length+k∧((l.take i).flatMap g).length+(g f).length≤(l.flatMap g).length
 | [],j,b,h=>by simp at h
 | a::l,j,b,h=>by
  rw [List.flatMap_cons] at h
  by_cases hj:j<(g a).length
  ·rw [List.getElem?_append_left hj] at h
   exact ⟨0,a,j,rfl,h,by simp,by simp⟩
  rw [List.getElem?_append_right (by omega)] at h
  obtain ⟨i,f,k,h1,h2,h3,h4⟩:=zdj g l _ b h
  refine ⟨i+1,f,k,by simpa using h1,h2,?_,?_⟩
  ·rw [List.take_succ_cons,List.flatMap_cons,List.length_append];omega
  rw [List.take_succ_cons,List.flatMap_cons,List.length_append,List.flatMap_cons,List.length_append];omega
section
variable {H:Type} {enc:TypeId × Value→H} {P:Program} {w:World} {base:Nat} {spare:Nat→Bool} {held:Bool}
theorem zlo:∀(n:Nat) (t:TypeId) (fuel:Nat) (cs:List Value) (x:DataW H × List MemPlace),zfg P n t=true→cs.length=P.cellsOf t→DataW.trod enc P w base spare held fuel t cs=some x→
 ∀(j:Nat) (tl:TypeId),(flat P n t)[j]?=some tl→∃v y m,cs[j]?=some v∧DataW.trod enc P w base spare held m tl [v]=some y:=by
 intro n
 induction n with
 | zero=>
  intro t fuel cs x hok hl h j tl hj
  simp only [zfg,beq_iff_eq] at hok
  simp only [flat] at hj
  obtain ⟨v,rfl⟩:=List.length_eq_one_iff.1 (hl.trans hok)
  have hj0:j=0:=by have:=(List.getElem?_eq_some_iff.1 hj).1;simpa using this
  subst hj0
  simp at hj
  subst hj
  exact ⟨v,x,fuel,rfl,h⟩
 | succ n ih=>
  intro t fuel cs x hok hl h j tl hj
  have leaf:P.cellsOf t=1→(flat P (n+1) t)=[t]→∃v y m,cs[j]?=some v∧DataW.trod enc P w base spare held m tl [v]=some y:=by
   intro h1 h2
   rw [h2] at hj
   obtain ⟨v,rfl⟩:=List.length_eq_one_iff.1 (hl.trans h1)
   have hj0:j=0:=by have:=(List.getElem?_eq_some_iff.1 hj).1;simpa using this
   subst hj0
   simp at hj
   subst hj
   exact ⟨v,x,fuel,rfl,h⟩
  by_cases hs:∃fs,P.underlying t=some (.struct fs)
  ·obtain ⟨fs,ht⟩:=hs
   simp only [flat,ht] at hj
   simp only [zfg,ht,Bool.and_eq_true,beq_iff_eq] at hok
   obtain ⟨hc,hall⟩:=hok
   obtain ⟨i,f,k,h1,h2,h3,h4⟩:=zdj _ _ j tl hj
   have hi:=(List.getElem?_eq_some_iff.1 h1).1
   have hall':=List.all_eq_true.1 hall i (List.mem_range.2 hi)
   simp only [h1,Bool.and_eq_true,beq_iff_eq] at hall'
   obtain ⟨⟨ho,hcf⟩,hf⟩:=hall'
   obtain ⟨ys,n',hn',hy,hlen,hyl,hfs⟩:=DataW.trod_struct ht h
   have hk:=(List.getElem?_eq_some_iff.1 h2).1
   have hrd:=hfs i f (by rw [← Array.getElem?_toList];exact h1)
   have hys:ys[i]?=some (ys[i]'(by rw [hyl];simpa using hi)):=List.getElem?_eq_getElem _
   rw [hys] at hrd
   obtain ⟨v,y,m,hv,hm⟩:=ih f.type n' _ _ hf (by rw [List.length_take,List.length_drop];omega) hrd k tl h2
   refine ⟨v,y,m,?_,hm⟩
   rw [List.getElem?_take,if_pos (by omega),List.getElem?_drop] at hv
   rw [h3,← ho]
   exact hv
  have hleaf:flat P (n+1) t=[t]:=by
   simp only [flat]
   split
   ·rename_i fs ht;exact absurd ⟨fs,ht⟩ hs
   rfl
  refine leaf ?_ hleaf
  simp only [zfg] at hok
  split at hok
  ·rename_i fs ht;exact absurd ⟨fs,ht⟩ hs
  simpa using hok
theorem zr5 {α:Type} {p:Nat→α→Prop}:∀(n:Nat),(∀i,i<n→∃x,p i x)→∃l:List α,l.length=n∧∀i x,l[i]?=some x→p i x
 | 0,_=>⟨[],rfl,fun i x h=>by simp at h⟩
 | n+1,h=>by
  obtain ⟨l,hl,hp⟩:=zr5 n fun i hi=>h i (by omega)
  obtain ⟨x,hx⟩:=h n (by omega)
  refine ⟨l++ [x],by simp [hl],fun i y hy=>?_⟩
  by_cases hi:i<n
  ·rw [List.getElem?_append_left (by omega)] at hy
   exact hp i y hy
  rw [List.getElem?_append_right (by omega)] at hy
  have hi2:i=n:=by have:=(List.getElem?_eq_some_iff.1 hy).1;simp at this;omega
  subst hi2
  simp [hl] at hy
  subst hy
  exact hx
theorem zwv (b o n:Nat):(⟨b,o,none⟩:Addr).add n=⟨b,o+n,none⟩:=by unfold Addr.add;split <;> simp_all
theorem zl0 {a:Addr} {v:Value} (h:w.cell? a=some v):a=⟨a.block,a.off,none⟩:=by
 obtain ⟨b,o,s⟩:=a
 cases s with
 | none=>rfl
 | some s=>simp only [World.cell?] at h;split at h <;> simp at h
theorem zec {α:Type} (c:α→List Value) (good:α→Prop) (n:Nat) {t e:TypeId} {fuel:Nat} {v:Value} {x:DataW H × List MemPlace} (k:Nat) (hk:∀a,(c a).length=k) (hk0:0<k) (ht:P.underlying t=some (.slice e)) (hok:zfg P n e=true) (hce:P.cellsOf e=k)
 (dec:∀cs:List Value,cs.length=k→(∀(j:Nat) (tl:TypeId),(flat P n e)[j]?=some tl→∃v y m,cs[j]?=some v∧DataW.trod enc P w base spare held m tl [v]=some y)→∃a,cs=c a∧good a)
 (h:DataW.trod enc P w base spare held fuel t [v]=some x):∃l:List α,Sls c w w.heap.size v l∧∀a∈l,good a:=by
 rcases open_slice ht h with ⟨hcs,_⟩ | ⟨a,len,cap,m,n',D,Pl,hcs,_,hl,hm,hmm,_,hi⟩
 ·simp at hcs
  subst hcs
  exact ⟨[],Sls.nil _ _ _ _ _,by simp⟩
 simp at hcs
 subst hcs
 have hlm:len≤m:=by rw [hmm];split <;> omega
 obtain ⟨l,hll,hp⟩:=zr5 (α:=α) (p:=fun i z=>w.rangeAt a.block (a.off+i*k) (c z)∧a=⟨a.block,a.off,none⟩∧a.block<w.heap.size∧good z) len fun i hlt=>by
  obtain ⟨cs',hc,hr⟩:=hi i (by omega)
  rw [hce] at hc
  obtain ⟨_,hcl,hat⟩:=World.cells?_some hc
  obtain ⟨z,rfl,hg⟩:=dec cs' hcl (zlo n e n' cs' _ hok (by rw [hcl,hce]) hr)
  have h0:=hat 0 hk0
  rw [List.getElem?_eq_getElem (by omega)] at h0
  have h0':w.cell? (a.add (i*k))=some (c z)[0]:=by
   rw [Go.Deep.add_add] at h0
   exact h0
  have hblk:(a.add (i*k)).block=a.block:=by unfold Addr.add;split <;> rfl
  have hb:=block_lt_of_cell h0'
  rw [hblk] at hb
  have ha:a=⟨a.block,a.off,none⟩:=by
   obtain ⟨cs0,hc0,_⟩:=hi 0 (by omega)
   rw [hce] at hc0
   obtain ⟨_,hcl0,hat0⟩:=World.cells?_some hc0
   have h1:=hat0 0 hk0
   rw [List.getElem?_eq_getElem (by omega),Go.Deep.add_add,Nat.zero_mul] at h1
   exact zl0 (a:=a) h1
  refine ⟨z,fun j u hu=>?_,ha,hb,hg⟩
  have hjk:j<k:=by have:=(List.getElem?_eq_some_iff.1 hu).1;omega
  have h2:=hat j hjk
  rw [Go.Deep.add_add,ha,zwv,hu] at h2
  rw [← h2,Nat.add_assoc]
 refine ⟨l,⟨some a,cap,by rw [hll],by omega,by omega,fun hpos=>?_⟩,fun z hz=>?_⟩
 ·have hx0:l[0]?=some l[0]:=List.getElem?_eq_getElem hpos
  obtain ⟨_,ha,hb,_⟩:=hp 0 _ hx0
  refine ⟨a.block,a.off,by rw [← ha],hb,fun j u hu=>?_⟩
  obtain ⟨i,z,q,h1,h2,h3,_⟩:=zdj c l j u hu
  have hr:=(hp i z h1).1 q u h2
  have hil:=(List.getElem?_eq_some_iff.1 h1).1
  rw [zd4 c k hk,List.length_take,Nat.min_eq_left (by omega)] at h3
  rw [h3,← Nat.add_assoc]
  exact hr
 obtain ⟨i,hi2,rfl⟩:=List.getElem_of_mem hz
 exact (hp i _ (List.getElem?_eq_getElem hi2)).2.2.2
end
def okV (v:Value):Prop:=match v with
 | .int k n=>(Lit.int k n).wf=true
 | .string s=>s.size≤maxLen
 | _=>True
theorem zwx (s:ByteArray):Value.string s=str s.data.toList:=by
 show Value.string s=Value.string ⟨s.data.toList.toArray⟩
 rw [Array.toArray_toList]
section
variable {H:Type} {enc:TypeId × Value→H} {w:World} {base:Nat} {spare:Nat→Bool} {held:Bool}
theorem zag {k:IntKind} {t:TypeId} (ht:prog.underlying t=some (.int k)) {cs:List Value} {j:Nat} (h:∃v y m,cs[j]?=some v∧DataW.trod enc prog w base spare held m t [v]=some y):∃n,cs[j]?=some (.int k n)∧okV (.int k n):=by
 obtain ⟨v,y,m,h1,h2⟩:=h
 obtain ⟨n,e,_,hw⟩:=DataW.trod_int ht h2
 simp at e
 subst e
 exact ⟨n,h1,hw⟩
theorem znv {t:TypeId} (ht:prog.underlying t=some .string) {cs:List Value} {j:Nat} (h:∃v y m,cs[j]?=some v∧DataW.trod enc prog w base spare held m t [v]=some y):∃s:zaa,cs[j]?=some (str s)∧okV (str s):=by
 obtain ⟨v,y,m,h1,h2⟩:=h
 obtain ⟨s,e,_,hw⟩:=DataW.trod_string ht h2
 simp at e
 subst e
 exact ⟨s.data.toList,by rw [h1,zwx],by rw [← zwx];exact hw⟩
theorem zli {t:TypeId} (ht:prog.underlying t=some .bool) {cs:List Value} {j:Nat} (h:∃v y m,cs[j]?=some v∧DataW.trod enc prog w base spare held m t [v]=some y):∃b,cs[j]?=some (.bool b):=by
 obtain ⟨v,y,m,h1,h2⟩:=h
 obtain ⟨b,e,_⟩:=DataW.trod_bool ht h2
 simp at e
 subst e
 exact ⟨b,h1⟩
theorem zva {fuel:Nat} {v:Value} {x:DataW H × List MemPlace} (h:DataW.trod enc prog w base spare held fuel 22 [v]=some x):∃l:List Ent,Sls cEnt w w.heap.size v l∧∀a∈l,∀u∈cEnt a,okV u:=by
 have hfl:flat prog 3 58=[3,3,9]:=by kernel_rfl
 refine zec cEnt (fun a=>∀u∈cEnt a,okV u) 3 3 zbw (by decide) underlying22 (by kernel_rfl) (by kernel_rfl) (fun cs hl key=>?_) h
 rw [hfl] at key
 obtain ⟨a0,e0,g0⟩:=zag underlying3 (key 0 _ rfl)
 obtain ⟨a1,e1,g1⟩:=zag underlying3 (key 1 _ rfl)
 obtain ⟨a2,e2,g2⟩:=znv underlying9 (key 2 _ rfl)
 have hcs:cs=cEnt ⟨⟨a0,a1⟩,a2⟩:=by
  apply List.ext_getElem?
  intro i
  match i with
  | 0=>exact e0
  | 1=>exact e1
  | 2=>exact e2
  | i+3=>rw [List.getElem?_eq_none (by omega),List.getElem?_eq_none (by rw [zbw];omega)]
 refine ⟨⟨⟨a0,a1⟩,a2⟩,hcs,?_⟩
 intro u hu
 simp only [cEnt,List.mem_cons,List.not_mem_nil,or_false] at hu
 rcases hu with rfl | rfl | rfl
 ·exact g0
 ·exact g1
 exact g2
theorem zu5 {fuel:Nat} {v:Value} {x:DataW H × List MemPlace} (h:DataW.trod enc prog w base spare held fuel 23 [v]=some x):∃l:List Rul,Sls cRul w w.heap.size v l∧∀a∈l,∀u∈cRul a,okV u:=by
 have hfl:flat prog 3 79=[3,3,3,3,44,44,44]:=by kernel_rfl
 refine zec cRul (fun a=>∀u∈cRul a,okV u) 3 7 zcu (by decide) underlying23 (by kernel_rfl) (by kernel_rfl) (fun cs hl key=>?_) h
 rw [hfl] at key
 obtain ⟨a0,e0,g0⟩:=zag underlying3 (key 0 _ rfl)
 obtain ⟨a1,e1,g1⟩:=zag underlying3 (key 1 _ rfl)
 obtain ⟨a2,e2,g2⟩:=zag underlying3 (key 2 _ rfl)
 obtain ⟨a3,e3,g3⟩:=zag underlying3 (key 3 _ rfl)
 obtain ⟨a4,e4,g4⟩:=zag underlying44 (key 4 _ rfl)
 obtain ⟨a5,e5,g5⟩:=zag underlying44 (key 5 _ rfl)
 obtain ⟨a6,e6,g6⟩:=zag underlying44 (key 6 _ rfl)
 have hcs:cs=cRul ⟨⟨a0,a1,a2,a3⟩,⟨a4,a5,a6⟩⟩:=by
  apply List.ext_getElem?
  intro i
  match i with
  | 0=>exact e0
  | 1=>exact e1
  | 2=>exact e2
  | 3=>exact e3
  | 4=>exact e4
  | 5=>exact e5
  | 6=>exact e6
  | i+7=>rw [List.getElem?_eq_none (by omega),List.getElem?_eq_none (by rw [zcu];omega)]
 refine ⟨⟨⟨a0,a1,a2,a3⟩,⟨a4,a5,a6⟩⟩,hcs,?_⟩
 intro u hu
 simp only [cRul,List.mem_cons,List.not_mem_nil,or_false] at hu
 rcases hu with rfl | rfl | rfl | rfl | rfl | rfl | rfl
 ·exact g0
 ·exact g1
 ·exact g2
 ·exact g3
 ·exact g4
 ·exact g5
 exact g6
theorem zu8 {fuel:Nat} {v:Value} {x:DataW H × List MemPlace} (h:DataW.trod enc prog w base spare held fuel 24 [v]=some x):∃l:List Grt,Sls cGrt w w.heap.size v l∧∀a∈l,∀u∈cGrt a,okV u:=by
 have hfl:flat prog 3 85=[3,3,3,3,5,44,3,4]:=by kernel_rfl
 refine zec cGrt (fun a=>∀u∈cGrt a,okV u) 3 8 zdm (by decide) underlying24 (by kernel_rfl) (by kernel_rfl) (fun cs hl key=>?_) h
 rw [hfl] at key
 obtain ⟨a0,e0,g0⟩:=zag underlying3 (key 0 _ rfl)
 obtain ⟨a1,e1,g1⟩:=zag underlying3 (key 1 _ rfl)
 obtain ⟨a2,e2,g2⟩:=zag underlying3 (key 2 _ rfl)
 obtain ⟨a3,e3,g3⟩:=zag underlying3 (key 3 _ rfl)
 obtain ⟨a4,e4,g4⟩:=zag underlying5 (key 4 _ rfl)
 obtain ⟨a5,e5,g5⟩:=zag underlying44 (key 5 _ rfl)
 obtain ⟨a6,e6,g6⟩:=zag underlying3 (key 6 _ rfl)
 obtain ⟨a7,e7⟩:=zli underlying4 (key 7 _ rfl)
 have g7:okV (.bool a7):=trivial
 have hcs:cs=cGrt ⟨⟨a0,a1,a2,a3⟩,a4,a5,a6,a7⟩:=by
  apply List.ext_getElem?
  intro i
  match i with
  | 0=>exact e0
  | 1=>exact e1
  | 2=>exact e2
  | 3=>exact e3
  | 4=>exact e4
  | 5=>exact e5
  | 6=>exact e6
  | 7=>exact e7
  | i+8=>rw [List.getElem?_eq_none (by omega),List.getElem?_eq_none (by rw [zdm];omega)]
 refine ⟨⟨⟨a0,a1,a2,a3⟩,a4,a5,a6,a7⟩,hcs,?_⟩
 intro u hu
 simp only [cGrt,List.mem_cons,List.not_mem_nil,or_false] at hu
 rcases hu with rfl | rfl | rfl | rfl | rfl | rfl | rfl | rfl
 ·exact g0
 ·exact g1
 ·exact g2
 ·exact g3
 ·exact g4
 ·exact g5
 ·exact g6
 exact g7
theorem zu9 {fuel:Nat} {v:Value} {x:DataW H × List MemPlace} (h:DataW.trod enc prog w base spare held fuel 25 [v]=some x):∃l:List Evt,Sls cEvt w w.heap.size v l∧∀a∈l,∀u∈cEvt a,okV u:=by
 have hfl:flat prog 3 110=[3,3,5,3,3,3,3,4,44]:=by kernel_rfl
 refine zec cEvt (fun a=>∀u∈cEvt a,okV u) 3 9 zcw (by decide) underlying25 (by kernel_rfl) (by kernel_rfl) (fun cs hl key=>?_) h
 rw [hfl] at key
 obtain ⟨a0,e0,g0⟩:=zag underlying3 (key 0 _ rfl)
 obtain ⟨a1,e1,g1⟩:=zag underlying3 (key 1 _ rfl)
 obtain ⟨a2,e2,g2⟩:=zag underlying5 (key 2 _ rfl)
 obtain ⟨a3,e3,g3⟩:=zag underlying3 (key 3 _ rfl)
 obtain ⟨a4,e4,g4⟩:=zag underlying3 (key 4 _ rfl)
 obtain ⟨a5,e5,g5⟩:=zag underlying3 (key 5 _ rfl)
 obtain ⟨a6,e6,g6⟩:=zag underlying3 (key 6 _ rfl)
 obtain ⟨a7,e7⟩:=zli underlying4 (key 7 _ rfl)
 have g7:okV (.bool a7):=trivial
 obtain ⟨a8,e8,g8⟩:=zag underlying44 (key 8 _ rfl)
 have hcs:cs=cEvt ⟨a0,a1,a2,⟨a3,a4,a5,a6⟩,a7,a8⟩:=by
  apply List.ext_getElem?
  intro i
  match i with
  | 0=>exact e0
  | 1=>exact e1
  | 2=>exact e2
  | 3=>exact e3
  | 4=>exact e4
  | 5=>exact e5
  | 6=>exact e6
  | 7=>exact e7
  | 8=>exact e8
  | i+9=>rw [List.getElem?_eq_none (by omega),List.getElem?_eq_none (by rw [zcw];omega)]
 refine ⟨⟨a0,a1,a2,⟨a3,a4,a5,a6⟩,a7,a8⟩,hcs,?_⟩
 intro u hu
 simp only [cEvt,List.mem_cons,List.not_mem_nil,or_false] at hu
 rcases hu with rfl | rfl | rfl | rfl | rfl | rfl | rfl | rfl | rfl
 ·exact g0
 ·exact g1
 ·exact g2
 ·exact g3
 ·exact g4
 ·exact g5
 ·exact g6
 ·exact g7
 exact g8
theorem zu6 {fuel:Nat} {v:Value} {x:DataW H × List MemPlace} (h:DataW.trod enc prog w base spare held fuel 26 [v]=some x):∃l:List Rls,Sls cRls w w.heap.size v l∧∀a∈l,∀u∈cRls a,okV u:=by
 have hfl:flat prog 3 116=[3,3,3,3,5,3,3,3,3,3,44]:=by kernel_rfl
 refine zec cRls (fun a=>∀u∈cRls a,okV u) 3 11 zcv (by decide) underlying26 (by kernel_rfl) (by kernel_rfl) (fun cs hl key=>?_) h
 rw [hfl] at key
 obtain ⟨a0,e0,g0⟩:=zag underlying3 (key 0 _ rfl)
 obtain ⟨a1,e1,g1⟩:=zag underlying3 (key 1 _ rfl)
 obtain ⟨a2,e2,g2⟩:=zag underlying3 (key 2 _ rfl)
 obtain ⟨a3,e3,g3⟩:=zag underlying3 (key 3 _ rfl)
 obtain ⟨a4,e4,g4⟩:=zag underlying5 (key 4 _ rfl)
 obtain ⟨a5,e5,g5⟩:=zag underlying3 (key 5 _ rfl)
 obtain ⟨a6,e6,g6⟩:=zag underlying3 (key 6 _ rfl)
 obtain ⟨a7,e7,g7⟩:=zag underlying3 (key 7 _ rfl)
 obtain ⟨a8,e8,g8⟩:=zag underlying3 (key 8 _ rfl)
 obtain ⟨a9,e9,g9⟩:=zag underlying3 (key 9 _ rfl)
 obtain ⟨a10,e10,g10⟩:=zag underlying44 (key 10 _ rfl)
 have hcs:cs=cRls ⟨a0,⟨a1,a2⟩,a3,a4,⟨a5,a6,a7,a8⟩,a9,a10⟩:=by
  apply List.ext_getElem?
  intro i
  match i with
  | 0=>exact e0
  | 1=>exact e1
  | 2=>exact e2
  | 3=>exact e3
  | 4=>exact e4
  | 5=>exact e5
  | 6=>exact e6
  | 7=>exact e7
  | 8=>exact e8
  | 9=>exact e9
  | 10=>exact e10
  | i+11=>rw [List.getElem?_eq_none (by omega),List.getElem?_eq_none (by rw [zcv];omega)]
 refine ⟨⟨a0,⟨a1,a2⟩,a3,a4,⟨a5,a6,a7,a8⟩,a9,a10⟩,hcs,?_⟩
 intro u hu
 simp only [cRls,List.mem_cons,List.not_mem_nil,or_false] at hu
 rcases hu with rfl | rfl | rfl | rfl | rfl | rfl | rfl | rfl | rfl | rfl | rfl
 ·exact g0
 ·exact g1
 ·exact g2
 ·exact g3
 ·exact g4
 ·exact g5
 ·exact g6
 ·exact g7
 ·exact g8
 ·exact g9
 exact g10
theorem zu7 {fuel:Nat} {v:Value} {x:DataW H × List MemPlace} (h:DataW.trod enc prog w base spare held fuel 29 [v]=some x):∃l:List Opr,Sls cOpr w w.heap.size v l∧∀a∈l,∀u∈cOpr a,okV u:=by
 have hfl:flat prog 3 48=[5,3,3,3,3,3,9,44,44,44,5,44,3]:=by kernel_rfl
 refine zec cOpr (fun a=>∀u∈cOpr a,okV u) 3 13 zdl (by decide) underlying29 (by kernel_rfl) (by kernel_rfl) (fun cs hl key=>?_) h
 rw [hfl] at key
 obtain ⟨a0,e0,g0⟩:=zag underlying5 (key 0 _ rfl)
 obtain ⟨a1,e1,g1⟩:=zag underlying3 (key 1 _ rfl)
 obtain ⟨a2,e2,g2⟩:=zag underlying3 (key 2 _ rfl)
 obtain ⟨a3,e3,g3⟩:=zag underlying3 (key 3 _ rfl)
 obtain ⟨a4,e4,g4⟩:=zag underlying3 (key 4 _ rfl)
 obtain ⟨a5,e5,g5⟩:=zag underlying3 (key 5 _ rfl)
 obtain ⟨a6,e6,g6⟩:=znv underlying9 (key 6 _ rfl)
 obtain ⟨a7,e7,g7⟩:=zag underlying44 (key 7 _ rfl)
 obtain ⟨a8,e8,g8⟩:=zag underlying44 (key 8 _ rfl)
 obtain ⟨a9,e9,g9⟩:=zag underlying44 (key 9 _ rfl)
 obtain ⟨a10,e10,g10⟩:=zag underlying5 (key 10 _ rfl)
 obtain ⟨a11,e11,g11⟩:=zag underlying44 (key 11 _ rfl)
 obtain ⟨a12,e12,g12⟩:=zag underlying3 (key 12 _ rfl)
 have hcs:cs=cOpr ⟨a0,a1,⟨a2,a3,a4,a5⟩,a6,⟨a7,a8,a9⟩,a10,a11,a12⟩:=by
  apply List.ext_getElem?
  intro i
  match i with
  | 0=>exact e0
  | 1=>exact e1
  | 2=>exact e2
  | 3=>exact e3
  | 4=>exact e4
  | 5=>exact e5
  | 6=>exact e6
  | 7=>exact e7
  | 8=>exact e8
  | 9=>exact e9
  | 10=>exact e10
  | 11=>exact e11
  | 12=>exact e12
  | i+13=>rw [List.getElem?_eq_none (by omega),List.getElem?_eq_none (by rw [zdl];omega)]
 refine ⟨⟨a0,a1,⟨a2,a3,a4,a5⟩,a6,⟨a7,a8,a9⟩,a10,a11,a12⟩,hcs,?_⟩
 intro u hu
 simp only [cOpr,List.mem_cons,List.not_mem_nil,or_false] at hu
 rcases hu with rfl | rfl | rfl | rfl | rfl | rfl | rfl | rfl | rfl | rfl | rfl | rfl | rfl
 ·exact g0
 ·exact g1
 ·exact g2
 ·exact g3
 ·exact g4
 ·exact g5
 ·exact g6
 ·exact g7
 ·exact g8
 ·exact g9
 ·exact g10
 ·exact g11
 exact g12
end
structure okS (s:Scp):Prop where
 users:okV (.int .i64 s.book.users)
 step:okV (.int .i64 s.book.step)
 ents:∀x∈s.book.entries,∀u∈cEnt x,okV u
 ruls:∀x∈s.book.rules,∀u∈cRul x,okV u
 grts:∀x∈s.book.grants,∀u∈cGrt x,okV u
 evts:∀x∈s.book.log,∀u∈cEvt x,okV u
 rlss:∀x∈s.book.releases,∀u∈cRls x,okV u
 oprs:∀x∈s.ops,∀u∈cOpr x,okV u
theorem zmf {H:Type} {enc:TypeId × Value→H} {W:World} {base:Nat} {v:Value} {d:DataW H} {p:List MemPlace}
 (o:Value.okWide prog W .any base 31 v) (h:DataW.Trod enc prog W 0 (fun _=>true) true 31 v d p):
 ∃s e r g l x q,v=vScp s e r g l x q∧RdScp W W.heap.size s e r g l x q∧okS s:=by
 have hfl:flat prog 4 31=[3,22,23,24,25,26,3,29]:=by kernel_rfl
 have hcl:prog.cellsOf 31=8:=by kernel_rfl
 obtain ⟨cs,rfl,hsz⟩:=okWide_struct underlying31 o
 obtain ⟨fuel,hf⟩:=h
 have key:=zlo 4 31 fuel _ _ (by kernel_rfl) (by simp [Value.cells,hsz]) hf
 rw [hfl] at key
 simp only [Value.cells] at key
 obtain ⟨n0,c0,g0⟩:=zag underlying3 (key 0 _ rfl)
 obtain ⟨v1,y1,m1,c1,t1⟩:=key 1 _ rfl
 obtain ⟨v2,y2,m2,c2,t2⟩:=key 2 _ rfl
 obtain ⟨v3,y3,m3,c3,t3⟩:=key 3 _ rfl
 obtain ⟨v4,y4,m4,c4,t4⟩:=key 4 _ rfl
 obtain ⟨v5,y5,m5,c5,t5⟩:=key 5 _ rfl
 obtain ⟨n6,c6,g6⟩:=zag underlying3 (key 6 _ rfl)
 obtain ⟨v7,y7,m7,c7,t7⟩:=key 7 _ rfl
 obtain ⟨l1,s1,k1⟩:=zva t1
 obtain ⟨l2,s2,k2⟩:=zu5 t2
 obtain ⟨l3,s3,k3⟩:=zu8 t3
 obtain ⟨l4,s4,k4⟩:=zu9 t4
 obtain ⟨l5,s5,k5⟩:=zu6 t5
 obtain ⟨l7,s7,k7⟩:=zu7 t7
 refine ⟨⟨⟨n0,l1,l2,l3,l4,l5,n6⟩,l7⟩,v1,v2,v3,v4,v5,v7,?_,⟨⟨s1,s2,s3,s4,s5⟩,s7⟩,⟨g0,g6,k1,k2,k3,k4,k5,k7⟩⟩
 show Value.agg cs=Value.agg _
 congr 1
 apply Array.ext'
 apply List.ext_getElem?
 intro i
 match i with
 | 0=>exact c0
 | 1=>exact c1
 | 2=>exact c2
 | 3=>exact c3
 | 4=>exact c4
 | 5=>exact c5
 | 6=>exact c6
 | 7=>exact c7
 | i+8=>
  rw [List.getElem?_eq_none (by simp [hsz,hcl]),List.getElem?_eq_none (by simp)]
section
variable {H:Type} {enc:TypeId × Value→H} {P:Program} {w:World} {base:Nat} {spare:Nat→Bool} {held:Bool}
theorem zf3:∀(ts:List TypeId) (ds:List (DataW H)) (i:Nat) (t:TypeId) (d:DataW H),ts[i]?=some t→ds[i]?=some d→∀q∈d.weights P t,q∈DataW.weightsEach P ts ds
 | [],ds,i,t,d,h,_=>by simp at h
 | t'::ts,[],i,t,d,_,h=>by simp at h
 | t'::ts,d'::ds,0,t,d,h1,h2=>by
  simp at h1 h2
  subst h1 h2
  intro q hq
  simp only [DataW.weightsEach,List.mem_append]
  exact .inl hq
 | t'::ts,d'::ds,i+1,t,d,h1,h2=>by
  intro q hq
  simp only [DataW.weightsEach,List.mem_append]
  exact .inr (zf3 ts ds i t d (by simpa using h1) (by simpa using h2) q hq)
theorem zp2:∀(n:Nat) (t:TypeId) (fuel:Nat) (cs:List Value) (x:DataW H × List MemPlace),zfg P n t=true→cs.length=P.cellsOf t→DataW.trod enc P w base spare held fuel t cs=some x→
 ∀(j:Nat) (tl:TypeId),(flat P n t)[j]?=some tl→∃v y m,cs[j]?=some v∧DataW.trod enc P w base spare held m tl [v]=some y∧∀q∈y.1.weights P tl,q∈x.1.weights P t:=by
 intro n
 induction n with
 | zero=>
  intro t fuel cs x hok hl h j tl hj
  simp only [zfg,beq_iff_eq] at hok
  simp only [flat] at hj
  obtain ⟨v,rfl⟩:=List.length_eq_one_iff.1 (hl.trans hok)
  have hj0:j=0:=by have:=(List.getElem?_eq_some_iff.1 hj).1;simpa using this
  subst hj0
  simp at hj
  subst hj
  exact ⟨v,x,fuel,rfl,h,fun q hq=>hq⟩
 | succ n ih=>
  intro t fuel cs x hok hl h j tl hj
  have leaf:P.cellsOf t=1→(flat P (n+1) t)=[t]→∃v y m,cs[j]?=some v∧DataW.trod enc P w base spare held m tl [v]=some y∧∀q∈y.1.weights P tl,q∈x.1.weights P t:=by
   intro h1 h2
   rw [h2] at hj
   obtain ⟨v,rfl⟩:=List.length_eq_one_iff.1 (hl.trans h1)
   have hj0:j=0:=by have:=(List.getElem?_eq_some_iff.1 hj).1;simpa using this
   subst hj0
   simp at hj
   subst hj
   exact ⟨v,x,fuel,rfl,h,fun q hq=>hq⟩
  by_cases hs:∃fs,P.underlying t=some (.struct fs)
  ·obtain ⟨fs,ht⟩:=hs
   simp only [flat,ht] at hj
   simp only [zfg,ht,Bool.and_eq_true,beq_iff_eq] at hok
   obtain ⟨hc,hall⟩:=hok
   obtain ⟨i,f,k,h1,h2,h3,h4⟩:=zdj _ _ j tl hj
   have hi:=(List.getElem?_eq_some_iff.1 h1).1
   have hall':=List.all_eq_true.1 hall i (List.mem_range.2 hi)
   simp only [h1,Bool.and_eq_true,beq_iff_eq] at hall'
   obtain ⟨⟨ho,hcf⟩,hf⟩:=hall'
   obtain ⟨ys,n',hn',hy,hlen,hyl,hfs⟩:=DataW.trod_struct ht h
   have hk:=(List.getElem?_eq_some_iff.1 h2).1
   have hrd:=hfs i f (by rw [← Array.getElem?_toList];exact h1)
   have hys:ys[i]?=some (ys[i]'(by rw [hyl];simpa using hi)):=List.getElem?_eq_getElem _
   rw [hys] at hrd
   obtain ⟨v,y,m,hv,hm,hq⟩:=ih f.type n' _ _ hf (by rw [List.length_take,List.length_drop];omega) hrd k tl h2
   refine ⟨v,y,m,?_,hm,fun q hqq=>?_⟩
   ·rw [List.getElem?_take,if_pos (by omega),List.getElem?_drop] at hv
    rw [h3,← ho]
    exact hv
   subst hy
   simp only [DataW.weights,ht]
   exact zf3 _ _ i f.type _ (by rw [List.getElem?_map,h1];rfl) (by rw [List.getElem?_map,hys];rfl) q (hq q hqq)
  have hleaf:flat P (n+1) t=[t]:=by
   simp only [flat]
   split
   ·rename_i fs ht;exact absurd ⟨fs,ht⟩ hs
   rfl
  refine leaf ?_ hleaf
  simp only [zfg] at hok
  split at hok
  ·rename_i fs ht;exact absurd ⟨fs,ht⟩ hs
  simpa using hok
theorem zc2 {t e:TypeId} {fuel:Nat} {v:Value} {x:DataW H × List MemPlace} (ht:P.underlying t=some (.slice e)) (hb:0<P.bytesOf e) (h:DataW.trod enc P w base spare held fuel t [v]=some x) (hq:∀q∈x.1.weights P t,q≤reachBytes):
 ∃A n cap,v=.slice A n cap∧n≤reachBytes:=by
 rcases open_slice ht h with ⟨hcs,_⟩ | ⟨a,len,cap,m,n',D,Pl,hcs,_,hl,hm,hmm,hx,hi⟩
 ·simp at hcs
  exact ⟨_,_,_,hcs,Nat.zero_le _⟩
 simp at hcs
 refine ⟨_,_,_,hcs,?_⟩
 subst hx
 have:=hq ((((List.range len).map D).length+((List.range (m-len)).map fun j=>D (len+j)).length)*P.bytesOf e) (by simp [DataW.weights,ht])
 rw [List.length_map,List.length_range] at this
 exact Nat.le_trans (Nat.le_trans (Nat.le_add_right len _) (Nat.le_mul_of_pos_right _ hb)) this
end
structure Reach (s:Scp):Prop where
 n1:s.book.entries.length≤reachBytes
 n2:s.book.rules.length≤reachBytes
 n3:s.book.grants.length≤reachBytes
 n4:s.book.log.length≤reachBytes
 n5:s.book.releases.length≤reachBytes
 n6:s.ops.length≤reachBytes
theorem zd8 {α:Type} {c:α→List Value} {w:World} {B:Nat} {v:Value} {l:List α} (h:Sls c w B v l) (hr:∃A n cap,v=.slice A n cap∧n≤reachBytes):l.length≤reachBytes:=by
 obtain ⟨A,n,cap,rfl,hn⟩:=hr
 have:=h.len
 omega
theorem zpg {H:Type} {enc:TypeId × Value→H} {W:World} {base:Nat} {s:Scp} {e r g l x q:Value} {d:DataW H} {p:List MemPlace}
 (_o:Value.okWide prog W .any base 31 (vScp s e r g l x q)) (h:DataW.Trod enc prog W 0 (fun _=>true) true 31 (vScp s e r g l x q) d p) (hb:RdScp W W.heap.size s e r g l x q)
 (hw:∀n∈d.weights prog 31,n≤reachBytes):Reach s:=by
 have hfl:flat prog 4 31=[3,22,23,24,25,26,3,29]:=by kernel_rfl
 have hcl:prog.cellsOf 31=8:=by kernel_rfl
 obtain ⟨fuel,hf⟩:=h
 have key:=zp2 4 31 fuel _ _ (by kernel_rfl) (by rw [hcl];rfl) hf
 rw [hfl] at key
 obtain ⟨v1,y1,m1,c1,t1,q1⟩:=key 1 _ rfl
 obtain ⟨v2,y2,m2,c2,t2,q2⟩:=key 2 _ rfl
 obtain ⟨v3,y3,m3,c3,t3,q3⟩:=key 3 _ rfl
 obtain ⟨v4,y4,m4,c4,t4,q4⟩:=key 4 _ rfl
 obtain ⟨v5,y5,m5,c5,t5,q5⟩:=key 5 _ rfl
 obtain ⟨v7,y7,m7,c7,t7,q7⟩:=key 7 _ rfl
 simp [Value.cells] at c1 c2 c3 c4 c5 c7
 subst c1 c2 c3 c4 c5 c7
 exact ⟨zd8 hb.book.ents (zc2 underlying22 (by decide+kernel) t1 fun n hn=>hw n (q1 n hn)),
  zd8 hb.book.ruls (zc2 underlying23 (by decide+kernel) t2 fun n hn=>hw n (q2 n hn)),
  zd8 hb.book.grts (zc2 underlying24 (by decide+kernel) t3 fun n hn=>hw n (q3 n hn)),
  zd8 hb.book.evts (zc2 underlying25 (by decide+kernel) t4 fun n hn=>hw n (q4 n hn)),
  zd8 hb.book.rlss (zc2 underlying26 (by decide+kernel) t5 fun n hn=>hw n (q5 n hn)),
  zd8 hb.ops (zc2 underlying29 (by decide+kernel) t7 fun n hn=>hw n (q7 n hn))⟩
def beB (n:Nat):zaa:=if _h:n=0 then [] else beB (n / 256)++ [UInt8.ofNat (n % 256)]
termination_by n
decreasing_by omega
def numB (n:Nat):zaa:=UInt8.ofNat (beB n).length::beB n
def numI (n:Int):zaa:=numB (n % 18446744073709551616).toNat
theorem zek:beB 0=[]:=by rw [beB];simp
theorem zmz {n:Nat} (h:n≠0):beB n=beB (n / 256)++ [UInt8.ofNat (n % 256)]:=by rw [beB];simp [h]
theorem zdw {n:Nat} (h:n≠0):(beB n).length=(beB (n / 256)).length+1:=by rw [zmz h];simp
theorem zxc:∀(k n:Nat),n<256 ^ k→(beB n).length≤k
 | 0,n,h=>by
  have:n=0:=by simpa using h
  subst this
  simp [zek]
 | k+1,n,h=>by
  by_cases h0:n=0
  ·subst h0;simp [zek]
  rw [zdw h0]
  have:=zxc k (n / 256) (by rw [Nat.pow_succ] at h;exact Nat.div_lt_of_lt_mul (by omega))
  omega
theorem zh7 {n:Nat} (h:n<18446744073709551616):(beB n).length≤8:=zxc 8 n (by simpa using h)
theorem beB_at:∀(n i:Nat),i<(beB n).length→(beB n)[(beB n).length-1-i]?=some (UInt8.ofNat (n / 256 ^ i % 256)):=by
 intro n
 induction n using Nat.strongRecOn with
 | _ n ih=>
  intro i hi
  by_cases h0:n=0
  ·subst h0;simp [zek] at hi
  have hl:=zdw h0
  rw [zmz h0] at hi ⊢
  rw [List.length_append,List.length_singleton] at hi ⊢
  rcases i with _ | i
  ·rw [List.getElem?_append_right (by omega)]
   simp
  rw [List.getElem?_append_left (by omega)]
  have h:=ih (n / 256) (by omega) i (by omega)
  rw [show (beB (n / 256)).length+1-1-(i+1)=(beB (n / 256)).length-1-i by omega,h,Nat.div_div_eq_div_mul,Nat.pow_succ,Nat.mul_comm]
theorem zkf {n j:Nat} (h:j<(beB n).length):(beB n).take (j+1)=(beB n).take j++ [UInt8.ofNat (n / 256 ^ ((beB n).length-1-j) % 256)]:=by
 have h2:=beB_at n ((beB n).length-1-j) (by omega)
 rw [show (beB n).length-1-((beB n).length-1-j)=j by omega] at h2
 rw [List.take_add_one,h2]
 rfl
theorem zkg (m i:Nat):((m:Int) / 2 ^ (8*i) % 256).toNat=m / 256 ^ i % 256:=by
 have e:((m:Int) / 2 ^ (8*i) % 256)=((m / 2 ^ (8*i) % 256:Nat):Int):=by simp
 rw [e,Nat.pow_mul]
 rfl
theorem zyo {n:Nat} (h:n<18446744073709551616):(numB n).length≤9:=by have:=zh7 h;simp [numB];omega
theorem zab (n:Int):(numI n).length≤9:=zyo (by omega)
def zhz (b:Bool):zaa:=numI (if b then 1 else 0)
def zcy (s:zaa):zaa:=numI s.length++s
def zbz (r:Ref):zaa:=numI r.col++numI r.row
def za7 (r:Rct):zaa:=numI r.c1++numI r.r1++numI r.c2++numI r.r2
def zcb (r:Rts):zaa:=numI r.rd++numI r.wr++numI r.ow
def entB (x:Ent):zaa:=zbz x.at_++zcy x.input
def rulB (x:Rul):zaa:=za7 x.rect++zcb x.rights
def grtB (x:Grt):zaa:=za7 x.rect++numI x.fns++numI x.to_++numI x.by_++zhz x.revoked
def evtB (x:Evt):zaa:=numI x.step++numI x.user++numI x.kind++za7 x.rect++zhz x.done_++numI x.to_
def rlsB (x:Rls):zaa:=numI x.step++zbz x.at_++numI x.node++numI x.fn++za7 x.rect++numI x.grant++numI x.to_
def oprF (x:Opr):List (Bool × zaa):=
 [(decide (x.user≠0),numI x.user),(decide (x.rect≠⟨0,0,0,0⟩),za7 x.rect),(decide (x.input≠ []),zcy x.input),(decide (x.rights≠⟨0,0,0⟩),zcb x.rights),
  (decide (x.fns≠0),numI x.fns),(decide (x.to_≠0),numI x.to_),(decide (x.index≠0),numI x.index)]
def zc9:List (Bool × zaa)→Int
 | []=>0
 | (b,_)::l=>(if b then 1 else 0)+2*zc9 l
def oprB (x:Opr):zaa:=numI x.kind++numI (zc9 (oprF x))++(oprF x).flatMap fun p=>if p.1 then p.2 else []
def zap {α:Type} (f:α→zaa) (l:List α):zaa:=numI l.length++l.flatMap f
def scpB (s:Scp):zaa:=
 numI s.book.users++zap entB s.book.entries++zap rulB s.book.rules++zap grtB s.book.grants++zap evtB s.book.log++zap rlsB s.book.releases++numI s.book.step++zap oprB s.ops
theorem zbv (v:Value) (l:zaa) (n:Int) (w:World) (h:Out w v l) (hl:l.length≤100000000000):
 Calls prog 84 #[v,.int .i64 n] w fun e w'=>∃v',e=.returned v'∧Out w' v' (l++numI n)∧OutTo w v w' v':=by
 obtain ⟨i0,hi0,hz0,hz1,hz2⟩:=info_parts (show (prog.info? 5).map (fun i=>(i.zero,i.size,i.bytes))=some (some (.int .u8 0),1,1) by kernel_rfl)
 obtain ⟨m,hm,hm2⟩:∃m:Nat,IntKind.u64.wrap n=(m:Int)∧m<18446744073709551616:=⟨(n % 18446744073709551616).toNat,by rw [IntKind.wrap_u64];omega,by omega⟩
 have hN:Hid (numI n=numB m):=by
  unfold Hid numI
  rw [← IntKind.wrap_u64,hm]
  rfl
 have h8:=zh7 hm2
 have H0:=Hd h
 clear h
 go_enter func84,ntmps84
 go_wp2
 go_loop [6,7] (fun s x=>∃k y:Nat,s=.int .i64 k∧x=.int .u64 y∧(beB m).length=k+(beB y).length) (fun _ x=>(intOf x).toNat)
 case atStart=>exact ⟨0,m,rfl,rfl,by simp⟩
 obtain ⟨k,y,rfl,rfl,hk⟩:=hrel
 by_cases hy:0<y
 ·have hk2:=zdw (n:=y) (by omega)
  have HK:=Hd hk
  go_wp2
  exact ⟨⟨k+1,y / 256,rfl,rfl,by omega⟩,by simp [intOf];omega⟩
 obtain rfl:y=0:=by omega
 rw [zek] at hk
 have hk1:k=(beB m).length:=by simpa using hk.symm
 have HK:=Hd hk1
 have e1:l++ [UInt8.ofNat (k:Int).toNat]=l++ [UInt8.ofNat (beB m).length]:=by rw [hk1];rfl
 have E1:=Hd e1
 have hk9:k≤8:=by omega
 clear hk hk1 e1
 go_wp2_with (at_builtin;refine zbn rfl _ _ 59 rfl i0 rfl hi0 hz0 hz1 hz2 v l rfl (H0.out.alloc _) w.heap.size k rfl (by omega) (by omega) (World.cell?_alloc_at _ _ _ _ rfl) (by omega) ?_;intro v1 w1 o1 t1)
 have T1:=Hd (((OutTo.refl w v).alloc _).trans t1)
 rw [E1.out] at o1
 have O1:=Hd o1
 clear t1 o1
 go_wp2
 go_loopw [0,8] (fun u i wr=>∃j:Nat,j≤k∧i=.int .i64 ((k:Int)-1-j)∧Out wr u (l++UInt8.ofNat (beB m).length::(beB m).take j)∧OutTo w v wr u) (fun _ i _=>(intOf i+1).toNat)
 case atStart=>exact ⟨0,by omega,by simp,by simpa using O1.out,T1.out⟩
 obtain ⟨j,hj,rfl,oj,tj⟩:=hrel
 have OJ:=Hd oj
 have TJ:=Hd tj
 clear oj tj
 by_cases hlt:j<k
 ·have b0:(0:Int)≤(k:Int)-1-j:=by omega
  have hb:=zkg m (k-1-j)
  rw [HK.out] at hb
  have ht:=zkf (n:=m) (j:=j) (by rw [← HK.out];omega)
  rw [← hb,← HK.out] at ht
  have HT:=Hd ht
  clear hb ht
  go_wp2_with (at_builtin;refine zbn rfl _ _ 59 rfl i0 rfl hi0 hz0 hz1 hz2 u0 _ rfl (OJ.out.alloc _) wr.heap.size ((m:Int) / 2 ^ (8*(k-1-j)) % 256) rfl (by omega) (by omega) (World.cell?_alloc_at _ _ _ _ rfl) (by simp;omega) ?_;intro v2 w2 o2 t2)
  have T2:=Hd (TJ.out.trans (((OutTo.refl wr u0).alloc _).trans t2))
  have O2:=Hd o2
  clear t2 o2
  go_wp2
  refine ⟨⟨j+1,by omega,by go_num,?_,T2.out⟩,by simp [intOf];omega⟩
  rw [HT.out]
  simpa using O2.out
 go_wp2
 go_ret
 have hjk:j=(beB m).length:=by rw [← HK.out];omega
 refine ⟨_,rfl,?_,TJ.out⟩
 have:=OJ.out
 rw [hjk,List.take_length] at this
 rw [hN.out]
 exact this
theorem zhk (v:Value) (l:zaa) (n:Int) (w:World) (hn0:0≤n) (hn1:n<18446744073709551616) (h:Out w v l) (hl:l.length≤100000000000):
 Calls prog 96 #[v,.int .u64 n] w fun e w'=>∃v',e=.returned v'∧Out w' v' (l++numI n)∧OutTo w v w' v':=by
 obtain ⟨i0,hi0,hz0,hz1,hz2⟩:=info_parts (show (prog.info? 5).map (fun i=>(i.zero,i.size,i.bytes))=some (some (.int .u8 0),1,1) by kernel_rfl)
 obtain ⟨m,rfl⟩:∃m:Nat,n=(m:Int):=⟨n.toNat,by omega⟩
 have hm2:m<18446744073709551616:=by omega
 have hN:Hid (numI (m:Int)=numB m):=by
  unfold Hid numI
  congr 1
  omega
 clear hn0 hn1
 have h8:=zh7 hm2
 have H0:=Hd h
 clear h
 go_enter func96,ntmps96
 go_wp2
 go_loop [6,7] (fun s x=>∃k y:Nat,s=.int .i64 k∧x=.int .u64 y∧(beB m).length=k+(beB y).length) (fun _ x=>(intOf x).toNat)
 case atStart=>exact ⟨0,m,rfl,rfl,by simp⟩
 obtain ⟨k,y,rfl,rfl,hk⟩:=hrel
 by_cases hy:0<y
 ·have hk2:=zdw (n:=y) (by omega)
  have HK:=Hd hk
  go_wp2
  exact ⟨⟨k+1,y / 256,rfl,rfl,by omega⟩,by simp [intOf];omega⟩
 obtain rfl:y=0:=by omega
 rw [zek] at hk
 have hk1:k=(beB m).length:=by simpa using hk.symm
 have HK:=Hd hk1
 have e1:l++ [UInt8.ofNat (k:Int).toNat]=l++ [UInt8.ofNat (beB m).length]:=by rw [hk1];rfl
 have E1:=Hd e1
 have hk9:k≤8:=by omega
 clear hk hk1 e1
 go_wp2_with (at_builtin;refine zbn rfl _ _ 59 rfl i0 rfl hi0 hz0 hz1 hz2 v l rfl (H0.out.alloc _) w.heap.size k rfl (by omega) (by omega) (World.cell?_alloc_at _ _ _ _ rfl) (by omega) ?_;intro v1 w1 o1 t1)
 have T1:=Hd (((OutTo.refl w v).alloc _).trans t1)
 rw [E1.out] at o1
 have O1:=Hd o1
 clear t1 o1
 go_wp2
 go_loopw [0,8] (fun u i wr=>∃j:Nat,j≤k∧i=.int .i64 ((k:Int)-1-j)∧Out wr u (l++UInt8.ofNat (beB m).length::(beB m).take j)∧OutTo w v wr u) (fun _ i _=>(intOf i+1).toNat)
 case atStart=>exact ⟨0,by omega,by simp,by simpa using O1.out,T1.out⟩
 obtain ⟨j,hj,rfl,oj,tj⟩:=hrel
 have OJ:=Hd oj
 have TJ:=Hd tj
 clear oj tj
 by_cases hlt:j<k
 ·have b0:(0:Int)≤(k:Int)-1-j:=by omega
  have hb:=zkg m (k-1-j)
  rw [HK.out] at hb
  have ht:=zkf (n:=m) (j:=j) (by rw [← HK.out];omega)
  rw [← hb,← HK.out] at ht
  have HT:=Hd ht
  clear hb ht
  go_wp2_with (at_builtin;refine zbn rfl _ _ 59 rfl i0 rfl hi0 hz0 hz1 hz2 u0 _ rfl (OJ.out.alloc _) wr.heap.size ((m:Int) / 2 ^ (8*(k-1-j)) % 256) rfl (by omega) (by omega) (World.cell?_alloc_at _ _ _ _ rfl) (by simp;omega) ?_;intro v2 w2 o2 t2)
  have T2:=Hd (TJ.out.trans (((OutTo.refl wr u0).alloc _).trans t2))
  have O2:=Hd o2
  clear t2 o2
  go_wp2
  refine ⟨⟨j+1,by omega,by go_num,?_,T2.out⟩,by simp [intOf];omega⟩
  rw [HT.out]
  simpa using O2.out
 go_wp2
 go_ret
 have hjk:j=(beB m).length:=by rw [← HK.out];omega
 refine ⟨_,rfl,?_,TJ.out⟩
 have:=OJ.out
 rw [hjk,List.take_length] at this
 rw [hN.out]
 exact this
theorem zle (v:Value) (l:zaa) (n:Int) (w:World) (h:Out w v l) (hl:l.length≤100000000000):
 Calls prog 97 #[v,.int .u8 n] w fun e w'=>∃v',e=.returned v'∧Out w' v' (l++numI n)∧OutTo w v w' v':=by
 obtain ⟨i0,hi0,hz0,hz1,hz2⟩:=info_parts (show (prog.info? 5).map (fun i=>(i.zero,i.size,i.bytes))=some (some (.int .u8 0),1,1) by kernel_rfl)
 obtain ⟨m,hm,hm2⟩:∃m:Nat,IntKind.u64.wrap n=(m:Int)∧m<18446744073709551616:=⟨(n % 18446744073709551616).toNat,by rw [IntKind.wrap_u64];omega,by omega⟩
 have hN:Hid (numI n=numB m):=by
  unfold Hid numI
  rw [← IntKind.wrap_u64,hm]
  rfl
 have h8:=zh7 hm2
 have H0:=Hd h
 clear h
 go_enter func97,ntmps97
 go_wp2
 go_loop [6,7] (fun s x=>∃k y:Nat,s=.int .i64 k∧x=.int .u64 y∧(beB m).length=k+(beB y).length) (fun _ x=>(intOf x).toNat)
 case atStart=>exact ⟨0,m,rfl,rfl,by simp⟩
 obtain ⟨k,y,rfl,rfl,hk⟩:=hrel
 by_cases hy:0<y
 ·have hk2:=zdw (n:=y) (by omega)
  have HK:=Hd hk
  go_wp2
  exact ⟨⟨k+1,y / 256,rfl,rfl,by omega⟩,by simp [intOf];omega⟩
 obtain rfl:y=0:=by omega
 rw [zek] at hk
 have hk1:k=(beB m).length:=by simpa using hk.symm
 have HK:=Hd hk1
 have e1:l++ [UInt8.ofNat (k:Int).toNat]=l++ [UInt8.ofNat (beB m).length]:=by rw [hk1];rfl
 have E1:=Hd e1
 have hk9:k≤8:=by omega
 clear hk hk1 e1
 go_wp2_with (at_builtin;refine zbn rfl _ _ 59 rfl i0 rfl hi0 hz0 hz1 hz2 v l rfl (H0.out.alloc _) w.heap.size k rfl (by omega) (by omega) (World.cell?_alloc_at _ _ _ _ rfl) (by omega) ?_;intro v1 w1 o1 t1)
 have T1:=Hd (((OutTo.refl w v).alloc _).trans t1)
 rw [E1.out] at o1
 have O1:=Hd o1
 clear t1 o1
 go_wp2
 go_loopw [0,8] (fun u i wr=>∃j:Nat,j≤k∧i=.int .i64 ((k:Int)-1-j)∧Out wr u (l++UInt8.ofNat (beB m).length::(beB m).take j)∧OutTo w v wr u) (fun _ i _=>(intOf i+1).toNat)
 case atStart=>exact ⟨0,by omega,by simp,by simpa using O1.out,T1.out⟩
 obtain ⟨j,hj,rfl,oj,tj⟩:=hrel
 have OJ:=Hd oj
 have TJ:=Hd tj
 clear oj tj
 by_cases hlt:j<k
 ·have b0:(0:Int)≤(k:Int)-1-j:=by omega
  have hb:=zkg m (k-1-j)
  rw [HK.out] at hb
  have ht:=zkf (n:=m) (j:=j) (by rw [← HK.out];omega)
  rw [← hb,← HK.out] at ht
  have HT:=Hd ht
  clear hb ht
  go_wp2_with (at_builtin;refine zbn rfl _ _ 59 rfl i0 rfl hi0 hz0 hz1 hz2 u0 _ rfl (OJ.out.alloc _) wr.heap.size ((m:Int) / 2 ^ (8*(k-1-j)) % 256) rfl (by omega) (by omega) (World.cell?_alloc_at _ _ _ _ rfl) (by simp;omega) ?_;intro v2 w2 o2 t2)
  have T2:=Hd (TJ.out.trans (((OutTo.refl wr u0).alloc _).trans t2))
  have O2:=Hd o2
  clear t2 o2
  go_wp2
  refine ⟨⟨j+1,by omega,by go_num,?_,T2.out⟩,by simp [intOf];omega⟩
  rw [HT.out]
  simpa using O2.out
 go_wp2
 go_ret
 have hjk:j=(beB m).length:=by rw [← HK.out];omega
 refine ⟨_,rfl,?_,TJ.out⟩
 have:=OJ.out
 rw [hjk,List.take_length] at this
 rw [hN.out]
 exact this
def cTok (t:Tok):List Value:=[.int .u8 t.kind,.int .i64 t.num,str t.text,.int .i64 t.rect.c1,.int .i64 t.rect.r1,.int .i64 t.rect.c2,.int .i64 t.rect.r2,.int .i64 t.at_]
theorem zdk (t:Tok):(cTok t).length=8:=rfl
theorem zfj (p:UInt8→Bool) (s:zaa) (i:Nat):lenB p s i≤s.length-i:=by
 have h:=zr8 p (s.drop i)
 unfold lenB at h ⊢
 rw [List.drop_zero,List.length_drop] at h
 exact h
theorem zcs (l:zaa) (i n:Nat):(⟨l.toArray⟩:ByteArray).extract i (i+n)=⟨((l.drop i).take n).toArray⟩:=by
 apply ByteArray.ext
 simp
theorem za2 (l:zaa) (k:Nat) (h:k<(⟨l.toArray⟩:ByteArray).size):(⟨l.toArray⟩:ByteArray)[k]=l.getD k 0:=by
 have h2:k<l.length:=by rw [zad] at h;exact h
 rw [List.getD_eq_getElem?_getD,List.getElem?_eq_getElem h2]
 rfl
theorem zvt (g:Nat) (s:zaa) (i:Nat) (w:World) (hg:Blk w g 263 #[str s]):
 Calls prog 278 #[.pointer (some ⟨g,0,none⟩),.int .i64 i] w fun u w'=>u=.returned (.int .u8 (ub s i))∧w=w':=by
 have hc:w.cell? ⟨g,0,none⟩=some (str s):=hg.cell 0
 clear hg
 have hi0:(0:Int)≤(i:Int):=Int.natCast_nonneg _
 by_cases hlt:i<s.length
 ·have hi1:(i:Int)<(s.length:Int):=by omega
  have hx:=za2 s i (by rw [zad];exact hlt)
  have HE:=Hd (show ub s i=(s.getD i 0).toNat from rfl)
  generalize s.getD i 0=c at *
  go_enter func278,ntmps278
  go_wp2
  go_ret
  exact ⟨by rw [HE.out];rfl,rfl⟩
 have hi1:¬(i:Int)<(s.length:Int):=by omega
 have HE:=Hd (show ub s i=0 by unfold ub;rw [List.getD_eq_getElem?_getD,List.getElem?_eq_none (by omega)];rfl)
 go_enter func278,ntmps278
 go_wp2
 go_ret
 exact ⟨by rw [HE.out];rfl,rfl⟩
theorem zr6 (g:Nat) (s:zaa) (i:Nat) (w:World) (hs:s.length≤1000000) (hi:i≤s.length) (hg:Blk w g 263 #[str s]):
 Calls prog 277 #[.pointer (some ⟨g,0,none⟩),.int .i64 i] w fun u w'=>u=.returned (str (zaf s i))∧Below w.heap.size w w':=by
 have hc:w.cell? ⟨g,0,none⟩=some (str s):=hg.cell 0
 have HG:=Hd hg
 clear hg
 have hi0:(0:Int)≤(i:Int):=Int.natCast_nonneg _
 have hi1:(i:Int)≤(s.length:Int):=by omega
 go_enter func277,ntmps277
 go_wp2_with fail
 refine (zpv ⟨s.toArray⟩ i _ (by rw [zad];exact hs) (by rw [zad];exact hi)).mono ?_
 rintro u w1 ⟨rfl,hb1⟩
 rw [show lenB alnB (⟨s.toArray⟩:ByteArray).data.toList i=lenB alnB s i from rfl]
 have hm:=zfj alnB s i
 have HE:=Hd (show zaf s i=((s.drop i).take (lenB alnB s i)).map upU from rfl)
 generalize lenB alnB s i=m at *
 have hc1:w1.cell? ⟨g,0,none⟩=some (str s):=(HG.out.below_ hb1).cell 0
 have HB1:=Hd hb1
 have hm0:(0:Int)≤(m:Int):=by omega
 have hm1:(i:Int)+(m:Int)≤(s.length:Int):=by omega
 have hm2:(i:Int)≤(i:Int)+(m:Int):=by omega
 clear hb1 hm
 go_wp2_with fail
 rw [zcs]
 refine (zd7 _ _ (by simp;omega)).mono ?_
 rintro u w2 ⟨rfl,hb2⟩
 go_wp2
 go_ret
 refine ⟨by rw [HE.out];rfl,Below.next_ HB1.out hb2⟩
def cutB (a b:zaa):zaa:=if b.isPrefixOf a=true then a.drop b.length else a
theorem zmw {a b:zaa} (h:b.isPrefixOf a=true):cutB a b=a.drop b.length:=if_pos h
theorem zw9 {a b:zaa} (h:b.isPrefixOf a=false):cutB a b=a:=if_neg (by rw [h];simp)
theorem zuy (a b:zaa) (_h:b.length≤a.length):b.isPrefixOf a=(a.take b.length==b):=by
 rw [Bool.eq_iff_iff,List.isPrefixOf_iff_prefix,List.prefix_iff_eq_take,beq_iff_eq]
 exact eq_comm
theorem zk7 (a b:zaa) (h:a.length<b.length):b.isPrefixOf a=false:=by
 rw [← Bool.not_eq_true,List.isPrefixOf_iff_prefix]
 intro hp
 have:=hp.length_le
 omega
theorem zhp (a b:zaa) (w:World) (_ha:a.length≤1000000) (hb:b.length≤1000000):
 Calls prog 237 #[str a,str b] w fun u w'=>u=.returned (.bool (b.isPrefixOf a))∧w=w':=by
 by_cases hl:b.length≤a.length
 ·have h1:(b.length:Int)≤(a.length:Int):=by omega
  have h0:(0:Int)≤(b.length:Int):=by omega
  have HE:=Hd (show b.isPrefixOf a=(((⟨a.toArray⟩:ByteArray).extract 0 b.length).toList==b) by rw [zuy a b hl,zls,ByteArray.toList_eq])
  go_enter func237,ntmps237
  go_wp2
  go_ret
  exact ⟨by rw [HE.out];rfl,rfl⟩
 have h1:¬(b.length:Int)≤(a.length:Int):=by omega
 have HE:=Hd (zk7 a b (by omega))
 go_enter func237,ntmps237
 go_wp2
 go_ret
 exact ⟨by rw [HE.out];rfl,rfl⟩
theorem zp1 (a b:zaa) (w:World) (ha:a.length≤1000000) (hb:b.length≤1000000):
 Calls prog 283 #[str a,str b] w fun u w'=>u=.returned (.bool (b.isPrefixOf a))∧w=w':=by
 go_enter func283,ntmps283
 go_wp2_with fail
 refine (zhp a b _ ha hb).mono ?_
 rintro u w1 ⟨rfl,rfl⟩
 go_wp2
 go_ret
 exact ⟨rfl,rfl⟩
theorem zvj (a b:zaa) (w:World) (ha:a.length≤1000000) (hb:b.length≤1000000):
 Calls prog 211 #[str a,str b] w fun u w'=>u=.returned (.tuple #[str (cutB a b),.bool (b.isPrefixOf a)])∧w=w':=by
 go_enter func211,ntmps211
 go_wp2_with fail
 refine (zhp a b _ ha hb).mono ?_
 rintro u w1 ⟨rfl,rfl⟩
 by_cases hp:b.isPrefixOf a=true
 ·have hl:b.length≤a.length:=by
   rcases Nat.lt_or_ge a.length b.length with h | h
   ·rw [zk7 a b h] at hp;cases hp
   exact h
  have h1:(b.length:Int)≤(a.length:Int):=by omega
  have h0:(0:Int)≤(b.length:Int):=by omega
  have HP:=Hd hp
  have HC:=Hd (zmw hp)
  rw [hp]
  clear hp
  go_wp2
  rw [zfx _ _ _ rfl]
  go_ret2
  exact ⟨by rw [HC.out,HP.out];rfl,rfl⟩
 have hp':b.isPrefixOf a=false:=eq_false_of_ne_true hp
 have HP:=Hd hp'
 have HC:=Hd (zw9 hp')
 rw [hp']
 clear hp hp'
 go_wp2
 go_ret2
 exact ⟨by rw [HC.out,HP.out];rfl,rfl⟩
theorem zi5 (a b:zaa) (w:World) (ha:a.length≤1000000) (hb:b.length≤1000000):
 Calls prog 195 #[str a,str b] w fun u w'=>u=.returned (.tuple #[str (cutB a b),.bool (b.isPrefixOf a)])∧w=w':=by
 go_enter func195,ntmps195
 go_wp2_with fail
 refine (zvj a b _ ha hb).mono ?_
 rintro u w1 ⟨rfl,rfl⟩
 by_cases hp:b.isPrefixOf a=true
 ·have HP:=Hd hp
  have HC:=Hd (zmw hp)
  rw [hp]
  clear hp
  rw [HC.out]
  go_wp2
  go_ret2
  exact ⟨by rw [HC.out,HP.out];rfl,rfl⟩
 have hp':b.isPrefixOf a=false:=eq_false_of_ne_true hp
 have HP:=Hd hp'
 have HC:=Hd (zw9 hp')
 rw [hp']
 clear hp hp'
 rw [HC.out]
 go_wp2
 go_ret2
 exact ⟨by rw [HC.out,HP.out];rfl,rfl⟩
theorem dig_at (n:Nat) (h:n<10):(⟨#[48,49,50,51,52,53,54,55,56,57,97,98,99,100,101,102,103,104,105,106,107,108,109,110,111,112,113,114,115,116,117,118,119,120,121,122]⟩:ByteArray).extract n (n+1)=⟨[dig n].toArray⟩:=by
 have e:n=0∨n=1∨n=2∨n=3∨n=4∨n=5∨n=6∨n=7∨n=8∨n=9:=by omega
 rcases e with rfl | rfl | rfl | rfl | rfl | rfl | rfl | rfl | rfl | rfl <;> rfl
theorem zqu (n:Nat) (h:n<10) (w:World):
 Calls prog 233 #[.int .i64 n] w fun u w'=>u=.returned (str [dig n])∧w=w':=by
 have H:=Hd (dig_at n h)
 go_enter func233,ntmps233
 go_wp2
 go_ret
 exact ⟨by rw [H.out];rfl,rfl⟩
theorem zpz (n:Nat) (h:n<10) (w:World):
 Calls prog 129 #[.int .i64 n] w fun u w'=>u=.returned (str [dig n])∧w=w':=by
 go_enter func129,ntmps129
 go_wp2_with (first | (go_at_call 233;refine (zqu n h _).mono ?_;rintro e w1 ⟨rfl,rfl⟩) | go_in)
 go_ret
 exact ⟨rfl,rfl⟩
end Go.Proofs.YtamcgggmfghljaaGreatDoor
