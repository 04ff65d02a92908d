/- ScriptDecodes (louvrelaw41): true for every input; the argument reads as before. -/
import Derived.Test.YtamcgggmfghljaaGreatDoorCards
import Derived.Test.YtamcgggmfghljaaGreatDoorTie
import Derived.ProofKit
import Derived.OpenShut
import Derived.Deep.DeepHandedRow
import Derived.Test.YtamcgggmfghljaaGreatDoorE33
import Derived.Test.YtamcgggmfghljaaGreatDoorE39
import Derived.Test.YtamcgggmfghljaaGreatDoorE41
set_option maxRecDepth 100000
set_option maxHeartbeats 8000000
open Go.Proofs.Tryz
namespace Go.Proofs.YtamcgggmfghljaaGreatDoor
variable {H:Type}
open Go.RowKit
theorem zp1 (s:zaa) (w:World) (hw:Words w) (hsl:s.length<=maxLen):
 Calls prog 7 #[str s] w λu w'=>u=.returned (.bool true)/\Below w w w':=by
 have HW:=Hd hw;have HP:=Hd (λW h=>zt1 s W h hsl);have HR:=Hd (λW=>zsx s W hsl);unfold maxLen at hsl;clear hw;by_cases hm:4000<s.length/\s.length<=65536
 ·obtain ⟨h1,h2⟩:=hm;have h1':(4000:Int)<(s.length:Int):=by omega
  have h2':(s.length:Int)<=65536:=by omega
  go_enter func7,ntmps7;go_wp2_with fail;refine (zwk _ HW.o).mono ?_;rintro u w1 ⟨rfl,hb1⟩;go_wp2_with fail;go_ret;exact ⟨rfl,hb1⟩
 by_cases h1:4000<s.length
 all_goals
  first
   | (have h1':(4000:Int)<(s.length:Int):=by omega
      have h2':¬(s.length:Int)<=65536:=by have:¬s.length<=65536:=λh=>hm ⟨h1,h⟩;omega)
   | have h1':¬(4000:Int)<(s.length:Int):=by omega
  clear hm h1;go_enter func7,ntmps7;go_wp2_with fail;refine (HP.o _ HW.o).mono ?_;rintro u w1 ⟨e,r,g,l,x,o,rfl,hs1,hb1⟩;have HE:=Hd (z3x s);have HR1:=Hd (HR.o);obtain ⟨Q,hQ⟩:=jN (decR s);rw[hQ] at HE hs1 ⊢;obtain ⟨S,c⟩:=Q;clear hQ;simp only at hs1 ⊢;obtain ⟨Ae,ce,rfl, -⟩:=id hs1.book.ents;obtain ⟨Ar,cr,rfl, -⟩:=id hs1.book.ruls;obtain ⟨Ag,cg,rfl, -⟩:=id hs1.book.grts;obtain ⟨Al,cl,rfl, -⟩:=id hs1.book.evts;obtain ⟨Ax,cx,rfl, -⟩:=id hs1.book.rlss;obtain ⟨Ao,co,rfl, -⟩:=id hs1.ops;have H1:=Hd hs1;have K1:=Hd (je w1 31 #[S.book.users,.slice Ae S.book.entries.length ce,.slice Ar S.book.rules.length cr,.slice Ag S.book.grants.length cg,.slice Al S.book.log.length cl,.slice Ax S.book.releases.length cx,S.book.step,.slice Ao S.ops.length co]);have G1:=jM (Below w1 w1 (w1.alloc (.cells #[S.book.users,.slice Ae S.book.entries.length ce,.slice Ar S.book.rules.length cr,.slice Ag S.book.grants.length cg,.slice Al S.book.log.length cl,.slice Ax S.book.releases.length cx,S.book.step,.slice Ao S.ops.length co] 31))) (by go_grown);have B1:=Hd (jd hb1 G1.o hb1.size);clear hs1 hb1;go_wp2_with fail;refine (HR1.o _).mono ?_;rintro u w2 ⟨e2,r2,g2,l2,x2,o2,rfl,hs2,hb2⟩;rw[HE.o] at hs2 ⊢;simp only at hs2 ⊢;obtain ⟨Be,de,rfl, -⟩:=id hs2.book.ents;obtain ⟨Br,dr,rfl, -⟩:=id hs2.book.ruls;obtain ⟨Bg,dg,rfl, -⟩:=id hs2.book.grts;obtain ⟨Bl,dl,rfl, -⟩:=id hs2.book.evts;obtain ⟨Bx,dx,rfl, -⟩:=id hs2.book.rlss;obtain ⟨Bo,do_,rfl, -⟩:=id hs2.ops;have K2:=Hd ((K1.o.below_ hb2).alloc (.cells #[S.book.users,.slice Be S.book.entries.length de,.slice Br S.book.rules.length dr,.slice Bg S.book.grants.length dg,.slice Bl S.book.log.length dl,.slice Bx S.book.releases.length dx,S.book.step,.slice Bo S.ops.length do_] 31));have B2:=Hd ((jd B1.o hb2 B1.o.size).alloc (jd B1.o hb2 B1.o.size).size (.cells #[S.book.users,.slice Be S.book.entries.length de,.slice Br S.book.rules.length dr,.slice Bg S.book.grants.length dg,.slice Bl S.book.log.length dl,.slice Bx S.book.releases.length dx,S.book.step,.slice Bo S.ops.length do_] 31));have G2:=jM (Below w2 w2 (w2.alloc (.cells #[S.book.users,.slice Be S.book.entries.length de,.slice Br S.book.rules.length dr,.slice Bg S.book.grants.length dg,.slice Bl S.book.log.length dl,.slice Bx S.book.releases.length dx,S.book.step,.slice Bo S.ops.length do_] 31))) (by go_grown);have G3:=jM (Below w1 w1 (w2.alloc (.cells #[S.book.users,.slice Be S.book.entries.length de,.slice Br S.book.rules.length dr,.slice Bg S.book.grants.length dg,.slice Bl S.book.log.length dl,.slice Bx S.book.releases.length dx,S.book.step,.slice Bo S.ops.length do_] 31))) (jd (jd G1.o hb2 G1.o.size) G2.o (jd G1.o hb2 G1.o.size).size);have HA:=Hd ((H1.o.below G3.o).upto G3.o.size);have HB:=Hd ((RdScp.below hs2 G2.o).upto G2.o.size);clear hs2 hb2 K1 B1 G1 H1 G2 G3;obtain ⟨y0,y1,y2,y3,y4,y5⟩:=K2.o.c6 0 1 2 3 4 5;obtain ⟨y6,y7⟩:=K2.o.c2 6 7;go_wp2_with fail;refine (zik S S _ _ _ _ _ _ _ _ _ _ _ _ _ _ jy HA.o HB.o).mono ?_;rintro u w3 ⟨rfl,hb3⟩;rw[jB rfl];have B3:=Hd (jd B2.o hb3 B2.o.size);clear hb3 K2 HA HB;go_wp2;go_ret;exact ⟨by simp,B3.o⟩

namespace scriptDecodes
open Go.ChangeShapes Go.WideShapes Go.ChangeAt Go.RowKit
theorem own:ownKnob prog.godebug=none:=by kernel_rfl
theorem z3h:laidOutB prog=true:=facts.laid
theorem zru (H:Type) (enc:TypeId × Value->H) (W:World) (base:Nat) (args:Array Value) (ds gs:List (DataW H)) (before:List MemPlace)
 (hval0:∀(j:Nat) t v,Tryz.f7.params[j]?=some t->args[j]?=some v->Value.okWide prog W .any base t v)
 (hW:DataW.Whole enc prog Tryz.f7.params.toList Rows.scriptDecodesSpec.vars false W args.toList ds gs before)
 (hwt:(DataW.weightsEach prog (Tryz.f7.params.toList++(OpenSpec.ofChange Rows.scriptDecodesSpec).bare.plain.varTypes prog) (ds++gs)).all (·<=reachBytes)=true) (hL:laidMetH prog Rows.scriptDecodesRow.laid W):
 Calls prog 7 args W λe W'=>∃v,e=.returned v/\Rows.scriptDecodesSpec.post enc prog Tryz.f7 false true false false W args v W':=by
 have hval:∀(j:Nat) t v,Tryz.f7.params[j]?=some t->args[j]?=some v->Value.okWide prog W .any base t v:=hval0;have hW':=hW;obtain ⟨p,q,hA0,hV,rfl,hfz,hnd⟩:=hW;have hA:DataW.TrodAll enc prog W 0 (λ_=>true) true Tryz.f7.params.toList args.toList ds p:=hA0;rw[Tryz.params7] at hA hval hwt;obtain ⟨v0,vs0,d0,ds0,p0,q0,hargs,rfl,rfl,h0,r0⟩:=trodAll_cons hA;obtain ⟨rfl,rfl,rfl⟩:=trodAll_nil r0;obtain rfl:args=#[v0]:=by cases args;simp_all
 obtain ⟨rfl,rfl⟩:=trodVars_none hV;have o0:=hval 0 9 v0 rfl rfl;have lt0:∀x∈p0,x.block<W.heap.size:=by obtain ⟨m,hm⟩:=h0;exact DataW.trod_lt m _ _ _ hm
 have HW:Words W:=zr7 hL;clear hA0 hval0 hwt hL;have hcall:Calls prog 7 #[v0] W λe w'=>e=.returned (.bool true)/\Below W W w':=by
  obtain ⟨s,rfl,rfl,rfl,hmax⟩:=Go.ChangeMaps.open_string underlying9 o0 h0;have e:s=⟨s.data.toList.toArray⟩:=by apply ByteArray.ext;simp
  rw[e];exact zp1 s.data.toList W HW (by rw[<- zae,<- e];exact hmax)
 refine hcall.mono λe W' ⟨he,bel⟩=>?_;subst he;exact ⟨_,rfl,_,_,_,[],_,[],hW',trodAll_mk1 (shut_bool underlying4 _),(trodAll_cons_mk (Below.trod z3h (by kernel_rfl) (of_decide_eq_true (by kernel_rfl)) h0 bel lt0) trodAll_mk0),rfl,bel.frame _,λh=>by cases h⟩
noncomputable def zjx (os:Os):World:=
 { World.holding prog os ⟨#[],#[],[]⟩ with heap:=lay4 (World.holding prog os ⟨#[],#[],[]⟩).heap }
theorem laid_met (os:Os):laidMet prog Rows.scriptDecodesRow.laid ((zjx os).forCall (λ_ _=>0) ⟨#[],#[str []],[]⟩).memory:=
 laidMet_of_run' 8 (by kernel_rfl) (by kernel_rfl)
theorem ze1 (os:Os) (enc:TypeId × Value->H):∃places,DataW.whole enc prog ((zjx os).forCall (λ_ _=>0) ⟨#[],#[str []],[]⟩).memory Tryz.f7.params.toList Rows.scriptDecodesSpec.vars false #[str []].toList 8=some ([.lit (.string [])],[],places):=
 ⟨[],by kernel_rfl⟩
theorem lifted (os:Os) (started:os.Started) (H:Type) (enc:TypeId × Value->H) (F:Stop.Interp):
 ReturnsInHanded {} Tryz.checked os 7 .any ((OpenSpec.ofChange Rows.scriptDecodesSpec).preRow enc prog Tryz.f7 Rows.scriptDecodesRow.domain false Rows.scriptDecodesRow.laid) (((OpenSpec.ofChange Rows.scriptDecodesSpec).at F).post enc prog Tryz.f7 false true false false):=by
 obtain ⟨places,hx⟩:=ze1 os enc;refine returnsInHanded_of_row (C:=Tryz.checked) (s:=OpenSpec.ofChange Rows.scriptDecodesSpec) own started (by kernel_rfl) func7
  (witness_row_at (enc:=enc) (C:=Tryz.checked) false (zjx os) #[str []] rfl (by kernel_rfl) (by kernel_rfl) (by kernel_rfl)
    (OpenSpec.preRow_of_cond 8 hx (by kernel_rfl) (λk hk=>by cases hk) (by kernel_rfl) (laid_met os))) ?_
 intro W base args ds gs before hval hW _ _ hwt hL _ _;exact zru H enc W base args ds gs before hval hW hwt hL
theorem said:Rows.ScriptDecodesSaid:=
 OpenClaim.holds_of_cond 7 Tryz.f7 rfl rfl rfl rfl rfl rfl rfl ⟨rfl,rfl,rfl,rfl,rfl⟩ rfl rfl rfl rfl rfl (by kernel_rfl) func7 z1d
  (of_decide_eq_true (by kernel_rfl)) (by unfold Func.isWrapper;first | (rw[jb (by decide+kernel)];kernel_rfl) | (rw[ja (by decide+kernel)];exact ⟨rfl,rfl⟩))
  (λos started H enc _ F=>by rw[OpenClaim.pre_eq_preRow];exact lifted os started H enc F)
theorem plain (f:FuncId) (fn:Func) (hf:Tryz.pinned.checked.prog.funcNamed "louvre/louvrelaw41.ScriptDecodes"=some f) (hfn:Tryz.pinned.checked.prog.funcs[f]?=some fn):
 true=Tryz.pinned.checked.prog.looks []/\∀(j:Nat) t,fn.params[j]?=some t->Tryz.pinned.checked.prog.wantsStandIn t=false:=by
 obtain rfl:f=7:=Option.some.inj ((show prog.funcNamed "louvre/louvrelaw41.ScriptDecodes"=some 7 by kernel_rfl).symm.trans hf) |>.symm
 obtain rfl:fn=Tryz.f7:=(Option.some.inj (func7.symm.trans hfn)).symm;refine ⟨by kernel_rfl,λj t ht=>?_⟩;rw[Tryz.params7] at ht;have hm:=Array.mem_of_getElem? ht;simp at hm;subst hm;exact (show prog.wantsStandIn 9=false by kernel_rfl)
theorem proved:Rows.ScriptDecodesCardSaid:=
 Claim7.holds_tied_plain_at .later [] _ _ _ _ said (λ_ h=>by cases h) (by kernel_rfl) (λ_ h=>by cases h) scriptDecodes_row_tie rfl ⟨rfl,rfl⟩ (by kernel_rfl) rfl plain (by kernel_rfl)
#print axioms proved
end scriptDecodes
end Go.Proofs.YtamcgggmfghljaaGreatDoor
