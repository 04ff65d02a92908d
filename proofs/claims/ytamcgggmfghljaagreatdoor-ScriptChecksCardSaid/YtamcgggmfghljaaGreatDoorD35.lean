/- Layer 9 (program): Formula, walked. -/
import Derived.Test.YtamcgggmfghljaaGreatDoorD28
import Derived.Test.YtamcgggmfghljaaGreatDoorD34
set_option maxRecDepth 100000
set_option maxHeartbeats 8000000
open Go.Proofs.Tryz
namespace Go.Proofs.YtamcgggmfghljaaGreatDoor
open Go.RowKit
theorem zg8 (s:zaa):∀(f i:Nat) (l:List Tok),zd1 s f i=some l→l.length≤s.length-i
 | 0,i,l,h=>by simp [zd1] at h
 | f+1,i,l,h=>by
  unfold zd1 at h
  split at h
  ·cases h;simp
  split at h
  ·have:=zg8 s f _ l h;omega
  split at h
  ·cases h
  obtain ⟨l2,h2,rfl⟩:=Option.map_eq_some_iff.1 h
  have:=zg8 s f _ l2 h2
  rw [List.length_cons]
  omega
theorem zm4 (s:zaa):(zae s).1.length≤256:=by
 unfold zae
 split
 ·simp
 split
 ·simp
 split
 ·simp
 rename_i l hl
 have:=zg8 s _ _ l hl
 simp only
 omega
theorem Sls.chgOwn {α:Type} {c:α→List Value} {S:Nat→Prop} {w w':World} {B:Nat} {v:Value} {l:List α} (h:Sls c w B v l) (hb:Chg S w w') (hB:B≤w.heap.size) (hs:∀q,v.ownBlock=some q→¬S q):Sls c w' B v l:=by
 obtain ⟨A,cap,rfl,h1,hm,h2⟩:=h
 refine ⟨A,cap,rfl,h1,hm,fun hn=>?_⟩
 obtain ⟨b,o,rfl,hlt,hr⟩:=h2 hn
 exact ⟨b,o,rfl,hlt,zrc hr hb (Nat.lt_of_lt_of_le hlt hB) (hs b rfl)⟩
theorem zsj {s:zaa} (h:¬(zae s).2≠0):zaq s=match parS s.length (10*(zae s).1.length+20) (.level 1) ((zae s).1,[]) with
 | .error e=>([],e.2)
 | .ok st=>if st.1≠ [] then ([],4) else if zbx st.2≠0 then ([],zbx st.2) else (st.2,0):=by
 unfold zaq
 rw [if_neg h]
 cases parS s.length (10*(zae s).1.length+20) (.level 1) ((zae s).1,[]) <;> rfl
theorem zn1 {s:zaa} (h:(zae s).2≠0):zaq s=([],(zae s).2):=by unfold zaq;rw [if_pos h]
theorem zmo (s:zaa) (w:World) (hs:s.length≤1000000) (hw:Words w):
 Calls prog 197 #[str s] w fun u w'=>∃v,∃p:Int,u=.returned (.tuple #[v,.int .i64 p,.int .i64 (zaq s).2])∧Sls cNod w' w'.heap.size v (zaq s).1∧Below w.heap.size w w':=by
 have hmf:∀(fn:Fn) (first cap:Array Value) (w:World),(Instr.makeFunc fn first cap).run prog w=.ok (.func fn first cap) w:=fun _ _ _ _=>rfl
 have HW:=Hd hw
 clear hw
 have HB0:=Hd (show Below w.heap.size w (((w.alloc (.cells #[.slice none 0 0] 190)).alloc (.cells #[.int .i64 0] 3)).alloc (.cells #[.int .i64 0] 35)) from by go_grown)
 have K0:=Hd (((Blk.new w 190 #[.slice none 0 0]).alloc (.cells #[.int .i64 0] 3)).alloc (.cells #[.int .i64 0] 35))
 have K1:=Hd (show Blk (((w.alloc (.cells #[.slice none 0 0] 190)).alloc (.cells #[.int .i64 0] 3)).alloc (.cells #[.int .i64 0] 35)) (w.heap.size+1) 3 #[.int .i64 0] by
  have:=(Blk.new (w.alloc (.cells #[.slice none 0 0] 190)) 3 #[.int .i64 0]).alloc (.cells #[.int .i64 0] 35)
  simpa using this)
 have K2:=Hd (show Blk (((w.alloc (.cells #[.slice none 0 0] 190)).alloc (.cells #[.int .i64 0] 3)).alloc (.cells #[.int .i64 0] 35)) (w.heap.size+1+1) 35 #[.int .i64 0] by
  have:=Blk.new ((w.alloc (.cells #[.slice none 0 0] 190)).alloc (.cells #[.int .i64 0] 3)) 35 #[.int .i64 0]
  simpa using this)
 go_enter_defers func197,ntmps197
 go_upto_region 1 with (fail)
 obtain ⟨W0,hW0⟩:∃W0,(((w.alloc (.cells #[.slice none 0 0] 190)).alloc (.cells #[.int .i64 0] 3)).alloc (.cells #[.int .i64 0] 35))=W0:=⟨_,rfl⟩
 have HZ0:=Hd (show (((w.alloc (.cells #[.slice none 0 0] 190)).alloc (.cells #[.int .i64 0] 3)).alloc (.cells #[.int .i64 0] 35)).heap.size=w.heap.size+1+1+1 by simp)
 rw [hW0] at HB0 K0 K1 K2 HZ0 ⊢
 clear hW0
 go_wp2_with fail
 refine (zpr s _ hs (HW.out.below HB0.out)).mono ?_
 rintro u w1 ⟨tv,tp,rfl,hsl,hb1,htq⟩
 have HTQ:=Hd htq
 clear htq
 obtain ⟨TA,tcap,rfl, -⟩:=id hsl
 have HT1:=Hd hsl
 have HB1:=Hd (Below.next HB0.out hb1 HB0.out.size)
 have L0:=Hd (K0.out.below_ hb1)
 have L1:=Hd (K1.out.below_ hb1)
 have L2:=Hd (K2.out.below_ hb1)
 clear hsl hb1 K0 K1 K2
 have c1:w1.cell? ⟨w.heap.size+1,0,none⟩=some (.int .i64 0):=L1.out.cell 0
 have c2:w1.cell? ⟨w.heap.size+1+1,0,none⟩=some (.int .i64 0):=L2.out.cell 0
 have f1:w1.frozen? ⟨w.heap.size+1,0,none⟩=false:=L1.out.frozen 0
 have f2:w1.frozen? ⟨w.heap.size+1+1,0,none⟩=false:=L2.out.frozen 0
 go_upto_region 2 with (fail)
 have M0:=Hd ((L0.out.far (p:=⟨w.heap.size+1,0,none⟩) (by show w.heap.size≠w.heap.size+1;omega) (.int .i64 tp)).far (p:=⟨w.heap.size+1+1,0,none⟩) (by show w.heap.size≠w.heap.size+1+1;omega) (.int .i64 (zae s).2))
 have M1:=Hd (show Blk ((w1.setCell ⟨w.heap.size+1,0,none⟩ (.int .i64 tp)).setCell ⟨w.heap.size+1+1,0,none⟩ (.int .i64 (zae s).2)) (w.heap.size+1) 3 #[.int .i64 tp] from (L1.out.set_ 0 (.int .i64 tp)).far (p:=⟨w.heap.size+1+1,0,none⟩) (by show w.heap.size+1≠w.heap.size+1+1;omega) (.int .i64 (zae s).2))
 have M2:=Hd (show Blk ((w1.setCell ⟨w.heap.size+1,0,none⟩ (.int .i64 tp)).setCell ⟨w.heap.size+1+1,0,none⟩ (.int .i64 (zae s).2)) (w.heap.size+1+1) 35 #[.int .i64 (zae s).2] from (L2.out.far (p:=⟨w.heap.size+1,0,none⟩) (by show w.heap.size+1+1≠w.heap.size+1;omega) (.int .i64 tp)).set_ 0 (.int .i64 (zae s).2))
 have HC2:=Hd (((Chg.refl (fun k=>k=w.heap.size+1∨k=w.heap.size+1+1) w1).setCell (p:=⟨w.heap.size+1,0,none⟩) (.inl (.inl rfl)) (.int .i64 tp)).setCell (p:=⟨w.heap.size+1+1,0,none⟩) (.inl (.inr rfl)) (.int .i64 (zae s).2))
 have HB2:=Hd (HB1.out.trans (HC2.out.to_below (B:=w.heap.size) HB1.out.size (fun k hk e=>by omega)))
 obtain ⟨W2,hW2⟩:∃W2,(w1.setCell ⟨w.heap.size+1,0,none⟩ (.int .i64 tp)).setCell ⟨w.heap.size+1+1,0,none⟩ (.int .i64 (zae s).2)=W2:=⟨_,rfl⟩
 rw [hW2] at M0 M1 M2 HC2 HB2 ⊢
 clear hW2 c1 c2 f1 f2 L0 L1 L2
 have d0:W2.cell? ⟨w.heap.size,0,none⟩=some (.slice none 0 0):=M0.out.cell 0
 have d1:W2.cell? ⟨w.heap.size+1,0,none⟩=some (.int .i64 tp):=M1.out.cell 0
 have d2:W2.cell? ⟨w.heap.size+1+1,0,none⟩=some (.int .i64 (zae s).2):=M2.out.cell 0
 have e0:W2.frozen? ⟨w.heap.size,0,none⟩=false:=M0.out.frozen 0
 have e1:W2.frozen? ⟨w.heap.size+1,0,none⟩=false:=M1.out.frozen 0
 have e2:W2.frozen? ⟨w.heap.size+1+1,0,none⟩=false:=M2.out.frozen 0
 by_cases hte:(zae s).2≠0
 ·have HE:=Hd (zn1 hte)
  have bt:((zae s).2 != 0)=true:=by simpa using hte
  generalize (zae s).2=te at *
  clear hte
  have N0:=Hd ((((M0.out.set_ 0 (.slice none 0 0)).far (p:=⟨w.heap.size+1,0,none⟩) (by show w.heap.size≠w.heap.size+1;omega) (.int .i64 tp)).far (p:=⟨w.heap.size+1+1,0,none⟩) (by show w.heap.size≠w.heap.size+1+1;omega) (.int .i64 te)).drew)
  have N1:=Hd ((((M1.out.far (p:=⟨w.heap.size,0,none⟩) (by show w.heap.size+1≠w.heap.size;omega) (.slice none 0 0)).set_ 0 (.int .i64 tp)).far (p:=⟨w.heap.size+1+1,0,none⟩) (by show w.heap.size+1≠w.heap.size+1+1;omega) (.int .i64 te)).drew)
  have N2:=Hd ((((M2.out.far (p:=⟨w.heap.size,0,none⟩) (by show w.heap.size+1+1≠w.heap.size;omega) (.slice none 0 0)).far (p:=⟨w.heap.size+1,0,none⟩) (by show w.heap.size+1+1≠w.heap.size+1;omega) (.int .i64 tp)).set_ 0 (.int .i64 te)).drew)
  have HB3:=Hd (show Below w.heap.size w (((W2.setCell ⟨w.heap.size,0,none⟩ (.slice none 0 0)).setCell ⟨w.heap.size+1,0,none⟩ (.int .i64 tp)).setCell ⟨w.heap.size+1+1,0,none⟩ (.int .i64 te)).drew from (Below.setCell (Below.setCell (Below.setCell HB2.out (Nat.le_refl _) _) (Nat.le_succ _) _) (by show w.heap.size≤w.heap.size+1+1;omega) _).drew)
  go_wp2_with fail
  go_region
  all_goals
   go_wp2
   obtain ⟨W3,hW3⟩:∃W3,(((W2.setCell ⟨w.heap.size,0,none⟩ (.slice none 0 0)).setCell ⟨w.heap.size+1,0,none⟩ (.int .i64 tp)).setCell ⟨w.heap.size+1+1,0,none⟩ (.int .i64 te)).drew=W3:=⟨_,rfl⟩
   rw [hW3] at N0 N1 N2 HB3 ⊢
   clear hW3
   have z0:W3.cell? ⟨w.heap.size,0,none⟩=some (.slice none 0 0):=N0.out.cell 0
   have z1:W3.cell? ⟨w.heap.size+1,0,none⟩=some (.int .i64 tp):=N1.out.cell 0
   have z2:W3.cell? ⟨w.heap.size+1+1,0,none⟩=some (.int .i64 te):=N2.out.cell 0
   simp only [bodyPostD,Leaves]
   refine ⟨.tuple #[.slice none 0 0,.int .i64 tp,.int .i64 te],by simp [results,results197,go_sem,z0,z1,z2],.slice none 0 0,tp,by rw [HE.out],by rw [HE.out];exact Sls.nil _ _ _ _ _,HB3.out⟩
 have hte0:(zae s).2=0:=Classical.not_not.1 hte
 rw [hte0] at d2 M2
 have HF:=Hd (zsj hte)
 have HTL:=Hd (zm4 s)
 have HTO:=Hd (zqn s)
 clear hte hte0
 have HTP:=Hd (show Sls cTok (W2.alloc (.cells #[.slice TA (zae s).1.length tcap,.int .i64 s.length,.slice none 0 0] 237)) W2.heap.size (.slice TA (zae s).1.length tcap) (zae s).1 from
  ((Sls.chgOwn HT1.out HC2.out (Nat.le_refl _) (fun q hq e=>by have h1:=HTQ.out q hq;have h2:=HZ0.out;omega)).more HC2.out.size).below (by go_grown))
 have HPA:=Hd (show PA (W2.alloc (.cells #[.slice TA (zae s).1.length tcap,.int .i64 s.length,.slice none 0 0] 237)) W2.heap.size s.length (.slice none 0 0) ((zae s).1,[]) from
  ⟨⟨_,Blk.new _ _ _,(HTP.out)⟩,Own.nil _ _ _ _,fun k hk=>by simp [Value.ownBlock] at hk⟩)
 have HN:=Hd (show (((zae s).1,[]):PSt).1.length+(((zae s).1,[]):PSt).2.length≤2000 by have:=HTL.out;simp;omega)
 have HFU:=Hd (show zbd (.level 1) (((zae s).1,[]):PSt).1.length≤10*(zae s).1.length+20 by simp only [zbd];omega)
 have HPO0:=Hd (show POk ((zae s).1,[]) from ⟨HTO.out,fun n hn=>by simp at hn⟩)
 go_wp2_with fail
 refine (zu1 s.length (10*(zae s).1.length+20) W2.heap.size (.slice none 0 0) ((zae s).1,[]) _ HPA.out HN.out HFU.out).mono ?_
 intro u w4 hw
 have HBP:=Hd (show Below w.heap.size w (W2.alloc (.cells #[.slice TA (zae s).1.length tcap,.int .i64 s.length,.slice none 0 0] 237)) from HB2.out.alloc HB2.out.size _)
 have Q0:=Hd (M0.out.alloc (.cells #[.slice TA (zae s).1.length tcap,.int .i64 s.length,.slice none 0 0] 237))
 have Q1:=Hd (M1.out.alloc (.cells #[.slice TA (zae s).1.length tcap,.int .i64 s.length,.slice none 0 0] 237))
 have Q2:=Hd (M2.out.alloc (.cells #[.slice TA (zae s).1.length tcap,.int .i64 s.length,.slice none 0 0] 237))
 have HL2:=Hd (show w.heap.size<W2.heap.size∧w.heap.size+1<W2.heap.size∧w.heap.size+1+1<W2.heap.size from ⟨M0.out.lt,M1.out.lt,M2.out.lt⟩)
 clear d0 d1 d2 e0 e1 e2
 rcases zax hw with ⟨s4,ov4,hr,rfl,ha,ht⟩ | ⟨a,er,hr,rfl,hb⟩
 rotate_left
 ·have HE:=Hd (show zaq s=([],er) by rw [HF.out,hr])
  have R0:=Hd (Q0.out.below hb HL2.out.1)
  have R1:=Hd (Q1.out.below hb HL2.out.2.1)
  have R2:=Hd (Q2.out.below hb HL2.out.2.2)
  have HB4:=Hd (HBP.out.trans (hb.mono HB2.out.size))
  clear hr hw hb
  unfold flt
  go_wp2
  refine leaves_cons (f:=223) (args:=#[.pointer (some ⟨w.heap.size,0,none⟩),.pointer (some ⟨w.heap.size+1,0,none⟩),.pointer (some ⟨w.heap.size+1+1,0,none⟩)]) (by simp) (by simp [go_sem]) ?_
  refine (zhx (w.heap.size) (w.heap.size+1) (w.heap.size+1+1) a er _ _ _ _ [] R0.out R1.out R2.out (by omega) (by omega) (by omega)).mono ?_
  rintro e u' w9 ⟨rfl,rfl,k0,k1,k2,hc⟩
  have z0:w9.cell? ⟨w.heap.size,0,none⟩=some (.slice none 0 0):=k0.cell 0
  have z1:w9.cell? ⟨w.heap.size+1,0,none⟩=some (.int .i64 a):=k1.cell 0
  have z2:w9.cell? ⟨w.heap.size+1+1,0,none⟩=some (.int .i64 er):=k2.cell 0
  have HB9:=Hd (HB4.out.trans (hc.to_below (B:=w.heap.size) HB4.out.size (fun k hk e=>by omega)))
  clear hc k0 k1 k2
  show Leaves _ _ _ _ [] .returning _
  simp only [Leaves]
  refine ⟨.tuple #[.slice none 0 0,.int .i64 a,.int .i64 er],by simp [results,results197,go_sem,z0,z1,z2],.slice none 0 0,a,by rw [HE.out],by rw [HE.out];exact Sls.nil _ _ _ _ _,HB9.out⟩
 have HR4:=Hd hr
 have HPO4:=Hd (zcz _ _ (.level 1) _ _ (show 1≤4 by omega) (fun k e=>by cases e;omega) HPO0.out hr)
 have HPL4:=Hd (za0 _ _ _ _ _ hr)
 have H4:=Hd ha
 have HO4:=Hd (ht.old (Nat.le_of_lt HPA.out.lt) (fun k hk=>by simp [Value.ownBlock] at hk))
 clear hr hw ha ht
 go_wp2_with fail
 refine (zco W2.heap.size s.length ov4 s4 _ H4.out (by have:=HPL4.out;have:=HN.out;omega)).mono ?_
 rintro u w5 ⟨rfl,hb5⟩
 have HHD:Hid ((zak s.length s4).kind≠0↔s4.1≠ []):=Hd ⟨zd3,fun h=>by
  unfold zak
  cases hl:s4.1 with
  | nil=>exact absurd hl h
  | cons t l=>
   have:=HPO4.out.toks t (by rw [hl];simp)
   rw [List.head?_cons,Option.getD_some]
   cases this <;> simp <;> omega⟩
 generalize zak s.length s4=q at HHD ⊢
 have H5:=Hd (H4.out.below (hb5.alloc hb5.size (.cells (cTok q).toArray 239)))
 have HO5:=Hd (HO4.out.trans ((hb5.alloc hb5.size (.cells (cTok q).toArray 239)).mono (by have:=H4.out.lt;omega)))
 have K5:=Hd (Blk.new w5 239 (cTok q).toArray)
 rw [show (cTok q).toArray=#[.int .u8 q.kind,.int .i64 q.num,str q.text,.int .i64 q.rect.c1,.int .i64 q.rect.r1,.int .i64 q.rect.c2,.int .i64 q.rect.r2,.int .i64 q.at_] from rfl] at H5 HO5 K5 ⊢
 have R0:=Hd (Q0.out.below HO5.out HL2.out.1)
 have R1:=Hd (Q1.out.below HO5.out HL2.out.2.1)
 have R2:=Hd (Q2.out.below HO5.out HL2.out.2.2)
 have HB5:=Hd (HBP.out.trans (HO5.out.mono HB2.out.size))
 obtain ⟨g,hg⟩:∃g,w5.heap.size=g:=⟨_,rfl⟩
 rw [hg] at K5
 obtain ⟨W5,hW5⟩:∃W5,w5.alloc (.cells #[.int .u8 q.kind,.int .i64 q.num,str q.text,.int .i64 q.rect.c1,.int .i64 q.rect.r1,.int .i64 q.rect.c2,.int .i64 q.rect.r2,.int .i64 q.at_] 239)=W5:=⟨_,rfl⟩
 rw [hW5] at H5 HO5 K5 R0 R1 R2 HB5
 go_upto_region 9 with (fail)
 clear hW5 hg hb5
 have x0:W5.cell? ⟨g,0,none⟩=some (.int .u8 q.kind):=K5.out.cell 0
 have x7:W5.cell? ⟨g,7,none⟩=some (.int .i64 q.at_):=K5.out.cell 7
 by_cases hk0:q.kind=0
 rotate_left
 ·have bk:(q.kind != 0)=true:=by simpa using hk0
  have HE:=Hd (show zaq s=([],4) by rw [HF.out,HR4.out];simp only;rw [if_pos (HHD.out.1 hk0)])
  clear hk0
  go_wp2_with fail
  refine (zcp _ q.at_ 4 _).mono ?_
  rintro u w6 ⟨rfl,rfl⟩
  unfold flt
  go_wp2
  refine leaves_cons (f:=223) (args:=#[.pointer (some ⟨w.heap.size,0,none⟩),.pointer (some ⟨w.heap.size+1,0,none⟩),.pointer (some ⟨w.heap.size+1+1,0,none⟩)]) (by simp) (by simp [go_sem]) ?_
  refine (zhx (w.heap.size) (w.heap.size+1) (w.heap.size+1+1) q.at_ 4 _ _ _ _ [] R0.out R1.out R2.out (by omega) (by omega) (by omega)).mono ?_
  rintro e u' w9 ⟨rfl,rfl,k0,k1,k2,hc⟩
  have z0:w9.cell? ⟨w.heap.size,0,none⟩=some (.slice none 0 0):=k0.cell 0
  have z1:w9.cell? ⟨w.heap.size+1,0,none⟩=some (.int .i64 q.at_):=k1.cell 0
  have z2:w9.cell? ⟨w.heap.size+1+1,0,none⟩=some (.int .i64 4):=k2.cell 0
  have HB9:=Hd (HB5.out.trans (hc.to_below (B:=w.heap.size) HB5.out.size (fun k hk e=>by omega)))
  clear hc k0 k1 k2
  show Leaves _ _ _ _ [] .returning _
  simp only [Leaves]
  refine ⟨.tuple #[.slice none 0 0,.int .i64 q.at_,.int .i64 4],by simp [results,results197,go_sem,z0,z1,z2],.slice none 0 0,q.at_,by rw [HE.out],by rw [HE.out];exact Sls.nil _ _ _ _ _,HB9.out⟩
 have bk:(q.kind != 0)=false:=by simpa using hk0
 have HNIL:=Hd (show s4.1=[] from Classical.not_not.1 (fun h=>HHD.out.2 h hk0))
 have HF5:=Hd (show zaq s=if zbx s4.2≠0 then ([],zbx s4.2) else (s4.2,0) by rw [HF.out,HR4.out];simp only;rw [if_neg (by rw [HNIL.out];simp)])
 clear hk0
 obtain ⟨lv,hbx, -⟩:=H5.out.bx
 have y2:W5.cell? ⟨W2.heap.size,2,none⟩=some ov4:=hbx.cell 2
 have HS5:=Hd (H5.out.ow.sls (by have:=HPL4.out;have:=HN.out;unfold maxLen;omega))
 obtain ⟨A4,c4,rfl, -⟩:=id HS5.out
 have hfl:s4.2.length≤2000:=by have:=HPL4.out;have:=HN.out;omega
 clear hbx
 go_wp2_with fail
 refine (zoo _ s4.2 _ _ (Nat.le_refl _) HS5.out hfl HPO4.out.nods).mono ?_
 rintro u w6 ⟨rfl,hb6⟩
 have S0:=Hd (R0.out.below_ hb6)
 have S1:=Hd (R1.out.below_ hb6)
 have S2:=Hd (R2.out.below_ hb6)
 have HB6:=Hd (Below.next HB5.out hb6 HB5.out.size)
 have HS6:=Hd (HS5.out.below hb6)
 have y2:w6.cell? ⟨W2.heap.size,2,none⟩=some (.slice A4 s4.2.length c4):=(hb6.cell (p:=⟨W2.heap.size,2,none⟩) H5.out.lt).trans y2
 have HZ6:=Hd hb6.size
 clear hb6 x0 x7
 have d0:w6.cell? ⟨w.heap.size,0,none⟩=some (.slice none 0 0):=S0.out.cell 0
 have d1:w6.cell? ⟨w.heap.size+1,0,none⟩=some (.int .i64 tp):=S1.out.cell 0
 have d2:w6.cell? ⟨w.heap.size+1+1,0,none⟩=some (.int .i64 0):=S2.out.cell 0
 have e0:w6.frozen? ⟨w.heap.size,0,none⟩=false:=S0.out.frozen 0
 have e1:w6.frozen? ⟨w.heap.size+1,0,none⟩=false:=S1.out.frozen 0
 have e2:w6.frozen? ⟨w.heap.size+1+1,0,none⟩=false:=S2.out.frozen 0
 by_cases ht0:zbx s4.2=0
 ·have HE:=Hd (HF5.out.trans (if_neg (by simpa using ht0)))
  have bt:(zbx s4.2 != 0)=false:=by simpa using ht0
  clear ht0
  have N0:=Hd (((S0.out.set_ 0 (.slice A4 s4.2.length c4)).far (p:=⟨w.heap.size+1,0,none⟩) (by show w.heap.size≠w.heap.size+1;omega) (.int .i64 0)).far (p:=⟨w.heap.size+1+1,0,none⟩) (by show w.heap.size≠w.heap.size+1+1;omega) (.int .i64 0))
  have N1:=Hd (((S1.out.far (p:=⟨w.heap.size,0,none⟩) (by show w.heap.size+1≠w.heap.size;omega) (.slice A4 s4.2.length c4)).set_ 0 (.int .i64 0)).far (p:=⟨w.heap.size+1+1,0,none⟩) (by show w.heap.size+1≠w.heap.size+1+1;omega) (.int .i64 0))
  have N2:=Hd (((S2.out.far (p:=⟨w.heap.size,0,none⟩) (by show w.heap.size+1+1≠w.heap.size;omega) (.slice A4 s4.2.length c4)).far (p:=⟨w.heap.size+1,0,none⟩) (by show w.heap.size+1+1≠w.heap.size+1;omega) (.int .i64 0)).set_ 0 (.int .i64 0))
  have HC7:=Hd ((((Chg.refl (fun k=>k=w.heap.size∨k=w.heap.size+1∨k=w.heap.size+1+1) w6).setCell (p:=⟨w.heap.size,0,none⟩) (.inl (.inl rfl)) (.slice A4 s4.2.length c4)).setCell (p:=⟨w.heap.size+1,0,none⟩) (.inl (.inr (.inl rfl))) (.int .i64 0)).setCell (p:=⟨w.heap.size+1+1,0,none⟩) (.inl (.inr (.inr rfl))) (.int .i64 0))
  have HB7:=Hd (HB6.out.trans (HC7.out.to_below (B:=w.heap.size) HB6.out.size (fun k hk e=>by omega)))
  go_wp2
  obtain ⟨W7,hW7⟩:∃W7,((w6.setCell ⟨w.heap.size,0,none⟩ (.slice A4 s4.2.length c4)).setCell ⟨w.heap.size+1,0,none⟩ (.int .i64 0)).setCell ⟨w.heap.size+1+1,0,none⟩ (.int .i64 0)=W7:=⟨_,rfl⟩
  rw [hW7] at N0 N1 N2 HC7 HB7 ⊢
  clear hW7
  have z0:W7.cell? ⟨w.heap.size,0,none⟩=some (.slice A4 s4.2.length c4):=N0.out.cell 0
  have z1:W7.cell? ⟨w.heap.size+1,0,none⟩=some (.int .i64 0):=N1.out.cell 0
  have z2:W7.cell? ⟨w.heap.size+1+1,0,none⟩=some (.int .i64 0):=N2.out.cell 0
  refine leaves_cons (f:=223) (args:=#[.pointer (some ⟨w.heap.size,0,none⟩),.pointer (some ⟨w.heap.size+1,0,none⟩),.pointer (some ⟨w.heap.size+1+1,0,none⟩)]) (by simp) (by simp [go_sem]) ?_
  refine (zlm _ _ _ _).mono ?_
  rintro e u' w9 ⟨rfl,rfl,rfl⟩
  show Leaves _ _ _ _ [] .returning _
  simp only [Leaves]
  have HSL:=Hd ((Sls.chgOwn HS6.out HC7.out HZ6.out (fun q hq e=>by have h1:=H5.out.ob q hq;have h2:=HL2.out;omega)).more (Nat.le_trans HZ6.out HC7.out.size))
  refine ⟨.tuple #[.slice A4 s4.2.length c4,.int .i64 0,.int .i64 0],by simp [results,results197,go_sem,z0,z1,z2],.slice A4 s4.2.length c4,0,by rw [HE.out],by rw [HE.out];exact HSL.out,HB7.out⟩
 have HE:=Hd (HF5.out.trans (if_pos ht0))
 have bt:(zbx s4.2 != 0)=true:=by simpa using ht0
 generalize zbx s4.2=te at *
 clear ht0
 have N0:=Hd (((S0.out.set_ 0 (.slice none 0 0)).far (p:=⟨w.heap.size+1,0,none⟩) (by show w.heap.size≠w.heap.size+1;omega) (.int .i64 0)).far (p:=⟨w.heap.size+1+1,0,none⟩) (by show w.heap.size≠w.heap.size+1+1;omega) (.int .i64 te))
 have N1:=Hd (((S1.out.far (p:=⟨w.heap.size,0,none⟩) (by show w.heap.size+1≠w.heap.size;omega) (.slice none 0 0)).set_ 0 (.int .i64 0)).far (p:=⟨w.heap.size+1+1,0,none⟩) (by show w.heap.size+1≠w.heap.size+1+1;omega) (.int .i64 te))
 have N2:=Hd (((S2.out.far (p:=⟨w.heap.size,0,none⟩) (by show w.heap.size+1+1≠w.heap.size;omega) (.slice none 0 0)).far (p:=⟨w.heap.size+1,0,none⟩) (by show w.heap.size+1+1≠w.heap.size+1;omega) (.int .i64 0)).set_ 0 (.int .i64 te))
 have HC7:=Hd ((((Chg.refl (fun k=>k=w.heap.size∨k=w.heap.size+1∨k=w.heap.size+1+1) w6).setCell (p:=⟨w.heap.size,0,none⟩) (.inl (.inl rfl)) (.slice none 0 0)).setCell (p:=⟨w.heap.size+1,0,none⟩) (.inl (.inr (.inl rfl))) (.int .i64 0)).setCell (p:=⟨w.heap.size+1+1,0,none⟩) (.inl (.inr (.inr rfl))) (.int .i64 te))
 have HB7:=Hd (HB6.out.trans (HC7.out.to_below (B:=w.heap.size) HB6.out.size (fun k hk e=>by omega)))
 go_wp2
 obtain ⟨W7,hW7⟩:∃W7,((w6.setCell ⟨w.heap.size,0,none⟩ (.slice none 0 0)).setCell ⟨w.heap.size+1,0,none⟩ (.int .i64 0)).setCell ⟨w.heap.size+1+1,0,none⟩ (.int .i64 te)=W7:=⟨_,rfl⟩
 rw [hW7] at N0 N1 N2 HC7 HB7 ⊢
 clear hW7
 have z0:W7.cell? ⟨w.heap.size,0,none⟩=some (.slice none 0 0):=N0.out.cell 0
 have z1:W7.cell? ⟨w.heap.size+1,0,none⟩=some (.int .i64 0):=N1.out.cell 0
 have z2:W7.cell? ⟨w.heap.size+1+1,0,none⟩=some (.int .i64 te):=N2.out.cell 0
 refine leaves_cons (f:=223) (args:=#[.pointer (some ⟨w.heap.size,0,none⟩),.pointer (some ⟨w.heap.size+1,0,none⟩),.pointer (some ⟨w.heap.size+1+1,0,none⟩)]) (by simp) (by simp [go_sem]) ?_
 refine (zlm _ _ _ _).mono ?_
 rintro e u' w9 ⟨rfl,rfl,rfl⟩
 show Leaves _ _ _ _ [] .returning _
 simp only [Leaves]
 refine ⟨.tuple #[.slice none 0 0,.int .i64 0,.int .i64 te],by simp [results,results197,go_sem,z0,z1,z2],.slice none 0 0,0,by rw [HE.out],by rw [HE.out];exact Sls.nil _ _ _ _ _,HB7.out⟩
theorem zq8 (s:zaa) (i:Nat) (w:World) (hs:s.length≤1000) (hi:i<s.length):
 Calls prog 295 #[str s,.int .i64 i] w fun u w'=>TokR i (zkq s i) u∧Below w.heap.size w w':=by
 have hi0:(0:Int)≤(i:Int):=Int.natCast_nonneg _
 have hi1:(i:Int)<(s.length:Int):=by omega
 have HDG:=Hd (zet s i)
 have HLT:=Hd (zes s i)
 have HNU:=Hd (fun w=>zo0 s i w hs (by omega))
 have HTX:=Hd (fun w=>zui s i w hs hi)
 have HWD:=Hd (fun w=>zuh s i w hs hi)
 have HSG:=Hd (fun w=>zuj s i w hs hi)
 have HT0:=Hd (show zkq s i=if digB (s.getD i 0) then zgn s i else if ub s i=34 then zeq s i else if letB (s.getD i 0) then zbj s i else zpx s i from rfl)
 have HLN:=Hd (show digB (s.getD i 0)=true→0<lenB digB s i from fun h=>by
  rw [zda digB s i hi,if_pos h]
  omega)
 have hx:=za2 s i (by rw [zad];exact hi)
 have HU:=Hd (fun c (h:s.getD i 0=c)=>zkl s i h)
 generalize s.getD i 0=c at *
 have hu:=HU.out c rfl
 clear HU
 have KZ:=Hd (show TokZ (w.alloc (.cells #[.int .u8 0,.int .i64 0,.string ⟨#[]⟩,.int .i64 0,.int .i64 0,.int .i64 0,.int .i64 0,.int .i64 0] 239)) w.heap.size from Blk.new w _ _)
 have HB0:=Hd (show Below w.heap.size w (w.alloc (.cells #[.int .u8 0,.int .i64 0,.string ⟨#[]⟩,.int .i64 0,.int .i64 0,.int .i64 0,.int .i64 0,.int .i64 0] 239)) by go_grown)
 rw [hu] at HT0
 clear hu
 obtain ⟨dg,hdg⟩:∃z,digB c=z:=⟨_,rfl⟩
 obtain ⟨lt,hlt⟩:∃z,letB c=z:=⟨_,rfl⟩
 rw [hdg] at HT0 HDG HLN
 rw [hlt] at HT0 HLT HWD
 clear hdg hlt
 cases dg with
 | true=>
  have HT:=Hd (HT0.out.trans (if_pos rfl))
  clear HT0 hx
  go_enter func295,ntmps295
  go_wp2_with fail
  refine (HDG.out _).mono ?_
  rintro u w1 ⟨rfl,rfl⟩
  go_wp2_with fail
  refine (HNU.out _ (HLN.out (by first | rfl | trivial))).mono ?_
  rintro u w9 ⟨hr,hb9⟩
  obtain ⟨⟨kd,nm,tx,⟨ca,cb,cc,cd⟩,ta⟩,n,ok,rfl,hok,ht⟩:=hr
  have HR:=Hd (show TokR i (zkq s i) (.returned (.tuple #[.agg (cTok ⟨kd,nm,tx,⟨ca,cb,cc,cd⟩,ta⟩).toArray,.int .i64 n,.bool ok])) from ⟨_,n,ok,rfl,by rw [HT.out];exact hok,by rw [HT.out];exact ht⟩)
  have Z9:=Hd (show TokZ w9 w.heap.size from Blk.below_ KZ.out hb9)
  have HB9:=Hd (Below.next HB0.out hb9 (HB0.out).size)
  clear hb9 hok ht HT
  obtain ⟨q0,q1,q2,q3,q4,q5,q6,q7,qf⟩:=zac Z9.out
  dsimp only [cTok,List.toArray]
  go_wp2
  refine bodyPost_ret (v:=.tuple #[.agg (cTok ⟨kd,nm,tx,⟨ca,cb,cc,cd⟩,ta⟩).toArray,.int .i64 n,.bool ok]) (by simp (maxDischargeDepth:=9) [results,results295,go_sem,q0,q1,q2,q3,q4,q5,q6,q7,cTok]) rfl ?_
  exact ⟨HR.out,zal HB9.out (Nat.le_refl _) _ _ _ _ _ _ _ _⟩
 | false=>
  have HT1:=Hd (HT0.out.trans (if_neg (by decide)))
  clear HT0
  by_cases h34:c.toNat=34
  ·have t34:=zf0 c 34 h34
   have HT:=Hd (HT1.out.trans (if_pos h34))
   clear HT1 h34
   go_enter func295,ntmps295
   go_wp2_with fail
   refine (HDG.out _).mono ?_
   rintro u w1 ⟨rfl,rfl⟩
   go_wp2_with fail
   refine (HTX.out _).mono ?_
   rintro u w9 ⟨hr,hb9⟩
   obtain ⟨⟨kd,nm,tx,⟨ca,cb,cc,cd⟩,ta⟩,n,ok,rfl,hok,ht⟩:=hr
   have HR:=Hd (show TokR i (zkq s i) (.returned (.tuple #[.agg (cTok ⟨kd,nm,tx,⟨ca,cb,cc,cd⟩,ta⟩).toArray,.int .i64 n,.bool ok])) from ⟨_,n,ok,rfl,by rw [HT.out];exact hok,by rw [HT.out];exact ht⟩)
   have Z9:=Hd (show TokZ w9 w.heap.size from Blk.below_ KZ.out hb9)
   have HB9:=Hd (Below.next HB0.out hb9 (HB0.out).size)
   clear hb9 hok ht HT
   obtain ⟨q0,q1,q2,q3,q4,q5,q6,q7,qf⟩:=zac Z9.out
   dsimp only [cTok,List.toArray]
   go_wp2
   refine bodyPost_ret (v:=.tuple #[.agg (cTok ⟨kd,nm,tx,⟨ca,cb,cc,cd⟩,ta⟩).toArray,.int .i64 n,.bool ok]) (by simp (maxDischargeDepth:=9) [results,results295,go_sem,q0,q1,q2,q3,q4,q5,q6,q7,cTok]) rfl ?_
   exact ⟨HR.out,zal HB9.out (Nat.le_refl _) _ _ _ _ _ _ _ _⟩
  have t34:((c.toNat:Int)==34)=false:=by simp only [beq_eq_false_iff_ne,ne_eq];omega
  have HT2:=Hd (HT1.out.trans (if_neg h34))
  clear HT1 h34
  cases lt with
  | true=>
   have HT:=Hd (HT2.out.trans (if_pos rfl))
   clear HT2
   go_enter func295,ntmps295
   go_wp2_with fail
   refine (HDG.out _).mono ?_
   rintro u w1 ⟨rfl,rfl⟩
   go_wp2_with fail
   refine (HLT.out _).mono ?_
   rintro u w1 ⟨rfl,rfl⟩
   go_wp2_with fail
   refine (HWD.out _ (by first | rfl | trivial)).mono ?_
   rintro u w9 ⟨hr,hb9⟩
   obtain ⟨⟨kd,nm,tx,⟨ca,cb,cc,cd⟩,ta⟩,n,ok,rfl,hok,ht⟩:=hr
   have HR:=Hd (show TokR i (zkq s i) (.returned (.tuple #[.agg (cTok ⟨kd,nm,tx,⟨ca,cb,cc,cd⟩,ta⟩).toArray,.int .i64 n,.bool ok])) from ⟨_,n,ok,rfl,by rw [HT.out];exact hok,by rw [HT.out];exact ht⟩)
   have Z9:=Hd (show TokZ w9 w.heap.size from Blk.below_ KZ.out hb9)
   have HB9:=Hd (Below.next HB0.out hb9 (HB0.out).size)
   clear hb9 hok ht HT
   obtain ⟨q0,q1,q2,q3,q4,q5,q6,q7,qf⟩:=zac Z9.out
   dsimp only [cTok,List.toArray]
   go_wp2
   refine bodyPost_ret (v:=.tuple #[.agg (cTok ⟨kd,nm,tx,⟨ca,cb,cc,cd⟩,ta⟩).toArray,.int .i64 n,.bool ok]) (by simp (maxDischargeDepth:=9) [results,results295,go_sem,q0,q1,q2,q3,q4,q5,q6,q7,cTok]) rfl ?_
   exact ⟨HR.out,zal HB9.out (Nat.le_refl _) _ _ _ _ _ _ _ _⟩
  | false=>
   have HT:=Hd (HT2.out.trans (if_neg (by decide)))
   clear HT2
   go_enter func295,ntmps295
   go_wp2_with fail
   refine (HDG.out _).mono ?_
   rintro u w1 ⟨rfl,rfl⟩
   go_wp2_with fail
   refine (HLT.out _).mono ?_
   rintro u w1 ⟨rfl,rfl⟩
   go_wp2_with fail
   refine (HSG.out _).mono ?_
   rintro u w9 ⟨hr,hb9⟩
   obtain ⟨⟨kd,nm,tx,⟨ca,cb,cc,cd⟩,ta⟩,n,ok,rfl,hok,ht⟩:=hr
   have HR:=Hd (show TokR i (zkq s i) (.returned (.tuple #[.agg (cTok ⟨kd,nm,tx,⟨ca,cb,cc,cd⟩,ta⟩).toArray,.int .i64 n,.bool ok])) from ⟨_,n,ok,rfl,by rw [HT.out];exact hok,by rw [HT.out];exact ht⟩)
   have Z9:=Hd (show TokZ w9 w.heap.size from Blk.below_ KZ.out hb9)
   have HB9:=Hd (Below.next HB0.out hb9 (HB0.out).size)
   clear hb9 hok ht HT
   obtain ⟨q0,q1,q2,q3,q4,q5,q6,q7,qf⟩:=zac Z9.out
   dsimp only [cTok,List.toArray]
   go_wp2
   refine bodyPost_ret (v:=.tuple #[.agg (cTok ⟨kd,nm,tx,⟨ca,cb,cc,cd⟩,ta⟩).toArray,.int .i64 n,.bool ok]) (by simp (maxDischargeDepth:=9) [results,results295,go_sem,q0,q1,q2,q3,q4,q5,q6,q7,cTok]) rfl ?_
   exact ⟨HR.out,zal HB9.out (Nat.le_refl _) _ _ _ _ _ _ _ _⟩
end Go.Proofs.YtamcgggmfghljaaGreatDoor
