/- Layer 1 (program): a number read (printed by tools/gen_decp.py). -/
import Derived.Test.YtamcgggmfghljaaGreatDoorD5
set_option maxRecDepth 100000
set_option maxHeartbeats 8000000
open Go.Proofs.Tryz
namespace Go.Proofs.YtamcgggmfghljaaGreatDoor
open Go.RowKit
theorem zls (l:zaa) (k:Nat):(⟨l.toArray⟩:ByteArray).extract 0 k=⟨(l.take k).toArray⟩:=by
 apply ByteArray.ext
 simp
theorem zfx (l:zaa) (k n:Nat) (h:n=l.length):(⟨l.toArray⟩:ByteArray).extract k n=⟨(l.drop k).toArray⟩:=by
 subst h
 apply ByteArray.ext
 simp [List.take_of_length_le]
theorem zr8 (p:UInt8→Bool) (s:zaa):lenB p s 0≤s.length:=by
 unfold lenB
 rw [List.drop_zero]
 induction s with
 | nil=>simp
 | cons c s ih=>
  rw [List.takeWhile_cons]
  split
  ·simpa using ih
  simp
theorem zvv (p:UInt8→Bool) (s:zaa):lenB p s 0=s.length↔s.all p=true:=by
 unfold lenB
 rw [List.drop_zero]
 induction s with
 | nil=>simp
 | cons c s ih=>
  rw [List.takeWhile_cons]
  by_cases h:p c=true
  ·simp only [h,if_true,List.length_cons,List.all_cons,Bool.true_and]
   rw [← ih]
   omega
  simp [h]
theorem tw_all (p:UInt8→Bool) (s:zaa):(s.take (lenB p s 0)).all p=true:=by
 unfold lenB
 rw [List.drop_zero]
 induction s with
 | nil=>simp
 | cons c s ih=>
  rw [List.takeWhile_cons]
  by_cases h:p c=true
  ·simp only [h,if_true,List.length_cons,List.take_succ_cons,List.all_cons,Bool.true_and]
   exact ih
  simp [h]
theorem zhm:∀(l:zaa) (v:Nat) (c:UInt8),natB v (l++ [c])=10*natB v l+(c.toNat-48)
 | [],_,_=>rfl
 | _::l,_,c=>zhm l _ c
theorem zlq (p:zaa):5≤(zgf p).length:=by unfold zgf;simp
theorem zlr (p:zaa) (h:p.all digB=true):(zgf p).all digB=true:=by
 unfold zgf
 rw [List.all_append,h]
 rfl
theorem zm7 {p:UInt8→Bool} {l:zaa} (k:Nat) (h:l.all p=true):(l.take k).all p=true:=by
 rw [List.all_eq_true] at h ⊢
 exact fun x hx=>h x (List.mem_of_mem_take hx)
theorem zeb {s u:zaa} {n:Nat} (hu:unsB s=u) (hn:lenB digB u 0=n) (h:n=0∨zcn (u.drop n)=none):zbc s=(0,4):=by
 unfold zbc
 rw [hu,hn]
 rcases h with h | h
 ·subst h
  cases zcn (u.drop 0) <;> simp
 rw [h]
theorem zis {s u p:zaa} {n:Nat} (hu:unsB s=u) (hn:lenB digB u 0=n) (h:zcn (u.drop n)=some p) (h0:n≠0):
 zbc s=if zci<zhb (u.take n) p then (0,3) else (if negB s then -(zhb (u.take n) p:Int) else zhb (u.take n) p,0):=by
 unfold zbc
 rw [hu,hn,h]
 simp [h0]
theorem zde (x:Int):0≤IntKind.u64.wrap x∧IntKind.u64.wrap x<18446744073709551616:=by rw [IntKind.wrap_u64];omega
def Upto (V:Nat) (x:Int) (g:Bool):Prop:=0≤x∧x<18446744073709551616∧(g=true→zci<V)∧(g=false→x=V∧V≤zci)
theorem Upto.yes {V:Nat} {x:Int} (h:Upto V x true) (d:Nat) (y:Int) (y0:0≤y) (y1:y<18446744073709551616):Upto (10*V+d) y true:=
 ⟨y0,y1,fun _=>by have:=h.2.2.1 rfl;unfold zci at *;omega,fun e=>by cases e⟩
theorem Upto.more {V:Nat} {x:Int} (h:Upto V x false) (d:Nat) (y:Int) (y0:0≤y) (y1:y<18446744073709551616) (hb:922337203685477580<x):Upto (10*V+d) y true:=
 ⟨y0,y1,fun _=>by have:=h.2.2.2 rfl;unfold zci at *;omega,fun e=>by cases e⟩
theorem Upto.no {V:Nat} {x:Int} (h:Upto V x false) (d:Nat) (hd:d≤9) (hb:¬922337203685477580<x):10*x+d<18446744073709551616∧Upto (10*V+d) (10*x+d) (decide (9223372036854775807<10*x+(d:Int))):=by
 obtain ⟨h0,h1,_,h3⟩:=h
 obtain ⟨h3,h4⟩:=h3 rfl
 refine ⟨by omega,by omega,by omega,fun e=>?_,fun e=>?_⟩
 ·have:=of_decide_eq_true e
  unfold zci
  omega
 have:=of_decide_eq_false e
 unfold zci
 omega
theorem ze8 (s:zaa) (w:World) (hs:s.length≤1000000):
 Calls prog 220 #[str s] w fun u w'=>u=.returned (.tuple #[.int .i64 (zbc s).1,.int .i64 (zbc s).2])∧Below w.heap.size w w':=by
 cases s with
 | nil=>
  go_enter func220,ntmps220
  go_wp2_with fail
  refine (ze7 _ _ (by show 0≤_;omega)).mono ?_
  rintro e w1 ⟨rfl,rfl⟩
  rw [show lenB digB (⟨([]:zaa).toArray⟩:ByteArray).data.toList 0=0 from rfl]
  go_wp2_with fail
  go_quiet (fail)
  go_wp2
  go_ret2
  exact ⟨rfl,Below.drewN_ (Below.refl _ _) _⟩
 | cons c t=>
  obtain ⟨S0,hS0⟩:∃S,c::t=S:=⟨_,rfl⟩
  rw [show zbc (c::t)=zbc S0 by rw [hS0]]
  have h0:((⟨(c::t).toArray⟩:ByteArray)[0]'(by show 0<((c::t).toArray).size;simp))=c:=rfl
  by_cases hneg:c=45
  case' pos=>
   subst hneg
   have hul:t.length≤1000000:=by simp at hs;omega
   have HU:=Hd (show unsB S0=t by rw [← hS0];rfl)
   have HNB:=Hd (show negB S0=true by rw [← hS0];rfl)
   clear hS0
   go_enter func220,ntmps220
   go_wp2_with fail
   rw [zfa]
   refine (ze7 _ _ (by rw [zad];omega)).mono ?_
   rintro e w1 ⟨rfl,rfl⟩
   clear h0
   obtain ⟨u,hu⟩:∃u,t=u:=⟨_,rfl⟩
   rw [hu] at HU hul ⊢
   clear hu
  case' neg=>
   have c1:((c.toNat:Int)==45)=false:=by
    simp only [beq_eq_false_iff_ne,ne_eq]
    intro e
    exact hneg (UInt8.toNat_inj.1 (by simpa using (by omega:c.toNat=45)))
   have hnb:negB (c::t)=false:=by simpa [negB] using hneg
   have HU:=Hd (show unsB S0=S0 by rw [← hS0];unfold unsB;rw [hnb];rfl)
   have HNB:=Hd (show negB S0=false by rw [← hS0];exact hnb)
   have HSS:=Hd hS0
   clear hS0
   go_enter func220,ntmps220
   go_wp2_with fail
   refine (ze7 _ _ (by rw [zad];omega)).mono ?_
   rintro e w1 ⟨rfl,rfl⟩
   clear h0 c1 hneg hnb
   obtain ⟨u,hcu⟩:∃u,c::t=u:=⟨_,rfl⟩
   rw [hcu]
   replace HU:=Hd (HU.out.trans (HSS.out.symm.trans hcu))
   have hul:u.length≤1000000:=by rw [← hcu];exact hs
   clear HSS hcu
  all_goals
   have hn1:=zr8 digB u
   obtain ⟨n,hn⟩:∃n,lenB digB u 0=n:=⟨_,rfl⟩
   rw [show lenB digB (⟨u.toArray⟩:ByteArray).data.toList 0=n from hn]
   rw [hn] at hn1
   have HN:=Hd hn
   have htw:=tw_all digB u
   rw [hn] at htw
   clear hn
   have hn2:(0:Int)≤(n:Int):=by omega
   have hn3:(n:Int)≤(u.length:Int):=by omega
   have HTW:=Hd htw
   clear htw
   go_wp2_with fail
   go_quiet (fail)
   rw [zls,zfx _ _ _ rfl]
   obtain ⟨r,hr⟩:∃r,u.drop n=r:=⟨_,rfl⟩
   obtain ⟨wh,hwh⟩:∃r,u.take n=r:=⟨_,rfl⟩
   rw [hr,hwh]
   have hrl:r.length≤u.length:=by rw [← hr];simp
   have hwl:wh.length=n:=by rw [← hwh];simp;omega
   have HR:=Hd hr
   have HWH:=Hd hwh
   have HWD:=Hd (show wh.all digB=true by rw [← hwh];exact HTW.out)
   clear hr hwh
   rcases r with _ | ⟨d,t2⟩
   ·have HPL:=Hd (show zcn (u.drop n)=some [] by rw [HR.out];rfl)
    by_cases hn0:n=0
    ·have HP:=Hd (zeb HU.out HN.out (.inl hn0))
     subst hn0
     go_wp2
     go_ret2
     exact ⟨by rw [HP.out];rfl,Below.drewN_ (Below.refl _ _) _⟩
    obtain ⟨p,hp⟩:∃p:zaa,p=[]:=⟨_,rfl⟩
    rw [← hp] at HPL
    have HPD:=Hd (show p.all digB=true by rw [hp];rfl)
    have hpl:p.length≤u.length:=by rw [hp];simp
    subst hp
    have hn5:((n:Int)==0)=false:=by simpa using hn0
    have HP:=Hd (zis HU.out HN.out HPL.out hn0)
    go_wp2
    rw [show (⟨#[]⟩:ByteArray)++⟨#[48,48,48,48,48]⟩=⟨(zgf []).toArray⟩ from zcx [] [48,48,48,48,48],zls,zcx]
    have hf5:=zlq []
    have hfd:=zlr [] HPD.out
    obtain ⟨f,hf⟩:∃f,zgf []=f:=⟨_,rfl⟩
    rw [hf] at hf5 hfd ⊢
    obtain ⟨L,hL⟩:∃L,wh++f.take 4=L:=⟨_,rfl⟩
    rw [hL]
    have hLd:L.all digB=true:=by rw [← hL,List.all_append,HWD.out,zm7 4 hfd];rfl
    have hLl:L.length≤2000000:=by rw [← hL];simp;omega
    have HF:=Hd hf
    have HL:=Hd hL
    clear hf hL
    obtain ⟨cap,hcap⟩:∃cap,cap=grownCap (w.drewN nq) L.length 0 5:=⟨_,rfl⟩
    have hcv:(convert 9 59 (.string ⟨L.toArray⟩)).run prog (w.drewN nq)=.ok (.slice (some ⟨w.heap.size,0,none⟩) L.length cap) ((w.drewN (nq+1)).alloc (.cells (bytesRow ⟨L.toArray⟩ cap) 5 ((bytesRow ⟨L.toArray⟩ cap).size,(bytesRow ⟨L.toArray⟩ cap).size+1))):=by
     rw [hcap]
     have h:=run_bytes_of_string (P:=prog) (w.drewN nq) 9 59 5 ⟨L.toArray⟩ rfl rfl rfl
     rw [zad] at h
     exact h
    have hrow:∀(j:Nat) (c:UInt8),L[j]?=some c→(bytesRow ⟨L.toArray⟩ cap)[j]?=some (.int .u8 c.toNat):=by
     intro j c hj
     obtain ⟨h1,h2⟩:=List.getElem?_eq_some_iff.1 hj
     have:=bytesRow_at ⟨L.toArray⟩ cap j (by simpa using h1)
     rw [this]
     simp [h2]
    have HROW:=Hd hrow
    generalize bytesRow ⟨L.toArray⟩ cap=row at *
    clear hcap hrow
    have HBW:=Hd (show Below w.heap.size w ((w.drewN (nq+1)).alloc (.cells row 5 (row.size,row.size+1))) from (Below.drewN_ (Below.refl _ _) _).alloc (Nat.le_refl _) _)
    have HC:=Hd (show ∀(j:Nat) (c:UInt8),L[j]?=some c→((w.drewN (nq+1)).alloc (.cells row 5 (row.size,row.size+1))).cell? ⟨w.heap.size,j,none⟩=some (.int .u8 c.toNat) from fun j c hj=>(World.cell?_alloc_mark (w.drewN (nq+1)) row 5 (row.size,row.size+1) j).trans (HROW.out j c hj))
    rw [hcv]
    clear hcv
    go_simp
    go_wp2
    obtain ⟨W1,hW1⟩:∃W1,(w.drewN (nq+1)).alloc (.cells row 5 (row.size,row.size+1))=W1:=⟨_,rfl⟩
    rw [hW1] at HBW HC ⊢
    clear hW1
    go_loopw [9,10,67] (fun v g i wr=>∃(k:Nat) (x:Int) (gb:Bool),k≤L.length∧v=.int .u64 x∧g=.bool gb∧i=.int .i64 k∧Upto (natB 0 (L.take k)) x gb∧W1=wr) (fun _ _ i _=>L.length-(intOf i).toNat)
    case atStart=>exact ⟨0,0,false,by omega,rfl,rfl,rfl,⟨by omega,by omega,(fun e=>by cases e),fun _=>⟨rfl,by unfold zci;exact Nat.zero_le _⟩⟩,rfl⟩
    obtain ⟨k,x,gb,hk,rfl,rfl,rfl,hup,rfl⟩:=hrel
    have x0:0≤x:=hup.1
    have x1:x<18446744073709551616:=hup.2.1
    have HUP:=Hd hup
    clear hup
    by_cases hlt:k<L.length
    ·have hi0:(0:Int)≤(k:Int):=Int.natCast_nonneg _
     have hi1:(k:Int)<(L.length:Int):=by omega
     have hlk:L[k]?=some L[k]:=List.getElem?_eq_getElem hlt
     have hcl:W1.cell? ⟨w.heap.size,k,none⟩=some (.int .u8 (L[k].toNat:Int)):=HC.out k _ hlk
     have hdg:digB L[k]=true:=List.all_eq_true.1 hLd _ (List.getElem_mem hlt)
     have HS:=Hd (show natB 0 (L.take (k+1))=10*natB 0 (L.take k)+(L[k].toNat-48) by rw [List.take_succ_eq_append_getElem hlt];exact zhm _ _ _)
     generalize L[k]=c at *
     have g1:48≤(c.toNat:Int):=by simp [digB] at hdg;omega
     have g2:(c.toNat:Int)≤57:=by simp [digB] at hdg;omega
     obtain ⟨q,hq⟩:∃q:Nat,c.toNat=48+q:=⟨c.toNat-48,by omega⟩
     have HQ:=Hd (show c.toNat-48=q by omega)
     have hq9:(q:Int)≤9:=by omega
     clear hdg hlk
     rw [hq] at hcl
     clear hq g1 g2
     by_cases hbig:922337203685477580<x
     ·cases gb
      ·have HY:=Hd (fun y a b=>HUP.out.more q y a b hbig)
       go_wp2
       exact ⟨⟨k+1,_,true,by omega,rfl,rfl,by go_num,by rw [HS.out,HQ.out];first | exact HY.out _ (by omega) (by omega) | exact HY.out _ (zde _).1 (zde _).2,trivial⟩,by simp [intOf];omega⟩
      have HY:=Hd (fun y a b=>HUP.out.yes q y a b)
      go_wp2
      exact ⟨⟨k+1,_,true,by omega,rfl,rfl,by go_num,by rw [HS.out,HQ.out];first | exact HY.out _ (by omega) (by omega) | exact HY.out _ (zde _).1 (zde _).2,trivial⟩,by simp [intOf];omega⟩
     cases gb
     ·obtain ⟨hlt2,hup2⟩:=HUP.out.no q (by omega) hbig
      have HY:=Hd hup2
      clear hup2
      go_wp2
      exact ⟨⟨k+1,_,_,by omega,rfl,rfl,by go_num,by rw [HS.out,HQ.out,show (48+(q:Int)-48)=q by omega];exact HY.out,trivial⟩,by simp [intOf];omega⟩
     have HY:=Hd (fun y a b=>HUP.out.yes q y a b)
     go_wp2
     exact ⟨⟨k+1,_,true,by omega,rfl,rfl,by go_num,by rw [HS.out,HQ.out];first | exact HY.out _ (by omega) (by omega) | exact HY.out _ (zde _).1 (zde _).2,trivial⟩,by simp [intOf];omega⟩
    have HV:=Hd (show natB 0 (L.take k)=natB 0 L by rw [List.take_of_length_le (by omega)])
    have hf4:(4:Int)<(f.length:Int):=by omega
    have h4:((⟨f.toArray⟩:ByteArray)[4]'(by show 4<f.toArray.size;simp;omega))=f.getD 4 0:=by
     rw [List.getD_eq_getElem?_getD,List.getElem?_eq_getElem (by omega)]
     rfl
    have HZ:=Hd (show zhb (u.take n) []=natB 0 L+if 53≤(f.getD 4 0).toNat then 1 else 0 by unfold zhb ub;rw [HF.out,HWH.out,HL.out])
    have hq:=(f.getD 4 0).toNat_lt
    generalize f.getD 4 0=q at *
    rw [HV.out] at HUP
    have hx:=HUP.out.2.2
    cases gb
    ·obtain ⟨hxv,hxm⟩:=hx.2 rfl
     have HX:=Hd hxv
     unfold zci at hxm
     have hxm2:x≤9223372036854775807:=by omega
     clear hx hxv hxm
     by_cases h53:53≤(q.toNat:Int)
     ·by_cases hm:9223372036854775807<x+1
      ·have HE:=Hd (show zbc S0=(0,3) by
        have hz:=HZ.out
        rw [if_pos (by omega)] at hz
        rw [HP.out,hz,if_pos (by have:=HX.out;unfold zci;omega)])
       go_wp2
       go_ret2
       exact ⟨by rw [HE.out];rfl,HBW.out⟩
      have HE:=Hd (show zbc S0=(if negB S0 then -(x+1) else x+1,0) by
       have hz:=HZ.out
       rw [if_pos (by omega)] at hz
       rw [HP.out,hz,if_neg (by have:=HX.out;unfold zci;omega),HX.out]
       rfl)
      go_wp2_with fail
      refine (zfn (x+1) _ _ (by omega) (by omega)).mono ?_
      rintro e w2 ⟨rfl,rfl⟩
      go_wp2
      go_ret2
      exact ⟨by rw [HE.out,HNB.out];rfl,HBW.out⟩
     have hm:¬9223372036854775807<x:=by omega
     have HE:=Hd (show zbc S0=(if negB S0 then -x else x,0) by
      have hz:=HZ.out
      rw [if_neg (by omega),Nat.add_zero] at hz
      rw [HP.out,hz,if_neg (by have:=HX.out;unfold zci;omega),HX.out])
     go_wp2_with fail
     refine (zfn x _ _ (by omega) (by omega)).mono ?_
     rintro e w2 ⟨rfl,rfl⟩
     go_wp2
     go_ret2
     exact ⟨by rw [HE.out,HNB.out];rfl,HBW.out⟩
    have HX:=Hd (hx.1 rfl)
    have HE:=Hd (show zbc S0=(0,3) by rw [HP.out,HZ.out,if_pos (by have:=HX.out;unfold zci at *;omega)])
    clear hx
    by_cases h53:53≤(q.toNat:Int)
    ·go_wp2
     go_ret2
     exact ⟨by rw [HE.out];rfl,HBW.out⟩
    go_wp2
    go_ret2
    exact ⟨by rw [HE.out];rfl,HBW.out⟩
   by_cases ht2:t2=[]
   ·subst ht2
    have HPN:=Hd (show zcn (u.drop n)=none by rw [HR.out];unfold zcn;dsimp only;rw [if_neg (by simp)])
    have HP:=Hd (zeb HU.out HN.out (.inr HPN.out))
    by_cases hn0:n=0
    ·subst hn0
     go_wp2
     go_ret2
     exact ⟨by rw [HP.out];rfl,Below.drewN_ (Below.refl _ _) _⟩
    have hn5:((n:Int)==0)=false:=by simpa using hn0
    go_wp2
    go_ret2
    exact ⟨by rw [HP.out];rfl,Below.drewN_ (Below.refl _ _) _⟩
   have ht3:0<t2.length:=List.length_pos_iff.2 ht2
   have ht4:(1:Int)<(t2.length:Int)+1:=by omega
   have hr0:((⟨(d::t2).toArray⟩:ByteArray)[0]'(by show 0<((d::t2).toArray).size;simp))=d:=rfl
   by_cases hd:d=46
   rotate_left
   ·have hd5:((d.toNat:Int)==46)=false:=by
     simp only [beq_eq_false_iff_ne,ne_eq]
     intro e
     exact hd (UInt8.toNat_inj.1 (by simpa using (by omega:d.toNat=46)))
    have HPN:=Hd (show zcn (u.drop n)=none by rw [HR.out];unfold zcn;dsimp only;rw [if_neg (by exact fun h=>hd h.1)])
    have HP:=Hd (zeb HU.out HN.out (.inr HPN.out))
    by_cases hn0:n=0
    ·subst hn0
     go_wp2
     go_ret2
     exact ⟨by rw [HP.out];rfl,Below.drewN_ (Below.refl _ _) _⟩
    have hn5:((n:Int)==0)=false:=by simpa using hn0
    go_wp2
    go_ret2
    exact ⟨by rw [HP.out];rfl,Below.drewN_ (Below.refl _ _) _⟩
   subst hd
   have hr5:t2.length≤1000000:=by simp at hrl;omega
   go_wp2_with fail
   rw [zfa]
   refine (ze7 _ _ (by rw [zad];omega)).mono ?_
   rintro e w2 ⟨rfl,rfl⟩
   rw [show lenB digB (⟨t2.toArray⟩:ByteArray).data.toList 0=lenB digB t2 0 from rfl]
   have hall:=zvv digB t2
   obtain ⟨m,hm⟩:∃m,lenB digB t2 0=m:=⟨_,rfl⟩
   rw [hm] at hall ⊢
   clear hm hr0
   by_cases hm:m=t2.length
   rotate_left
   ·have hmb:((m:Int)==(t2.length:Int))=false:=by simp;omega
    have hal:¬t2.all digB=true:=fun h=>hm (hall.2 h)
    clear hall
    have HPN:=Hd (show zcn (u.drop n)=none by rw [HR.out];unfold zcn;dsimp only;rw [if_neg (by exact fun h=>hal h.2.2)])
    have HP:=Hd (zeb HU.out HN.out (.inr HPN.out))
    by_cases hn0:n=0
    ·subst hn0
     go_wp2
     go_ret2
     exact ⟨by rw [HP.out];rfl,Below.drewN_ (Below.refl _ _) _⟩
    have hn5:((n:Int)==0)=false:=by simpa using hn0
    go_wp2
    go_ret2
    exact ⟨by rw [HP.out];rfl,Below.drewN_ (Below.refl _ _) _⟩
   have hal:t2.all digB=true:=hall.1 hm
   subst hm
   have HAL:=Hd hal
   clear hall hal
   have hmb:((t2.length:Int)==(t2.length:Int))=true:=by simp
   have HPL:=Hd (show zcn (u.drop n)=some t2 by rw [HR.out];unfold zcn;dsimp only;rw [if_pos ⟨rfl,ht2,HAL.out⟩])
   clear ht2
   by_cases hn0:n=0
   ·have HP:=Hd (zeb HU.out HN.out (.inl hn0))
    subst hn0
    go_wp2
    go_ret2
    exact ⟨by rw [HP.out];rfl,Below.drewN_ (Below.refl _ _) _⟩
   obtain ⟨p,hp⟩:∃p:zaa,p=t2:=⟨_,rfl⟩
   have HPD:=HAL
   have hpl:t2.length≤u.length:=by simp at hrl;omega
   clear hp p
   have hn5:((n:Int)==0)=false:=by simpa using hn0
   have HP:=Hd (zis HU.out HN.out HPL.out hn0)
   go_wp2
   rw [zfa]
   rw [show (⟨t2.toArray⟩:ByteArray)++⟨#[48,48,48,48,48]⟩=⟨(zgf t2).toArray⟩ from zcx t2 [48,48,48,48,48],zls,zcx]
   have hf5:=zlq t2
   have hfd:=zlr t2 HPD.out
   obtain ⟨f,hf⟩:∃f,zgf t2=f:=⟨_,rfl⟩
   rw [hf] at hf5 hfd ⊢
   obtain ⟨L,hL⟩:∃L,wh++f.take 4=L:=⟨_,rfl⟩
   rw [hL]
   have hLd:L.all digB=true:=by rw [← hL,List.all_append,HWD.out,zm7 4 hfd];rfl
   have hLl:L.length≤2000000:=by rw [← hL];simp;omega
   have HF:=Hd hf
   have HL:=Hd hL
   clear hf hL
   obtain ⟨cap,hcap⟩:∃cap,cap=grownCap (w.drewN nq) L.length 0 5:=⟨_,rfl⟩
   have hcv:(convert 9 59 (.string ⟨L.toArray⟩)).run prog (w.drewN nq)=.ok (.slice (some ⟨w.heap.size,0,none⟩) L.length cap) ((w.drewN (nq+1)).alloc (.cells (bytesRow ⟨L.toArray⟩ cap) 5 ((bytesRow ⟨L.toArray⟩ cap).size,(bytesRow ⟨L.toArray⟩ cap).size+1))):=by
    rw [hcap]
    have h:=run_bytes_of_string (P:=prog) (w.drewN nq) 9 59 5 ⟨L.toArray⟩ rfl rfl rfl
    rw [zad] at h
    exact h
   have hrow:∀(j:Nat) (c:UInt8),L[j]?=some c→(bytesRow ⟨L.toArray⟩ cap)[j]?=some (.int .u8 c.toNat):=by
    intro j c hj
    obtain ⟨h1,h2⟩:=List.getElem?_eq_some_iff.1 hj
    have:=bytesRow_at ⟨L.toArray⟩ cap j (by simpa using h1)
    rw [this]
    simp [h2]
   have HROW:=Hd hrow
   generalize bytesRow ⟨L.toArray⟩ cap=row at *
   clear hcap hrow
   have HBW:=Hd (show Below w.heap.size w ((w.drewN (nq+1)).alloc (.cells row 5 (row.size,row.size+1))) from (Below.drewN_ (Below.refl _ _) _).alloc (Nat.le_refl _) _)
   have HC:=Hd (show ∀(j:Nat) (c:UInt8),L[j]?=some c→((w.drewN (nq+1)).alloc (.cells row 5 (row.size,row.size+1))).cell? ⟨w.heap.size,j,none⟩=some (.int .u8 c.toNat) from fun j c hj=>(World.cell?_alloc_mark (w.drewN (nq+1)) row 5 (row.size,row.size+1) j).trans (HROW.out j c hj))
   rw [hcv]
   clear hcv
   go_simp
   go_wp2
   obtain ⟨W1,hW1⟩:∃W1,(w.drewN (nq+1)).alloc (.cells row 5 (row.size,row.size+1))=W1:=⟨_,rfl⟩
   rw [hW1] at HBW HC ⊢
   clear hW1
   go_loopw [9,10,67] (fun v g i wr=>∃(k:Nat) (x:Int) (gb:Bool),k≤L.length∧v=.int .u64 x∧g=.bool gb∧i=.int .i64 k∧Upto (natB 0 (L.take k)) x gb∧W1=wr) (fun _ _ i _=>L.length-(intOf i).toNat)
   case atStart=>exact ⟨0,0,false,by omega,rfl,rfl,rfl,⟨by omega,by omega,(fun e=>by cases e),fun _=>⟨rfl,by unfold zci;exact Nat.zero_le _⟩⟩,rfl⟩
   obtain ⟨k,x,gb,hk,rfl,rfl,rfl,hup,rfl⟩:=hrel
   have x0:0≤x:=hup.1
   have x1:x<18446744073709551616:=hup.2.1
   have HUP:=Hd hup
   clear hup
   by_cases hlt:k<L.length
   ·have hi0:(0:Int)≤(k:Int):=Int.natCast_nonneg _
    have hi1:(k:Int)<(L.length:Int):=by omega
    have hlk:L[k]?=some L[k]:=List.getElem?_eq_getElem hlt
    have hcl:W1.cell? ⟨w.heap.size,k,none⟩=some (.int .u8 (L[k].toNat:Int)):=HC.out k _ hlk
    have hdg:digB L[k]=true:=List.all_eq_true.1 hLd _ (List.getElem_mem hlt)
    have HS:=Hd (show natB 0 (L.take (k+1))=10*natB 0 (L.take k)+(L[k].toNat-48) by rw [List.take_succ_eq_append_getElem hlt];exact zhm _ _ _)
    generalize L[k]=c at *
    have g1:48≤(c.toNat:Int):=by simp [digB] at hdg;omega
    have g2:(c.toNat:Int)≤57:=by simp [digB] at hdg;omega
    obtain ⟨q,hq⟩:∃q:Nat,c.toNat=48+q:=⟨c.toNat-48,by omega⟩
    have HQ:=Hd (show c.toNat-48=q by omega)
    have hq9:(q:Int)≤9:=by omega
    clear hdg hlk
    rw [hq] at hcl
    clear hq g1 g2
    by_cases hbig:922337203685477580<x
    ·cases gb
     ·have HY:=Hd (fun y a b=>HUP.out.more q y a b hbig)
      go_wp2
      exact ⟨⟨k+1,_,true,by omega,rfl,rfl,by go_num,by rw [HS.out,HQ.out];first | exact HY.out _ (by omega) (by omega) | exact HY.out _ (zde _).1 (zde _).2,trivial⟩,by simp [intOf];omega⟩
     have HY:=Hd (fun y a b=>HUP.out.yes q y a b)
     go_wp2
     exact ⟨⟨k+1,_,true,by omega,rfl,rfl,by go_num,by rw [HS.out,HQ.out];first | exact HY.out _ (by omega) (by omega) | exact HY.out _ (zde _).1 (zde _).2,trivial⟩,by simp [intOf];omega⟩
    cases gb
    ·obtain ⟨hlt2,hup2⟩:=HUP.out.no q (by omega) hbig
     have HY:=Hd hup2
     clear hup2
     go_wp2
     exact ⟨⟨k+1,_,_,by omega,rfl,rfl,by go_num,by rw [HS.out,HQ.out,show (48+(q:Int)-48)=q by omega];exact HY.out,trivial⟩,by simp [intOf];omega⟩
    have HY:=Hd (fun y a b=>HUP.out.yes q y a b)
    go_wp2
    exact ⟨⟨k+1,_,true,by omega,rfl,rfl,by go_num,by rw [HS.out,HQ.out];first | exact HY.out _ (by omega) (by omega) | exact HY.out _ (zde _).1 (zde _).2,trivial⟩,by simp [intOf];omega⟩
   have HV:=Hd (show natB 0 (L.take k)=natB 0 L by rw [List.take_of_length_le (by omega)])
   have hf4:(4:Int)<(f.length:Int):=by omega
   have h4:((⟨f.toArray⟩:ByteArray)[4]'(by show 4<f.toArray.size;simp;omega))=f.getD 4 0:=by
    rw [List.getD_eq_getElem?_getD,List.getElem?_eq_getElem (by omega)]
    rfl
   have HZ:=Hd (show zhb (u.take n) t2=natB 0 L+if 53≤(f.getD 4 0).toNat then 1 else 0 by unfold zhb ub;rw [HF.out,HWH.out,HL.out])
   have hq:=(f.getD 4 0).toNat_lt
   generalize f.getD 4 0=q at *
   rw [HV.out] at HUP
   have hx:=HUP.out.2.2
   cases gb
   ·obtain ⟨hxv,hxm⟩:=hx.2 rfl
    have HX:=Hd hxv
    unfold zci at hxm
    have hxm2:x≤9223372036854775807:=by omega
    clear hx hxv hxm
    by_cases h53:53≤(q.toNat:Int)
    ·by_cases hm:9223372036854775807<x+1
     ·have HE:=Hd (show zbc S0=(0,3) by
       have hz:=HZ.out
       rw [if_pos (by omega)] at hz
       rw [HP.out,hz,if_pos (by have:=HX.out;unfold zci;omega)])
      go_wp2
      go_ret2
      exact ⟨by rw [HE.out];rfl,HBW.out⟩
     have HE:=Hd (show zbc S0=(if negB S0 then -(x+1) else x+1,0) by
      have hz:=HZ.out
      rw [if_pos (by omega)] at hz
      rw [HP.out,hz,if_neg (by have:=HX.out;unfold zci;omega),HX.out]
      rfl)
     go_wp2_with fail
     refine (zfn (x+1) _ _ (by omega) (by omega)).mono ?_
     rintro e w2 ⟨rfl,rfl⟩
     go_wp2
     go_ret2
     exact ⟨by rw [HE.out,HNB.out];rfl,HBW.out⟩
    have hm:¬9223372036854775807<x:=by omega
    have HE:=Hd (show zbc S0=(if negB S0 then -x else x,0) by
     have hz:=HZ.out
     rw [if_neg (by omega),Nat.add_zero] at hz
     rw [HP.out,hz,if_neg (by have:=HX.out;unfold zci;omega),HX.out])
    go_wp2_with fail
    refine (zfn x _ _ (by omega) (by omega)).mono ?_
    rintro e w2 ⟨rfl,rfl⟩
    go_wp2
    go_ret2
    exact ⟨by rw [HE.out,HNB.out];rfl,HBW.out⟩
   have HX:=Hd (hx.1 rfl)
   have HE:=Hd (show zbc S0=(0,3) by rw [HP.out,HZ.out,if_pos (by have:=HX.out;unfold zci at *;omega)])
   clear hx
   by_cases h53:53≤(q.toNat:Int)
   ·go_wp2
    go_ret2
    exact ⟨by rw [HE.out];rfl,HBW.out⟩
   go_wp2
   go_ret2
   exact ⟨by rw [HE.out];rfl,HBW.out⟩
end Go.Proofs.YtamcgggmfghljaaGreatDoor
