/- Layer 9 (program): the parser's formula and primary (printed by tools/gen_parg.py). -/
import Derived.Test.YtamcgggmfghljaaGreatDoorD23
set_option maxRecDepth 100000
set_option maxHeartbeats 8000000
open Go.Proofs.Tryz
namespace Go.Proofs.YtamcgggmfghljaaGreatDoor
open Go.RowKit
def lev1 (k:Nat) (p:Nat):Array Value:=#[.pointer (some ⟨p,0,none⟩),.int .i64 k]
theorem zi0 (e:Int) (f:Nat) (hl:RunS 251 (lev1 1) e f (.level 1)):RunS 224 one1 e f (.level 1):=by
 intro p ov st W h hn hf
 have HH:=Hd h
 have HL:=Hd hl
 clear h hl
 generalize hR:parS e f (.level 1) st=R
 have HR:=Hd hR
 clear hR
 unfold one1
 go_enter func224,ntmps224
 go_wp2_with fail
 refine (HL.out p ov st _ HH.out hn hf).mono ?_
 intro u w1 hw
 rcases zax hw with ⟨s1,ov1,hr,rfl,ha,ht⟩ | ⟨a,er,hr,rfl,hb⟩
 ·have HR2:=Hd (HR.out.symm.trans hr)
  have H1:=Hd ha
  have T1:=Hd ht
  clear hr ha ht hw
  go_wp2
  refine bE ?_
  exact zbg HR2.out H1.out T1.out
 have HR2:=Hd (HR.out.symm.trans hr)
 have HB:=Hd hb
 clear hr hw hb
 unfold flt
 go_wp2
 exact ⟨rfl,zaw HR2.out HB.out⟩
def ztn (e:Int) (f:Nat):Prop:=∀(name:Tok) (p:Nat) (ov:Value) (st:PSt) (W:World),PA W p e ov st→st.1.length+st.2.length≤2000→10*st.1.length+1≤f→zak e st=name→name.kind=7→
 Calls prog 343 #[.pointer (some ⟨p,0,none⟩),.agg (cTok name).toArray] W (Went p e W ov (parS e f (.call name) st))
theorem zyc (e:Int) (f:Nat) (hl:RunS 224 one1 e f (.level 1)) (hc:ztn e f):RunS 325 one1 e (f+1) .prim:=by
 intro p ov st W h hn hf
 have HFO:=Hd hl
 have HCA:=Hd hc
 have HH:=Hd h
 simp only [zbd] at hf
 generalize ht:zak e st=t
 have HR:Hid (parS e (f+1) .prim st=if t.kind=1 then .ok (putS { nod0 1 with vk:=1,vn:=t.num } (zan st))
  else if t.kind=2 then .ok (putS { nod0 1 with vk:=3,vt:=t.text } (zan st))
  else if t.kind=3 then .ok (putS { nod0 1 with vk:=2,vn:=t.num } (zan st))
  else if t.kind=4 then .ok (putS { nod0 1 with vk:=4,vn:=t.num } (zan st))
  else if t.kind=5 then .ok (putS { nod0 2 with rect:=t.rect } (zan st))
  else if t.kind=9 then thenS (parS e f (.level 1) (zan st)) (zd6 e 10)
  else if t.kind=7 then parS e f (.call t) st
  else .error (t.at_,4)):=Hd (by subst ht;rfl)
 generalize parS e (f+1) .prim st=R at HR ⊢
 have HN:Hid (t.kind≠0→st.1≠ []):=Hd (by rw [← ht];exact zd3)
 have HT0:=Hd ht
 have HLT:=Hd h.lt
 have HOV:=Hd (show ∀k,W.heap.size≤k→ov.ownBlock≠some k from fun k hk e=>by have:=h.ow.lt _ e;omega)
 clear hl hc h
 unfold one1
 go_enter func325,ntmps325
 go_wp2_with fail
 refine (zco p e ov st _ HH.out (by omega)).mono ?_
 rintro u w1 ⟨rfl,hb1⟩
 rw [ht]
 clear ht
 have K1:=Hd (Blk.new w1 239 (cTok t).toArray)
 have HB2:=Hd (show Below W.heap.size W (w1.alloc (.cells (cTok t).toArray 239)) from hb1.alloc hb1.size _)
 have HS1:=Hd hb1.size
 clear hb1
 have H1:=Hd (HH.out.below HB2.out)
 have T1:=Hd (PTo.below (PTo.refl p W ov) HB2.out)
 obtain ⟨W1,hW1⟩:∃W1,w1.alloc (.cells (cTok t).toArray 239)=W1:=⟨_,rfl⟩
 rw [hW1] at K1 HB2 H1 T1
 rw [show (cTok t).toArray=#[.int .u8 t.kind,.int .i64 t.num,str t.text,.int .i64 t.rect.c1,.int .i64 t.rect.r1,.int .i64 t.rect.c2,.int .i64 t.rect.r2,.int .i64 t.at_] from rfl] at hW1 ⊢
 obtain ⟨g,hg⟩:∃g,g=w1.heap.size:=⟨_,rfl⟩
 rw [← hg] at K1 HS1
 have HGN:=Hd (show g≠p by have:=HLT.out;have:=HS1.out;omega)
 have HGO:=Hd (HOV.out g HS1.out)
 go_upto_region 1 with (fail)
 rw [← hg]
 clear hW1 hg
 have x0:W1.cell? ⟨g,0,none⟩=some (.int .u8 t.kind):=K1.out.cell 0
 have x1:W1.cell? ⟨g,1,none⟩=some (.int .i64 t.num):=K1.out.cell 1
 have x2:W1.cell? ⟨g,2,none⟩=some (str t.text):=K1.out.cell 2
 have x3:W1.cell? ⟨g,3,none⟩=some (.int .i64 t.rect.c1):=K1.out.cell 3
 have x4:W1.cell? ⟨g,4,none⟩=some (.int .i64 t.rect.r1):=K1.out.cell 4
 have x5:W1.cell? ⟨g,5,none⟩=some (.int .i64 t.rect.c2):=K1.out.cell 5
 have x6:W1.cell? ⟨g,6,none⟩=some (.int .i64 t.rect.r2):=K1.out.cell 6
 have x7:W1.cell? ⟨g,7,none⟩=some (.int .i64 t.at_):=K1.out.cell 7
 by_cases h1:t.kind=1
 ·have HR2:=Hd (HR.out.trans (if_pos h1))
  have hne:=HN.out (by omega)
  have b1:(t.kind==1)=true:=by simpa using h1
  clear HR h1
  go_wp2_with fail
  refine (zfq p e ov st 1 t.num [] _ H1.out (by omega) (by omega) hne).mono ?_
  rintro u w2 ⟨rfl,ov2,ha,ht⟩
  have H2:=Hd ha
  have T2:=Hd (T1.out.trans ht)
  clear ha ht
  go_wp2
  refine bE ?_
  exact zbg HR2.out H2.out T2.out
 have b1:(t.kind==1)=false:=by simpa using h1
 by_cases h2:t.kind=2
 ·have HR2:=Hd (HR.out.trans ((if_neg h1).trans (if_pos h2)))
  have hne:=HN.out (by omega)
  have b2:(t.kind==2)=true:=by simpa using h2
  clear HR h1 h2
  go_wp2_with fail
  refine (zfq p e ov st 3 0 t.text _ H1.out (by omega) (by omega) hne).mono ?_
  rintro u w2 ⟨rfl,ov2,ha,ht⟩
  have H2:=Hd ha
  have T2:=Hd (T1.out.trans ht)
  clear ha ht
  go_wp2
  refine bE ?_
  exact zbg HR2.out H2.out T2.out
 have b2:(t.kind==2)=false:=by simpa using h2
 by_cases h3:t.kind=3
 ·have HR2:=Hd (HR.out.trans ((if_neg h1).trans ((if_neg h2).trans (if_pos h3))))
  have hne:=HN.out (by omega)
  have b3:(t.kind==3)=true:=by simpa using h3
  clear HR h1 h2 h3
  go_wp2_with fail
  refine (zfq p e ov st 2 t.num [] _ H1.out (by omega) (by omega) hne).mono ?_
  rintro u w2 ⟨rfl,ov2,ha,ht⟩
  have H2:=Hd ha
  have T2:=Hd (T1.out.trans ht)
  clear ha ht
  go_wp2
  refine bE ?_
  exact zbg HR2.out H2.out T2.out
 have b3:(t.kind==3)=false:=by simpa using h3
 by_cases h4:t.kind=4
 ·have HR2:=Hd (HR.out.trans ((if_neg h1).trans ((if_neg h2).trans ((if_neg h3).trans (if_pos h4)))))
  have hne:=HN.out (by omega)
  have b4:(t.kind==4)=true:=by simpa using h4
  clear HR h1 h2 h3 h4
  go_wp2_with fail
  refine (zfq p e ov st 4 t.num [] _ H1.out (by omega) (by omega) hne).mono ?_
  rintro u w2 ⟨rfl,ov2,ha,ht⟩
  have H2:=Hd ha
  have T2:=Hd (T1.out.trans ht)
  clear ha ht
  go_wp2
  refine bE ?_
  exact zbg HR2.out H2.out T2.out
 have b4:(t.kind==4)=false:=by simpa using h4
 by_cases h5:t.kind=5
 ·have HR2:=Hd (HR.out.trans ((if_neg h1).trans ((if_neg h2).trans ((if_neg h3).trans ((if_neg h4).trans (if_pos h5))))))
  have hne:=HN.out (by omega)
  have b5:(t.kind==5)=true:=by simpa using h5
  clear HR h1 h2 h3 h4 h5
  go_wp2_with fail
  refine (zbu p e ov st _ H1.out (by omega) hne).mono ?_
  rintro u w2 ⟨rfl,ha,ht⟩
  have H2:=Hd ha
  have T2:=Hd (T1.out.trans ht)
  have K2:=Hd (ht.blk K1.out HGN.out HGO.out)
  clear ha ht
  have y3:w2.cell? ⟨g,3,none⟩=some (.int .i64 t.rect.c1):=K2.out.cell 3
  have y4:w2.cell? ⟨g,4,none⟩=some (.int .i64 t.rect.r1):=K2.out.cell 4
  have y5:w2.cell? ⟨g,5,none⟩=some (.int .i64 t.rect.c2):=K2.out.cell 5
  have y6:w2.cell? ⟨g,6,none⟩=some (.int .i64 t.rect.r2):=K2.out.cell 6
  go_wp2_with fail
  refine (zdq p e ov (zan st) { nod0 2 with rect:=t.rect } _ H2.out (by rw [zah];omega)).mono ?_
  rintro u w3 ⟨rfl,ov3,ha,ht⟩
  have H3:=Hd ha
  have T3:=Hd (T2.out.trans ht)
  clear ha ht
  go_wp2
  refine bE ?_
  exact zbg HR2.out H3.out T3.out
 have b5:(t.kind==5)=false:=by simpa using h5
 by_cases h9:t.kind=9
 ·have HR2:=Hd (HR.out.trans ((if_neg h1).trans ((if_neg h2).trans ((if_neg h3).trans ((if_neg h4).trans ((if_neg h5).trans (if_pos h9)))))))
  have hne:=HN.out (by omega)
  have b9:(t.kind==9)=true:=by simpa using h9
  clear HR h1 h2 h3 h4 h5 h9
  have hpos:1≤st.1.length:=List.length_pos_iff.2 hne
  go_wp2_with fail
  refine (zbu p e ov st _ H1.out (by omega) hne).mono ?_
  rintro u w2 ⟨rfl,ha,ht⟩
  have H2:=Hd ha
  have T2:=Hd (T1.out.trans ht)
  clear ha ht
  go_wp2_with fail
  refine (HFO.out p ov (zan st) _ H2.out (by rw [zaj,zah];omega) (by simp only [zbd,zaj];omega)).mono ?_
  intro u w3 hw
  rcases zax hw with ⟨s3,ov3,hr,rfl,ha,ht⟩ | ⟨a,er,hr,rfl,hb⟩
  ·have HL:=Hd (za0 e f _ _ _ hr)
   have HR3:=Hd (show R=zd6 e 10 s3 by rw [HR2.out,hr];rfl)
   have H3:=Hd ha
   have T3:=Hd (T2.out.trans ht)
   clear ha ht hr hw
   go_wp2_with fail
   refine (znn p e ov3 s3 10 _ H3.out (by have:=HL.out;rw [zaj] at this;omega) (by decide)).mono ?_
   intro u w4 hw
   rcases zax hw with ⟨s4,ov4,hr,rfl,ha,ht⟩ | ⟨a,er,hr,rfl,hb⟩
   ·have HR4:=Hd (HR3.out.trans hr)
    have H4:=Hd ha
    have T4:=Hd (T3.out.trans ht)
    clear ha ht hr hw
    go_wp2
    refine bE ?_
    exact zbg HR4.out H4.out T4.out
   have HR4:=Hd (HR3.out.trans hr)
   have HB4:=Hd ((T3.out.old' HH.out).trans hb)
   clear hr hw hb
   unfold flt
   go_wp2
   exact ⟨rfl,zaw HR4.out HB4.out⟩
  have HR3:=Hd (show R=.error (a,er) by rw [HR2.out,hr];rfl)
  have HB3:=Hd ((T2.out.old' HH.out).trans hb)
  clear hr hw hb
  unfold flt
  go_wp2
  exact ⟨rfl,zaw HR3.out HB3.out⟩
 have b9:(t.kind==9)=false:=by simpa using h9
 by_cases h7:t.kind=7
 ·have HR2:=Hd (HR.out.trans ((if_neg h1).trans ((if_neg h2).trans ((if_neg h3).trans ((if_neg h4).trans ((if_neg h5).trans ((if_neg h9).trans (if_pos h7))))))))
  have hne:=HN.out (by omega)
  have b7:(t.kind==7)=true:=by simpa using h7
  have HK:=Hd h7
  clear HR h1 h2 h3 h4 h5 h9 h7
  go_wp2_with fail
  refine (HCA.out t p ov st _ H1.out hn (by omega) HT0.out HK.out).mono ?_
  intro u w2 hw
  rcases zax hw with ⟨s2,ov2,hr,rfl,ha,ht⟩ | ⟨a,er,hr,rfl,hb⟩
  ·have HR3:=Hd (HR2.out.trans hr)
   have H2:=Hd ha
   have T2:=Hd (T1.out.trans ht)
   clear ha ht hr hw
   go_wp2
   refine bE ?_
   exact zbg HR3.out H2.out T2.out
  have HR3:=Hd (HR2.out.trans hr)
  have HB3:=Hd ((T1.out.old' HH.out).trans hb)
  clear hr hw hb
  unfold flt
  go_wp2
  exact ⟨rfl,zaw HR3.out HB3.out⟩
 have b7:(t.kind==7)=false:=by simpa using h7
 have HR2:=Hd (HR.out.trans ((if_neg h1).trans ((if_neg h2).trans ((if_neg h3).trans ((if_neg h4).trans ((if_neg h5).trans ((if_neg h9).trans (if_neg h7))))))))
 clear HR h1 h2 h3 h4 h5 h9 h7
 go_wp2_with fail
 refine (zcp _ t.at_ 4 _).mono ?_
 rintro u w3 ⟨rfl,rfl⟩
 unfold flt
 go_wp2
 exact ⟨rfl,zaw HR2.out (T1.out.old' HH.out)⟩
theorem zw5 (e:Int) (f k:Nat) (hk:k≤4) (hl:RunS 251 (lev1 (k+1)) e f (.level (k+1))) (p:Nat) (ov:Value) (st:PSt) (W:World) (b2 b3:Nat) (h:PA W p e ov st) (hn:st.1.length+st.2.length≤2000) (hf:zbd (.level (k+1)) st.1.length≤f)
 (h2:W.cell? ⟨b2,0,none⟩=some (.pointer (some ⟨p,0,none⟩))) (h3:W.cell? ⟨b3,0,none⟩=some (.int .i64 k)):
 Calls prog 285 #[.pointer (some ⟨b2,0,none⟩),.pointer (some ⟨b3,0,none⟩)] W (Went p e W ov (parS e f (.level (k+1)) st)):=by
 have HH:=Hd h
 have HC:=Hd (hl p ov st W h hn hf)
 have k0:(0:Int)≤(k:Int):=by omega
 have k4:(k:Int)≤4:=by omega
 clear h hl
 unfold lev1 at HC
 rw [show ((k+1:Nat):Int)=(k:Int)+1 by omega] at HC
 generalize hR:parS e f (.level (k+1)) st=R at HC ⊢
 clear hR
 go_enter func285,ntmps285
 go_wp2_with fail
 refine HC.out.mono ?_
 intro u w1 hw
 rcases zax hw with ⟨s1,ov1,hr,rfl,ha,ht⟩ | ⟨a,er,hr,rfl,hb⟩
 ·have HR2:=Hd hr
  have H1:=Hd ha
  have T1:=Hd ht
  clear hr ha ht hw
  go_wp2
  refine bE ?_
  exact zbg HR2.out H1.out T1.out
 have HR2:=Hd hr
 have HB:=Hd hb
 clear hr hw hb
 unfold flt
 go_wp2
 exact ⟨rfl,zaw HR2.out HB.out⟩
theorem zr7 (e:Int) (f k:Nat) (hk1:1≤k) (hk:k<4) (hl:∀f',f'≤f→RunS 251 (lev1 (k+1)) e f' (.level (k+1))):
 RunS 251 (lev1 k) e (f+1) (.level k):=by
 intro p ov st W h hn hf
 have HL:=Hd hl
 have HH:=Hd h
 have HLT:=Hd h.lt
 have HOV:=Hd (show ∀q,W.heap.size≤q→ov.ownBlock≠some q from fun q hq e=>by have:=h.ow.lt _ e;omega)
 simp only [zbd] at hf
 have HR:Hid (parS e (f+1) (.level k) st=thenS (parS e f (.level (k+1)) st) (parS e f (.loop k))):=Hd (by show thenS (parS e f (if k<4 then .level (k+1) else .sign) st) _=_;rw [if_pos hk])
 have HLP:Hid (∀f s,parS e (f+1) (.loop k) s=if (zak e s).kind≠8∨zbt (zak e s).num≠k then .ok s else thenS (parS e f (.level (k+1)) (zan s)) fun st'=>parS e f (.loop k) (putS { nod0 6 with op:=(zak e s).num } st')):=Hd (fun f s=>by
  show (if _ then _ else thenS (parS e f (if k<4 then .level (k+1) else .sign) (zan s)) _)=_
  rw [if_pos hk])
 generalize parS e (f+1) (.level k) st=R at HR ⊢
 clear hl h
 have KB2:=Hd ((Blk.new W 235 #[.pointer (some ⟨p,0,none⟩)]).alloc (.cells #[.int .i64 k] 3))
 have KB3:=Hd (show Blk ((W.alloc (.cells #[.pointer (some ⟨p,0,none⟩)] 235)).alloc (.cells #[.int .i64 k] 3)) (W.heap.size+1) 3 #[.int .i64 k] by
  have:=Blk.new (W.alloc (.cells #[.pointer (some ⟨p,0,none⟩)] 235)) 3 #[.int .i64 k]
  simpa using this)
 have HB0:=Hd (show Below W.heap.size W ((W.alloc (.cells #[.pointer (some ⟨p,0,none⟩)] 235)).alloc (.cells #[.int .i64 k] 3)) from by go_grown)
 have SZ:Hid (((W.alloc (.cells #[.pointer (some ⟨p,0,none⟩)] 235)).alloc (.cells #[.int .i64 k] 3)).heap.size=W.heap.size+1+1):=Hd (by simp)
 have hmf:∀(fn:Fn) (first cap:Array Value) (w:World),(Instr.makeFunc fn first cap).run prog w=.ok (.func fn first cap) w:=fun _ _ _ _=>rfl
 have k0:(0:Int)≤(k:Int):=by omega
 have k4:(k:Int)<4:=by omega
 unfold lev1
 go_enter func251,ntmps251
 go_upto_region 1 with (fail)
 obtain ⟨W2,hW2⟩:∃W2,(W.alloc (.cells #[.pointer (some ⟨p,0,none⟩)] 235)).alloc (.cells #[.int .i64 k] 3)=W2:=⟨_,rfl⟩
 rw [hW2] at KB2 KB3 HB0 SZ ⊢
 clear hW2
 have y2:W2.cell? ⟨W.heap.size,0,none⟩=some (.pointer (some ⟨p,0,none⟩)):=KB2.out.cell 0
 have y3:W2.cell? ⟨W.heap.size+1,0,none⟩=some (.int .i64 k):=KB3.out.cell 0
 have H1:=Hd (HH.out.below HB0.out)
 go_wp2_with fail
 refine (zw5 e (f) k (by omega) (HL.out (f) (by omega)) p ov st _ _ _ H1.out hn (by simp only [zbd];omega) y2 y3).mono ?_
 intro u w3 hw
 rcases zax hw with ⟨s3,ov3,hr,rfl,ha,ht⟩ | ⟨a,er,hr,rfl,hb⟩
 ·have HLE:=Hd (za0 e f _ _ _ hr)
  have HR1:=Hd (show R=parS e f (.loop k) s3 by rw [HR.out,hr];rfl)
  have H3:=Hd ha
  have T3:=Hd ht
  clear ha ht hr hw HR y2 y3
  go_wp2_with fail
  go_loopw [6] (fun _ wr=>∃f' s' ov',R=parS e f' (.loop k) s'∧10*s'.1.length+2*(5-k)+2≤f'∧f'≤f∧s'.1.length+s'.2.length≤2000∧PA wr p e ov' s'∧PTo p W2 ov wr ov') (fun _ wr=>zpw p wr)
  case atStart=>exact ⟨f,s3,ov3,HR1.out,by have:=HLE.out;simp only [zay] at this;omega,Nat.le_refl _,by have:=HLE.out;omega,H3.out,T3.out⟩
  obtain ⟨f',s',ov',hr,hf',hff,hn',ha,ht⟩:=hrel
  obtain ⟨f2,rfl⟩:∃f2,f'=f2+1:=⟨f'-1,by omega⟩
  have HR2:=Hd (hr.trans (HLP.out f2 s'))
  have H4:=Hd ha
  have T4:=Hd ht
  have HLA:=Hd (zdy ha)
  have HLW:=Hd ha.lt
  have q2:=ht.blk KB2.out (by have:=HLT.out;omega) (HOV.out _ (Nat.le_refl _))
  have q3:=ht.blk KB3.out (by have:=HLT.out;omega) (HOV.out _ (Nat.le_succ _))
  have z2:wr.cell? ⟨W.heap.size,0,none⟩=some (.pointer (some ⟨p,0,none⟩)):=q2.cell 0
  have Q2:=Hd q2
  have Q3:=Hd q3
  have HOW:=Hd (show ∀q,wr.heap.size≤q→ov'.ownBlock≠some q from fun q hq e=>by have:=ha.ow.lt _ e;omega)
  clear hr ha ht q2 q3
  go_wp2_with fail
  refine (zco p e ov' s' _ H4.out (by omega)).mono ?_
  rintro u w5 ⟨rfl,hb5⟩
  have HN:Hid ((zak e s').kind≠0→s'.1≠ []):=Hd zd3
  generalize zak e s'=t at HR2 HN ⊢
  have K5:=Hd (Blk.new w5 239 (cTok t).toArray)
  have HB5:=Hd (show Below wr.heap.size wr (w5.alloc (.cells (cTok t).toArray 239)) from hb5.alloc hb5.size _)
  have HS5:=Hd hb5.size
  clear hb5 z2
  have H5:=Hd (H4.out.below HB5.out)
  have T5:=Hd (PTo.below T4.out HB5.out)
  have P2:=Hd (Q2.out.below_ HB5.out)
  have P3:=Hd (Q3.out.below_ HB5.out)
  obtain ⟨W5,hW5⟩:∃W5,w5.alloc (.cells (cTok t).toArray 239)=W5:=⟨_,rfl⟩
  rw [hW5] at K5 HB5 H5 T5 P2 P3
  rw [show (cTok t).toArray=#[.int .u8 t.kind,.int .i64 t.num,str t.text,.int .i64 t.rect.c1,.int .i64 t.rect.r1,.int .i64 t.rect.c2,.int .i64 t.rect.r2,.int .i64 t.at_] from rfl] at hW5 ⊢
  obtain ⟨g,hg⟩:∃g,g=w5.heap.size:=⟨_,rfl⟩
  rw [← hg] at K5 HS5
  have HGN:=Hd (show g≠p by have:=HLW.out;have:=HS5.out;omega)
  have HGO:=Hd (HOW.out g HS5.out)
  go_upto_region 6 with (fail)
  rw [← hg]
  clear hW5 hg
  have x0:W5.cell? ⟨g,0,none⟩=some (.int .u8 t.kind):=K5.out.cell 0
  have x1:W5.cell? ⟨g,1,none⟩=some (.int .i64 t.num):=K5.out.cell 1
  by_cases h8:t.kind=8
  rotate_left
  ·have b8:(t.kind != 8)=true:=by simpa using h8
   have HR3:=Hd (HR2.out.trans (if_pos (.inl h8)))
   clear h8 HR2
   go_wp2
   refine bR ?_
   exact zbg HR3.out H5.out ((PTo.below (PTo.refl p W ov) HB0.out).trans T5.out)
  have b8:(t.kind != 8)=false:=by simpa using h8
  have hne:=HN.out (by omega)
  have hpos:1≤s'.1.length:=List.length_pos_iff.2 hne
  have H8:=Hd h8
  clear h8
  go_wp2_with fail
  refine (zk9 t.num _).mono ?_
  rintro u w6 ⟨⟨bb,ee,rfl⟩,rfl⟩
  have z2:W5.cell? ⟨W.heap.size,0,none⟩=some (.pointer (some ⟨p,0,none⟩)):=P2.out.cell 0
  have z3:W5.cell? ⟨W.heap.size+1,0,none⟩=some (.int .i64 k):=P3.out.cell 0
  generalize hbn:zbt t.num=bn at HR2 ⊢
  clear hbn
  by_cases hbk:bn=k
  rotate_left
  ·have bk:(bn != (k:Int))=true:=by simpa using hbk
   have HR3:=Hd (HR2.out.trans (if_pos (.inr hbk)))
   clear hbk HR2
   go_wp2
   refine bR ?_
   exact zbg HR3.out H5.out ((PTo.below (PTo.refl p W ov) HB0.out).trans T5.out)
  have bk:(bn != (k:Int))=false:=by simpa using hbk
  have HR3:=Hd (HR2.out.trans (if_neg (by rw [not_or];exact ⟨fun h=>h H8.out,fun h=>h hbk⟩)))
  clear hbk HR2
  go_wp2_with fail
  refine (zbu p e ov' s' _ H5.out (by omega) hne).mono ?_
  rintro u w7 ⟨rfl,ha,ht⟩
  have H7:=Hd ha
  have T7:=Hd (T5.out.trans ht)
  have K7:=Hd (ht.blk K5.out HGN.out HGO.out)
  clear ha ht z2 z3
  have u2:w7.cell? ⟨W.heap.size,0,none⟩=some (.pointer (some ⟨p,0,none⟩)):=(T7.out.blk KB2.out (by have:=HLT.out;omega) (HOV.out _ (Nat.le_refl _))).cell 0
  have u3:w7.cell? ⟨W.heap.size+1,0,none⟩=some (.int .i64 k):=(T7.out.blk KB3.out (by have:=HLT.out;omega) (HOV.out _ (Nat.le_succ _))).cell 0
  go_wp2_with fail
  refine (zw5 e (f2) k (by omega) (HL.out (f2) (by omega)) p ov' (zan s') _ _ _ H7.out (by rw [zaj,zah];omega) (by simp only [zbd,zaj];omega) u2 u3).mono ?_
  intro u w8 hw
  rcases zax hw with ⟨s8,ov8,hr,rfl,ha,ht⟩ | ⟨a,er,hr,rfl,hb⟩
  ·have HL8:=Hd (za0 e f2 _ _ _ hr)
   have HR4:=Hd (show R=parS e f2 (.loop k) (putS { nod0 6 with op:=t.num } s8) by rw [HR3.out,hr];rfl)
   have H8':=Hd ha
   have T8:=Hd (T7.out.trans ht)
   have K8:=Hd (ht.blk K7.out HGN.out HGO.out)
   clear ha ht hr hw u2 u3
   have v2:w8.cell? ⟨W.heap.size,0,none⟩=some (.pointer (some ⟨p,0,none⟩)):=(T8.out.blk KB2.out (by have:=HLT.out;omega) (HOV.out _ (Nat.le_refl _))).cell 0
   have v1:w8.cell? ⟨g,1,none⟩=some (.int .i64 t.num):=K8.out.cell 1
   go_wp2_with fail
   refine (zdq p e ov8 s8 { nod0 6 with op:=t.num } _ H8'.out (by have:=HL8.out;rw [zaj,zah] at this;omega)).mono ?_
   rintro u w9 ⟨rfl,ov9,ha,ht⟩
   have H9:=Hd ha
   have T9:=Hd (T8.out.trans ht)
   have hl9:=zdy ha
   rw [zca] at hl9
   have HL9:=Hd hl9
   clear ha ht hl9 v2 v1
   go_wp2
   exact ⟨⟨f2,_,ov9,HR4.out,by have:=HL8.out;rw [zca];simp only [zaj,zay] at this;omega,by omega,by have:=HL8.out;rw [zca,zb4];simp only [zaj,zah,zay] at this;omega,H9.out,T9.out⟩,by rw [HL9.out,HLA.out];have:=HL8.out;simp only [zaj,zay] at this;omega⟩
  have HR4:=Hd (show R=.error (a,er) by rw [HR3.out,hr];rfl)
  have HB8:=Hd ((HB0.out.mono (Nat.le_of_lt HLT.out)).trans ((T7.out.old' H1.out).trans hb))
  clear hr hw hb
  unfold flt
  go_wp2
  exact ⟨rfl,zaw HR4.out HB8.out⟩
 have HR3:=Hd (show R=.error (a,er) by rw [HR.out,hr];rfl)
 have HB3:=Hd ((HB0.out.mono (Nat.le_of_lt HLT.out)).trans hb)
 clear hr hw hb
 unfold flt
 go_wp2
 exact ⟨rfl,zaw HR3.out HB3.out⟩
theorem zpu (e:Int) (f k:Nat) (hk1:1≤k) (hk:k=4) (hl:∀f',f'≤f→RunS 284 one1 e f' .sign):
 RunS 251 (lev1 k) e (f+1) (.level k):=by
 intro p ov st W h hn hf
 have HL:=Hd hl
 have HH:=Hd h
 have HLT:=Hd h.lt
 have HOV:=Hd (show ∀q,W.heap.size≤q→ov.ownBlock≠some q from fun q hq e=>by have:=h.ow.lt _ e;omega)
 simp only [zbd] at hf
 have HR:Hid (parS e (f+1) (.level k) st=thenS (parS e f (.sign) st) (parS e f (.loop k))):=Hd (by show thenS (parS e f (if k<4 then .level (k+1) else .sign) st) _=_;rw [if_neg (by omega)])
 have HLP:Hid (∀f s,parS e (f+1) (.loop k) s=if (zak e s).kind≠8∨zbt (zak e s).num≠k then .ok s else thenS (parS e f (.sign) (zan s)) fun st'=>parS e f (.loop k) (putS { nod0 6 with op:=(zak e s).num } st')):=Hd (fun f s=>by
  show (if _ then _ else thenS (parS e f (if k<4 then .level (k+1) else .sign) (zan s)) _)=_
  rw [if_neg (show ¬k<4 by omega)])
 generalize parS e (f+1) (.level k) st=R at HR ⊢
 clear hl h
 have KB2:=Hd ((Blk.new W 235 #[.pointer (some ⟨p,0,none⟩)]).alloc (.cells #[.int .i64 k] 3))
 have KB3:=Hd (show Blk ((W.alloc (.cells #[.pointer (some ⟨p,0,none⟩)] 235)).alloc (.cells #[.int .i64 k] 3)) (W.heap.size+1) 3 #[.int .i64 k] by
  have:=Blk.new (W.alloc (.cells #[.pointer (some ⟨p,0,none⟩)] 235)) 3 #[.int .i64 k]
  simpa using this)
 have HB0:=Hd (show Below W.heap.size W ((W.alloc (.cells #[.pointer (some ⟨p,0,none⟩)] 235)).alloc (.cells #[.int .i64 k] 3)) from by go_grown)
 have SZ:Hid (((W.alloc (.cells #[.pointer (some ⟨p,0,none⟩)] 235)).alloc (.cells #[.int .i64 k] 3)).heap.size=W.heap.size+1+1):=Hd (by simp)
 have hmf:∀(fn:Fn) (first cap:Array Value) (w:World),(Instr.makeFunc fn first cap).run prog w=.ok (.func fn first cap) w:=fun _ _ _ _=>rfl
 have k0:(0:Int)≤(k:Int):=by omega
 have k4:¬(k:Int)<4:=by omega
 have hk5:k≤4:=by omega
 clear hk
 unfold lev1
 go_enter func251,ntmps251
 go_upto_region 1 with (fail)
 obtain ⟨W2,hW2⟩:∃W2,(W.alloc (.cells #[.pointer (some ⟨p,0,none⟩)] 235)).alloc (.cells #[.int .i64 k] 3)=W2:=⟨_,rfl⟩
 rw [hW2] at KB2 KB3 HB0 SZ ⊢
 clear hW2
 have y2:W2.cell? ⟨W.heap.size,0,none⟩=some (.pointer (some ⟨p,0,none⟩)):=KB2.out.cell 0
 have y3:W2.cell? ⟨W.heap.size+1,0,none⟩=some (.int .i64 k):=KB3.out.cell 0
 have H1:=Hd (HH.out.below HB0.out)
 go_wp2_with fail
 refine (HL.out (f) (by omega) p ov st _ H1.out hn (by simp only [zbd];omega)).mono ?_
 intro u w3 hw
 rcases zax hw with ⟨s3,ov3,hr,rfl,ha,ht⟩ | ⟨a,er,hr,rfl,hb⟩
 ·have HLE:=Hd (za0 e f _ _ _ hr)
  have HR1:=Hd (show R=parS e f (.loop k) s3 by rw [HR.out,hr];rfl)
  have H3:=Hd ha
  have T3:=Hd ht
  clear ha ht hr hw HR y2 y3
  go_wp2_with fail
  go_loopw [6] (fun _ wr=>∃f' s' ov',R=parS e f' (.loop k) s'∧10*s'.1.length+2*(5-k)+2≤f'∧f'≤f∧s'.1.length+s'.2.length≤2000∧PA wr p e ov' s'∧PTo p W2 ov wr ov') (fun _ wr=>zpw p wr)
  case atStart=>exact ⟨f,s3,ov3,HR1.out,by have:=HLE.out;simp only [zay] at this;omega,Nat.le_refl _,by have:=HLE.out;omega,H3.out,T3.out⟩
  obtain ⟨f',s',ov',hr,hf',hff,hn',ha,ht⟩:=hrel
  obtain ⟨f2,rfl⟩:∃f2,f'=f2+1:=⟨f'-1,by omega⟩
  have HR2:=Hd (hr.trans (HLP.out f2 s'))
  have H4:=Hd ha
  have T4:=Hd ht
  have HLA:=Hd (zdy ha)
  have HLW:=Hd ha.lt
  have q2:=ht.blk KB2.out (by have:=HLT.out;omega) (HOV.out _ (Nat.le_refl _))
  have q3:=ht.blk KB3.out (by have:=HLT.out;omega) (HOV.out _ (Nat.le_succ _))
  have z2:wr.cell? ⟨W.heap.size,0,none⟩=some (.pointer (some ⟨p,0,none⟩)):=q2.cell 0
  have Q2:=Hd q2
  have Q3:=Hd q3
  have HOW:=Hd (show ∀q,wr.heap.size≤q→ov'.ownBlock≠some q from fun q hq e=>by have:=ha.ow.lt _ e;omega)
  clear hr ha ht q2 q3
  go_wp2_with fail
  refine (zco p e ov' s' _ H4.out (by omega)).mono ?_
  rintro u w5 ⟨rfl,hb5⟩
  have HN:Hid ((zak e s').kind≠0→s'.1≠ []):=Hd zd3
  generalize zak e s'=t at HR2 HN ⊢
  have K5:=Hd (Blk.new w5 239 (cTok t).toArray)
  have HB5:=Hd (show Below wr.heap.size wr (w5.alloc (.cells (cTok t).toArray 239)) from hb5.alloc hb5.size _)
  have HS5:=Hd hb5.size
  clear hb5 z2
  have H5:=Hd (H4.out.below HB5.out)
  have T5:=Hd (PTo.below T4.out HB5.out)
  have P2:=Hd (Q2.out.below_ HB5.out)
  have P3:=Hd (Q3.out.below_ HB5.out)
  obtain ⟨W5,hW5⟩:∃W5,w5.alloc (.cells (cTok t).toArray 239)=W5:=⟨_,rfl⟩
  rw [hW5] at K5 HB5 H5 T5 P2 P3
  rw [show (cTok t).toArray=#[.int .u8 t.kind,.int .i64 t.num,str t.text,.int .i64 t.rect.c1,.int .i64 t.rect.r1,.int .i64 t.rect.c2,.int .i64 t.rect.r2,.int .i64 t.at_] from rfl] at hW5 ⊢
  obtain ⟨g,hg⟩:∃g,g=w5.heap.size:=⟨_,rfl⟩
  rw [← hg] at K5 HS5
  have HGN:=Hd (show g≠p by have:=HLW.out;have:=HS5.out;omega)
  have HGO:=Hd (HOW.out g HS5.out)
  go_upto_region 6 with (fail)
  rw [← hg]
  clear hW5 hg
  have x0:W5.cell? ⟨g,0,none⟩=some (.int .u8 t.kind):=K5.out.cell 0
  have x1:W5.cell? ⟨g,1,none⟩=some (.int .i64 t.num):=K5.out.cell 1
  by_cases h8:t.kind=8
  rotate_left
  ·have b8:(t.kind != 8)=true:=by simpa using h8
   have HR3:=Hd (HR2.out.trans (if_pos (.inl h8)))
   clear h8 HR2
   go_wp2
   refine bR ?_
   exact zbg HR3.out H5.out ((PTo.below (PTo.refl p W ov) HB0.out).trans T5.out)
  have b8:(t.kind != 8)=false:=by simpa using h8
  have hne:=HN.out (by omega)
  have hpos:1≤s'.1.length:=List.length_pos_iff.2 hne
  have H8:=Hd h8
  clear h8
  go_wp2_with fail
  refine (zk9 t.num _).mono ?_
  rintro u w6 ⟨⟨bb,ee,rfl⟩,rfl⟩
  have z2:W5.cell? ⟨W.heap.size,0,none⟩=some (.pointer (some ⟨p,0,none⟩)):=P2.out.cell 0
  have z3:W5.cell? ⟨W.heap.size+1,0,none⟩=some (.int .i64 k):=P3.out.cell 0
  generalize hbn:zbt t.num=bn at HR2 ⊢
  clear hbn
  by_cases hbk:bn=k
  rotate_left
  ·have bk:(bn != (k:Int))=true:=by simpa using hbk
   have HR3:=Hd (HR2.out.trans (if_pos (.inr hbk)))
   clear hbk HR2
   go_wp2
   refine bR ?_
   exact zbg HR3.out H5.out ((PTo.below (PTo.refl p W ov) HB0.out).trans T5.out)
  have bk:(bn != (k:Int))=false:=by simpa using hbk
  have HR3:=Hd (HR2.out.trans (if_neg (by rw [not_or];exact ⟨fun h=>h H8.out,fun h=>h hbk⟩)))
  clear hbk HR2
  go_wp2_with fail
  refine (zbu p e ov' s' _ H5.out (by omega) hne).mono ?_
  rintro u w7 ⟨rfl,ha,ht⟩
  have H7:=Hd ha
  have T7:=Hd (T5.out.trans ht)
  have K7:=Hd (ht.blk K5.out HGN.out HGO.out)
  clear ha ht z2 z3
  have u2:w7.cell? ⟨W.heap.size,0,none⟩=some (.pointer (some ⟨p,0,none⟩)):=(T7.out.blk KB2.out (by have:=HLT.out;omega) (HOV.out _ (Nat.le_refl _))).cell 0
  have u3:w7.cell? ⟨W.heap.size+1,0,none⟩=some (.int .i64 k):=(T7.out.blk KB3.out (by have:=HLT.out;omega) (HOV.out _ (Nat.le_succ _))).cell 0
  go_wp2_with fail
  refine (HL.out (f2) (by omega) p ov' (zan s') _ H7.out (by rw [zaj,zah];omega) (by simp only [zbd,zaj];omega)).mono ?_
  intro u w8 hw
  rcases zax hw with ⟨s8,ov8,hr,rfl,ha,ht⟩ | ⟨a,er,hr,rfl,hb⟩
  ·have HL8:=Hd (za0 e f2 _ _ _ hr)
   have HR4:=Hd (show R=parS e f2 (.loop k) (putS { nod0 6 with op:=t.num } s8) by rw [HR3.out,hr];rfl)
   have H8':=Hd ha
   have T8:=Hd (T7.out.trans ht)
   have K8:=Hd (ht.blk K7.out HGN.out HGO.out)
   clear ha ht hr hw u2 u3
   have v2:w8.cell? ⟨W.heap.size,0,none⟩=some (.pointer (some ⟨p,0,none⟩)):=(T8.out.blk KB2.out (by have:=HLT.out;omega) (HOV.out _ (Nat.le_refl _))).cell 0
   have v1:w8.cell? ⟨g,1,none⟩=some (.int .i64 t.num):=K8.out.cell 1
   go_wp2_with fail
   refine (zdq p e ov8 s8 { nod0 6 with op:=t.num } _ H8'.out (by have:=HL8.out;rw [zaj,zah] at this;omega)).mono ?_
   rintro u w9 ⟨rfl,ov9,ha,ht⟩
   have H9:=Hd ha
   have T9:=Hd (T8.out.trans ht)
   have hl9:=zdy ha
   rw [zca] at hl9
   have HL9:=Hd hl9
   clear ha ht hl9 v2 v1
   go_wp2
   exact ⟨⟨f2,_,ov9,HR4.out,by have:=HL8.out;rw [zca];simp only [zaj,zay] at this;omega,by omega,by have:=HL8.out;rw [zca,zb4];simp only [zaj,zah,zay] at this;omega,H9.out,T9.out⟩,by rw [HL9.out,HLA.out];have:=HL8.out;simp only [zaj,zay] at this;omega⟩
  have HR4:=Hd (show R=.error (a,er) by rw [HR3.out,hr];rfl)
  have HB8:=Hd ((HB0.out.mono (Nat.le_of_lt HLT.out)).trans ((T7.out.old' H1.out).trans hb))
  clear hr hw hb
  unfold flt
  go_wp2
  exact ⟨rfl,zaw HR4.out HB8.out⟩
 have HR3:=Hd (show R=.error (a,er) by rw [HR.out,hr];rfl)
 have HB3:=Hd ((HB0.out.mono (Nat.le_of_lt HLT.out)).trans hb)
 clear hr hw hb
 unfold flt
 go_wp2
 exact ⟨rfl,zaw HR3.out HB3.out⟩
end Go.Proofs.YtamcgggmfghljaaGreatDoor
