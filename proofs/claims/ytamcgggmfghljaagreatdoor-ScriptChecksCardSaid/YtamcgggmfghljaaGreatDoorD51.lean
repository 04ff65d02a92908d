/- Layers 31, 41 (reference): books and scripts checked (printed by tools/gen_rhc.py). -/
import Derived.Test.YtamcgggmfghljaaGreatDoorD48
import Derived.Test.YtamcgggmfghljaaGreatDoorD49
import Derived.Test.YtamcgggmfghljaaGreatDoorD50
set_option maxRecDepth 100000
set_option maxHeartbeats 8000000
open Go.Proofs.Tryz
namespace Go.Proofs.YtamcgggmfghljaaGreatDoor
open Go.RowKit
theorem zx7 (b:Bok) (e r g l x:Value) (B:Nat) (w:World) (hB:B≤w.heap.size) (hb:RdBok w B b e r g l x) (hel:b.entries.length≤1000000) (hil:∀x∈b.entries,x.input.length≤1000000) (hok:zoj b.rules) (hto:∀x∈b.log,0≤x.to_∧x.to_<18446744073709551616):
 Calls prog 32 #[vBok b e r g l x] w fun u w'=>u=.returned (.int .i64 (bokE b))∧Below w.heap.size w w':=by
 obtain ⟨Ae,ce,rfl,_⟩:=id hb.ents
 obtain ⟨Ar,cr,rfl,_⟩:=id hb.ruls
 obtain ⟨Ag,cg,rfl,_⟩:=id hb.grts
 obtain ⟨Al,cl,rfl,_⟩:=id hb.evts
 obtain ⟨Ax,cx,rfl,_⟩:=id hb.rlss
 have HB:=Hd hb
 have HIL:=Hd hil
 have HTO:=Hd hto
 have HOK:=Hd hok
 have hml:=hb.evts.len.2.2
 have hmx:=hb.rlss.len.2.2
 unfold maxLen at hml hmx
 clear hb hil hto hok
 have K0:=Hd (Blk.new w 28 #[.int .i64 b.users,.slice Ae b.entries.length ce,.slice Ar b.rules.length cr,.slice Ag b.grants.length cg,.slice Al b.log.length cl,.slice Ax b.releases.length cx,.int .i64 b.step])
 have HB0:=Hd (show Below w.heap.size w (w.alloc (.cells #[.int .i64 b.users,.slice Ae b.entries.length ce,.slice Ar b.rules.length cr,.slice Ag b.grants.length cg,.slice Al b.log.length cl,.slice Ax b.releases.length cx,.int .i64 b.step] 28)) from by go_grown)
 by_cases hu1:b.users<1
 ·have HE:=Hd (show bokE b=2 by unfold bokE;rw [if_pos (.inl hu1)])
  go_enter func32,ntmps32
  go_wp2
  go_ret
  exact ⟨by rw [HE.out];rfl,HB0.out⟩
 by_cases hu2:64<b.users
 ·have HE:=Hd (show bokE b=2 by unfold bokE;rw [if_pos (.inr hu2)])
  go_enter func32,ntmps32
  go_wp2
  go_ret
  exact ⟨by rw [HE.out];rfl,HB0.out⟩
 have HE0:=Hd (show bokE b=_ by unfold bokE;exact if_neg (by omega))
 have HLT:=Hd (fun h=>zvx (u:=b.users) (l:=b.log) (m:=b.releases) b.step h)
 go_enter func32,ntmps32
 go_upto_region 1 with (fail)
 obtain ⟨W0,hW0⟩:∃W0,w.alloc (.cells #[.int .i64 b.users,.slice Ae b.entries.length ce,.slice Ar b.rules.length cr,.slice Ag b.grants.length cg,.slice Al b.log.length cl,.slice Ax b.releases.length cx,.int .i64 b.step] 28)=W0:=⟨_,rfl⟩
 rw [hW0] at K0 HB0 ⊢
 clear hW0
 have q0:W0.cell? ⟨w.heap.size,0,none⟩=some (.int .i64 b.users):=K0.out.cell 0
 have q1:W0.cell? ⟨w.heap.size,1,none⟩=some (.slice Ae b.entries.length ce):=K0.out.cell 1
 go_wp2_with fail
 refine (zjp zzb b.entries _ B _ (Nat.le_trans hB HB0.out.size) (HB.out.ents.below (HB0.out.mono hB)) hel HIL.out).mono ?_
 rintro u w1 ⟨⟨i1,rfl⟩,hb1⟩
 obtain ⟨ee,hee⟩:∃e,entE none b.entries=e:=⟨_,rfl⟩
 rw [hee] at HE0 ⊢
 clear hee
 have K1:=Hd (K0.out.below_ hb1)
 have HB1:=Hd (Below.next HB0.out hb1 HB0.out.size)
 clear hb1
 clear q0 q1
 by_cases hee:ee=0
 rotate_left
 ·have HE:=Hd (HE0.out.trans (if_pos hee))
  have be:(ee != 0)=true:=by simpa using hee
  clear hee
  go_wp2
  go_ret
  exact ⟨by rw [HE.out];rfl,HB1.out⟩
 have beee:(ee != 0)=false:=by simpa using hee
 have HE1:=Hd (HE0.out.trans (if_neg (by simpa using hee)))
 clear hee
 have q0:w1.cell? ⟨w.heap.size,0,none⟩=some (.int .i64 b.users):=K1.out.cell 0
 have q2:w1.cell? ⟨w.heap.size,2,none⟩=some (.slice Ar b.rules.length cr):=K1.out.cell 2
 go_wp2_with fail
 refine (rg_acl b.users _ b.rules B _ (Nat.le_trans hB HB1.out.size) (HB.out.ruls.below (HB1.out.mono hB)) HOK.out).mono ?_
 rintro u w2 ⟨i2,rfl,hb2⟩
 obtain ⟨ea,hgen⟩:∃e,aclE b.users b.rules=e:=⟨_,rfl⟩
 rw [hgen] at HE1 ⊢
 clear hgen
 have K2:=Hd (K1.out.below_ hb2)
 have HB2:=Hd (Below.next HB1.out hb2 HB1.out.size)
 clear hb2
 clear q0 q2
 by_cases hea:ea=0
 rotate_left
 ·have HE:=Hd (HE1.out.trans (if_pos hea))
  have be:(ea != 0)=true:=by simpa using hea
  clear hea
  go_wp2
  go_ret
  exact ⟨by rw [HE.out];rfl,HB2.out⟩
 have beea:(ea != 0)=false:=by simpa using hea
 have HE2:=Hd (HE1.out.trans (if_neg (by simpa using hea)))
 clear hea
 have q0:w2.cell? ⟨w.heap.size,0,none⟩=some (.int .i64 b.users):=K2.out.cell 0
 have q3:w2.cell? ⟨w.heap.size,3,none⟩=some (.slice Ag b.grants.length cg):=K2.out.cell 3
 go_wp2_with fail
 refine (zq6 b.users _ b.grants B _ (Nat.le_trans hB HB2.out.size) (HB.out.grts.below (HB2.out.mono hB))).mono ?_
 rintro u w3 ⟨i3,rfl,hb3⟩
 obtain ⟨eg,hgen⟩:∃e,zdx b.users b.grants=e:=⟨_,rfl⟩
 rw [hgen] at HE2 ⊢
 clear hgen
 have K3:=Hd (K2.out.below_ hb3)
 have HB3:=Hd (Below.next HB2.out hb3 HB2.out.size)
 clear hb3
 clear q0 q3
 by_cases heg:eg=0
 rotate_left
 ·have HE:=Hd (HE2.out.trans (if_pos heg))
  have be:(eg != 0)=true:=by simpa using heg
  clear heg
  go_wp2
  go_ret
  exact ⟨by rw [HE.out];rfl,HB3.out⟩
 have beeg:(eg != 0)=false:=by simpa using heg
 have HE3:=Hd (HE2.out.trans (if_neg (by simpa using heg)))
 clear heg
 have q0:w3.cell? ⟨w.heap.size,0,none⟩=some (.int .i64 b.users):=K3.out.cell 0
 have q4:w3.cell? ⟨w.heap.size,4,none⟩=some (.slice Al b.log.length cl):=K3.out.cell 4
 have q5:w3.cell? ⟨w.heap.size,5,none⟩=some (.slice Ax b.releases.length cx):=K3.out.cell 5
 go_wp2_with fail
 refine (zuf b.users _ _ b.log b.releases B _ (Nat.le_trans hB HB3.out.size) (HB.out.evts.below (HB3.out.mono hB)) (HB.out.rlss.below (HB3.out.mono hB)) HTO.out).mono ?_
 rintro u w4 ⟨rfl,hb4⟩
 obtain ⟨eu,hgen⟩:∃e,audE b.users b.log b.releases=e:=⟨_,rfl⟩
 rw [hgen] at HE3 HLT ⊢
 clear hgen
 have K4:=Hd (K3.out.below_ hb4)
 have HB4:=Hd (Below.next HB3.out hb4 HB3.out.size)
 clear hb4
 clear q0 q4 q5
 by_cases heu:eu=0
 rotate_left
 ·have HE:=Hd (HE3.out.trans (if_pos heu))
  have be:(eu != 0)=true:=by simpa using heu
  clear heu
  go_wp2
  go_ret
  exact ⟨by rw [HE.out];rfl,HB4.out⟩
 have beeu:(eu != 0)=false:=by simpa using heu
 have HE4:=Hd (HE3.out.trans (if_neg (by simpa using heu)))
 have HLT2:=Hd (HLT.out heu)
 clear heu HLT K0 K1 K2 K3 HB0 HB1 HB2 HB3
 have q6:w4.cell? ⟨w.heap.size,6,none⟩=some (.int .i64 b.step):=K4.out.cell 6
 by_cases s0:b.step<0
 ·have HE:=Hd (HE4.out.trans (if_pos (.inl s0)))
  go_wp2
  go_ret
  exact ⟨by rw [HE.out];rfl,HB4.out⟩
 by_cases s1:1099511627776<b.step
 ·have HE:=Hd (HE4.out.trans (if_pos (.inr s1)))
  go_wp2
  go_ret
  exact ⟨by rw [HE.out];rfl,HB4.out⟩
 have HE5:=Hd (HE4.out.trans (if_neg (by rw [not_or];exact ⟨s0,s1⟩)))
 rw [← HLT2.out.1,← HLT2.out.2] at HE5
 clear HLT2 HE4
 go_wp2_with fail
 clear q6 s0 s1
 go_loopw [10] (fun i wr=>∃k:Nat,k≤b.log.length∧i=.int .i64 k∧Below w.heap.size w wr∧Blk wr w.heap.size 28 #[.int .i64 b.users,.slice Ae b.entries.length ce,.slice Ar b.rules.length cr,.slice Ag b.grants.length cg,.slice Al b.log.length cl,.slice Ax b.releases.length cx,.int .i64 b.step]∧b.log.any (fun x=>decide (b.step≤x.step))=(b.log.drop k).any (fun x=>decide (b.step≤x.step))) (fun i _=>b.log.length-(intOf i).toNat)
 case atStart=>exact ⟨0,by omega,rfl,HB4.out,K4.out,by simp⟩
 rename World=>wr
 obtain ⟨k,hk,rfl,hbw,hkb,hany⟩:=hrel
 have HBW:=Hd hbw
 have HK:=Hd hkb
 have HA:=Hd hany
 have q4:wr.cell? ⟨w.heap.size,4,none⟩=some (.slice Al b.log.length cl):=hkb.cell 4
 have q6:wr.cell? ⟨w.heap.size,6,none⟩=some (.int .i64 b.step):=hkb.cell 6
 have hi0:(0:Int)≤(k:Int):=Int.natCast_nonneg _
 clear hkb hany
 by_cases hlt:k<b.log.length
 rotate_left
 ·have hi1:¬(k:Int)<(b.log.length:Int):=by omega
  have HN:=Hd (show b.log.any (fun x=>decide (b.step≤x.step))=false by rw [HA.out,List.drop_of_length_le (by omega)];rfl)
  have HE6:=Hd (HE5.out.trans (if_neg (by rw [HN.out];decide)))
  obtain ⟨wq,hwq⟩:∃W,wr=W:=⟨_,rfl⟩
  have HB5:=Hd (show Below w.heap.size w wq from hwq▸HBW.out)
  have K5:=Hd (show Blk wq w.heap.size 28 #[.int .i64 b.users,.slice Ae b.entries.length ce,.slice Ar b.rules.length cr,.slice Ag b.grants.length cg,.slice Al b.log.length cl,.slice Ax b.releases.length cx,.int .i64 b.step] from hwq▸HK.out)
  have HE6a:=Hd HE6.out
  rw [hwq] at q4 ⊢
  clear hwq hbw HBW HK hk hlt hi0 q6 HE6 HN HA
  go_wp2_with fail
  clear q4 hi1
  go_loopw [11] (fun i wr=>∃k:Nat,k≤b.releases.length∧i=.int .i64 k∧Below w.heap.size w wr∧Blk wr w.heap.size 28 #[.int .i64 b.users,.slice Ae b.entries.length ce,.slice Ar b.rules.length cr,.slice Ag b.grants.length cg,.slice Al b.log.length cl,.slice Ax b.releases.length cx,.int .i64 b.step]∧b.releases.any (fun x=>decide (b.step≤x.step))=(b.releases.drop k).any (fun x=>decide (b.step≤x.step))) (fun i _=>b.releases.length-(intOf i).toNat)
  case atStart=>exact ⟨0,by omega,rfl,HB5.out,K5.out,by simp⟩
  rename World=>wr
  obtain ⟨k,hk,rfl,hbw,hkb,hany⟩:=hrel
  have HBW:=Hd hbw
  have HK:=Hd hkb
  have HA:=Hd hany
  have q5:wr.cell? ⟨w.heap.size,5,none⟩=some (.slice Ax b.releases.length cx):=hkb.cell 5
  have q6:wr.cell? ⟨w.heap.size,6,none⟩=some (.int .i64 b.step):=hkb.cell 6
  have hi0:(0:Int)≤(k:Int):=Int.natCast_nonneg _
  clear hkb hany
  by_cases hlt:k<b.releases.length
  rotate_left
  ·have hi1:¬(k:Int)<(b.releases.length:Int):=by omega
   have HN:=Hd (show b.releases.any (fun x=>decide (b.step≤x.step))=false by rw [HA.out,List.drop_of_length_le (by omega)];rfl)
   have HE6:=Hd (HE6a.out.trans (if_neg (by rw [HN.out];decide)))
   go_wp2
   go_ret
   exact ⟨by rw [HE6.out];rfl,HBW.out⟩
  have hy:b.releases[k]?=some b.releases[k]:=List.getElem?_eq_getElem hlt
  obtain ⟨bb,oo,hA,hb2,rr⟩:=(HB.out.rlss.below (hbw.mono hB)).get 11 zcv hy
  have HD:=Hd (zoh (fun x=>decide (b.step≤x.step)) hy)
  generalize b.releases[k]=y at *
  subst hA
  have r0:wr.cell? ⟨bb,oo+k*11,none⟩=some (.int .i64 y.step):=rr 0 _ rfl
  have hi1:(k:Int)<(b.releases.length:Int):=by omega
  clear rr hy hbw
  by_cases hst:b.step≤y.step
  ·have hdl:decide (b.step≤y.step)=true:=decide_eq_true hst
   have HN:=Hd (show b.releases.any (fun x=>decide (b.step≤x.step))=true by rw [HA.out,HD.out,hdl];rfl)
   have HE6:=Hd (HE6a.out.trans (if_pos HN.out))
   clear HA HD
   go_wp2_with fail
   go_quiet (fail)
   go_wp2
   go_ret
   exact ⟨by rw [HE6.out];rfl,Below.drewN_ HBW.out _⟩
  have hdl:decide (b.step≤y.step)=false:=decide_eq_false hst
  have HA2:=Hd (show b.releases.any (fun x=>decide (b.step≤x.step))=(b.releases.drop (k+1)).any (fun x=>decide (b.step≤x.step)) by rw [HA.out,HD.out,hdl,Bool.false_or])
  clear HA HD
  go_wp2_with fail
  go_quiet (fail)
  go_wp2
  exact ⟨⟨k+1,by omega,by go_num,Below.drewN_ HBW.out _,Blk.drewN HK.out _,HA2.out⟩,by simp [intOf];omega⟩
 have hy:b.log[k]?=some b.log[k]:=List.getElem?_eq_getElem hlt
 obtain ⟨bb,oo,hA,hb2,rr⟩:=(HB.out.evts.below (hbw.mono hB)).get 9 zcw hy
 have HD:=Hd (zoh (fun x=>decide (b.step≤x.step)) hy)
 generalize b.log[k]=y at *
 subst hA
 have r0:wr.cell? ⟨bb,oo+k*9,none⟩=some (.int .i64 y.step):=rr 0 _ rfl
 have hi1:(k:Int)<(b.log.length:Int):=by omega
 clear rr hy hbw
 by_cases hst:b.step≤y.step
 ·have hdl:decide (b.step≤y.step)=true:=decide_eq_true hst
  have HN:=Hd (show b.log.any (fun x=>decide (b.step≤x.step))=true by rw [HA.out,HD.out,hdl];rfl)
  have HE6:=Hd (HE5.out.trans (if_pos HN.out))
  clear HA HD
  go_wp2_with fail
  go_quiet (fail)
  go_wp2
  go_ret
  exact ⟨by rw [HE6.out];rfl,Below.drewN_ HBW.out _⟩
 have hdl:decide (b.step≤y.step)=false:=decide_eq_false hst
 have HA2:=Hd (show b.log.any (fun x=>decide (b.step≤x.step))=(b.log.drop (k+1)).any (fun x=>decide (b.step≤x.step)) by rw [HA.out,HD.out,hdl,Bool.false_or])
 clear HA HD
 go_wp2_with fail
 go_quiet (fail)
 go_wp2
 exact ⟨⟨k+1,by omega,by go_num,Below.drewN_ HBW.out _,Blk.drewN HK.out _,HA2.out⟩,by simp [intOf];omega⟩
theorem zkz (s:Scp) (e r g l x o:Value) (B:Nat) (w:World) (hB:B≤w.heap.size) (hb:RdScp w B s e r g l x o) (hel:s.book.entries.length≤1000000) (hil:∀x∈s.book.entries,x.input.length≤1000000) (hok:zoj s.book.rules) (hto:∀x∈s.book.log,0≤x.to_∧x.to_<18446744073709551616):
 Calls prog 15 #[vScp s e r g l x o] w fun u w'=>u=.returned (.int .i64 (scpE s))∧Below w.heap.size w w':=by
 obtain ⟨Ao,co,rfl,_⟩:=id hb.ops
 have hm:=hb.ops.len.2.2
 unfold maxLen at hm
 obtain ⟨Ae,ce,rfl,_⟩:=id hb.book.ents
 obtain ⟨Ar,cr,rfl,_⟩:=id hb.book.ruls
 obtain ⟨Ag,cg,rfl,_⟩:=id hb.book.grts
 obtain ⟨Al,cl,rfl,_⟩:=id hb.book.evts
 obtain ⟨Ax,cx,rfl,_⟩:=id hb.book.rlss
 have HC:=Hd (fun (W:World) (h:Below w.heap.size w W)=>zx7 s.book _ _ _ _ _ B W (Nat.le_trans hB h.size) (hb.book.below (h.mono hB)) hel hil hok hto)
 have HE:=Hd (show scpE s=if bokE s.book≠0 then bokE s.book else if 4096<s.ops.length then 5 else 0 from rfl)
 obtain ⟨be,hbe⟩:∃x,bokE s.book=x:=⟨_,rfl⟩
 obtain ⟨se,hse⟩:∃x,scpE s=x:=⟨_,rfl⟩
 rw [hbe] at HC HE
 rw [hse] at HE ⊢
 clear hb hil hto hok hbe hse
 go_enter func15,ntmps15
 go_wp2_with fail
 refine (HC.out _ (by go_grown)).mono ?_
 rintro u w1 ⟨rfl,hb1⟩
 have hc1:w1.cell? ⟨w.heap.size,7,none⟩=some (.slice Ao s.ops.length co):=(hb1.cell (p:=⟨w.heap.size,7,none⟩) (by simp)).trans (by go_simp)
 have HB1:=Hd (show Below w.heap.size w w1 from nxt hb1)
 clear hb1
 by_cases h0:be=0
 ·have HE2:=Hd (HE.out.trans (if_neg (by simpa using h0)))
  have b0:(be != 0)=false:=by simpa using h0
  clear HE h0
  by_cases h4:4096<s.ops.length
  ·have HE3:=Hd (HE2.out.trans (if_pos h4))
   have g4:(4096:Int)<(s.ops.length:Int):=by omega
   clear h4
   go_wp2
   go_ret
   exact ⟨by rw [HE3.out];rfl,HB1.out⟩
  have HE3:=Hd (HE2.out.trans (if_neg h4))
  have g4:¬(4096:Int)<(s.ops.length:Int):=by omega
  clear h4
  go_wp2
  go_ret
  exact ⟨by rw [HE3.out];rfl,HB1.out⟩
 have HE2:=Hd (HE.out.trans (if_pos h0))
 have b0:(be != 0)=true:=by simpa using h0
 clear HE h0
 go_wp2
 go_ret
 exact ⟨by rw [HE2.out];rfl,HB1.out⟩
theorem FitS.ruls {s:Scp} (h:FitS s):zoj s.book.rules:=fun x hx=>by
 have k:=(h.ok.book.rules x hx).rights
 exact ⟨⟨k.rd.1,by have:=k.rd.2;omega⟩,⟨k.wr.1,by have:=k.wr.2;omega⟩,⟨k.ow.1,by have:=k.ow.2;omega⟩⟩
theorem FitS.tos {s:Scp} (h:FitS s):∀x∈s.book.log,0≤x.to_∧x.to_<18446744073709551616:=fun x hx=>by
 have k:=(h.ok.book.log x hx).to_
 exact ⟨k.1,by have:=k.2;omega⟩
theorem zo8 (s:Scp) (e r g l x o:Value) (B:Nat) (w:World) (hB:B≤w.heap.size) (hb:RdScp w B s e r g l x o) (hf:FitS s) (hel:s.book.entries.length≤1000000):
 Calls prog 13 #[vScp s e r g l x o] w fun u w'=>u=.returned (.tuple #[str (encR s).1,.int .i64 (encR s).2])∧Below w.heap.size w w':=by
 obtain ⟨Ae,ce,rfl,_⟩:=id hb.book.ents
 obtain ⟨Ar,cr,rfl,_⟩:=id hb.book.ruls
 obtain ⟨Ag,cg,rfl,_⟩:=id hb.book.grts
 obtain ⟨Al,cl,rfl,_⟩:=id hb.book.evts
 obtain ⟨Ax,cx,rfl,_⟩:=id hb.book.rlss
 obtain ⟨Ao,co,rfl,_⟩:=id hb.ops
 have hmo:=hb.ops.len.2.2
 unfold maxLen at hmo
 have HC:=Hd (fun (W:World) (hbw:Below w.heap.size w W)=>zkz s _ _ _ _ _ _ B W (Nat.le_trans hB hbw.size) (hb.below (hbw.mono hB)) hel hf.ents hf.ruls hf.tos)
 have HB:=Hd hb
 have HF:=Hd hf
 have K0:=Hd (Blk.new w 31 #[.int .i64 s.book.users,.slice Ae s.book.entries.length ce,.slice Ar s.book.rules.length cr,.slice Ag s.book.grants.length cg,.slice Al s.book.log.length cl,.slice Ax s.book.releases.length cx,.int .i64 s.book.step,.slice Ao s.ops.length co])
 clear hb hf
 by_cases h0:scpE s=0
 rotate_left
 ·have HR:=Hd (show encR s=([],scpE s) by unfold encR;rw [if_pos h0])
  rw [HR.out]
  obtain ⟨E,hE⟩:∃E,scpE s=E:=⟨_,rfl⟩
  rw [hE] at HC h0
  rw [hE]
  clear hE HR
  go_enter func13,ntmps13
  go_wp2_with fail
  refine (HC.out _ (by go_grown)).mono ?_
  rintro e w1 ⟨rfl,hb1⟩
  have HB1:=Hd (show Below w.heap.size w w1 from nxt hb1)
  have be:(E != 0)=true:=by simpa using h0
  clear hb1 h0
  go_wp2
  go_ret2
  exact ⟨rfl,HB1.out⟩
 have HR:=Hd (show encR s=if 65536<(scpB s).length then ([],5) else (scpB s,0) by unfold encR;rw [if_neg (by omega)])
 have HSZ:=Hd (show (bokB s.book).length+(numI s.ops.length).length+(s.ops.flatMap oprB).length≤100000000 by
  have:=HF.out.size
  rw [znb,List.length_append] at this
  unfold zap at this
  rw [List.length_append] at this
  omega)
 go_enter func13,ntmps13
 go_wp2_with fail
 refine (HC.out _ (by go_grown)).mono ?_
 rintro u w1 ⟨rfl,hb1⟩
 rw [h0]
 have KB:=Hd (K0.out.below_ hb1)
 have HB1:=Hd (show Below w.heap.size w w1 from nxt hb1)
 have hgp:w.heap.size<w1.heap.size:=KB.out.lt
 have g0:w1.cell? ⟨w.heap.size,0,none⟩=some (.int .i64 s.book.users):=KB.out.cell 0
 have g1:w1.cell? ⟨w.heap.size,1,none⟩=some (.slice Ae s.book.entries.length ce):=KB.out.cell 1
 have g2:w1.cell? ⟨w.heap.size,2,none⟩=some (.slice Ar s.book.rules.length cr):=KB.out.cell 2
 have g3:w1.cell? ⟨w.heap.size,3,none⟩=some (.slice Ag s.book.grants.length cg):=KB.out.cell 3
 have g4:w1.cell? ⟨w.heap.size,4,none⟩=some (.slice Al s.book.log.length cl):=KB.out.cell 4
 have g5:w1.cell? ⟨w.heap.size,5,none⟩=some (.slice Ax s.book.releases.length cx):=KB.out.cell 5
 have g6:w1.cell? ⟨w.heap.size,6,none⟩=some (.int .i64 s.book.step):=KB.out.cell 6
 have g7:w1.cell? ⟨w.heap.size,7,none⟩=some (.slice Ao s.ops.length co):=KB.out.cell 7
 have WR:=Hd (show WrAt (w1.alloc (.cells #[.slice none 0 0] 65)) w1.heap.size (.slice none 0 0) [] from ⟨Blk.new w1 _ _,Out.nil _,fun k hk=>by simp [Value.ownBlock] at hk⟩)
 have HW:=Hd (show Below w.heap.size w (w1.alloc (.cells #[.slice none 0 0] 65)) from HB1.out.alloc HB1.out.size _)
 have KW:=Hd (Blk.alloc KB.out (.cells #[.slice none 0 0] 65))
 clear hb1 h0 HC K0
 go_wp2_with fail
 refine (zxw w1.heap.size _ [] s.book _ _ _ _ _ B _ WR.out (Nat.le_trans hB HB1.out.size) (HB.out.book.below (HW.out.mono hB)) HF.out.ok.book HF.out.ents (by have:=HSZ.out;omega) (by simp)).mono ?_
 rintro u w2 ⟨rfl,v2,h2,t2⟩
 rw [List.nil_append] at h2
 have hb2:=WR.out.old t2
 have HB2:=Hd (Below.trans HW.out (hb2.mono (Nat.le_of_lt hgp)))
 have K2:=Hd (KW.out.below hb2 hgp)
 have WR2:=Hd h2
 have g7':w2.cell? ⟨w.heap.size,7,none⟩=some (.slice Ao s.ops.length co):=K2.out.cell 7
 clear h2 t2 hb2 WR HW KW g0 g1 g2 g3 g4 g5 g6 g7
 go_wp2_with fail
 refine (zbs w1.heap.size _ _ (s.ops.length:Int) _ WR2.out (by have:=HSZ.out;omega)).mono ?_
 rintro u w3 ⟨rfl,v3,h3,t3⟩
 have hb3:=WR2.out.old t3
 have HB3:=Hd (Below.trans HB2.out (hb3.mono (Nat.le_of_lt hgp)))
 have K3:=Hd (K2.out.below hb3 hgp)
 have WR3:=Hd h3
 clear h3 t3 hb3 WR2 HB2 K2 g7'
 obtain ⟨L,hL⟩:∃L,bokB s.book++numI s.ops.length=L:=⟨_,rfl⟩
 rw [hL] at WR3
 have HL:=Hd (show scpB s=L++s.ops.flatMap oprB by rw [znb,← hL,List.append_assoc];rfl)
 have hLl:L.length+(s.ops.flatMap oprB).length≤100000000:=by
  have:=HSZ.out
  rw [← hL,List.length_append]
  omega
 clear hL HSZ
 go_wp2_with fail
 go_loopw [6] (fun i wr=>∃(k:Nat) (v:Value),k≤s.ops.length∧i=.int .i64 k∧WrAt wr w1.heap.size v (L++(s.ops.take k).flatMap oprB)∧Blk wr w.heap.size 31 #[.int .i64 s.book.users,.slice Ae s.book.entries.length ce,.slice Ar s.book.rules.length cr,.slice Ag s.book.grants.length cg,.slice Al s.book.log.length cl,.slice Ax s.book.releases.length cx,.int .i64 s.book.step,.slice Ao s.ops.length co]∧Below w.heap.size w wr) (fun i _=>s.ops.length-(intOf i).toNat)
 case atStart=>exact ⟨0,v3,by omega,rfl,by simpa using WR3.out,K3.out,HB3.out⟩
 rename World=>wr
 obtain ⟨k,v,hk,rfl,hwr,hkb,hbw⟩:=hrel
 have WR:=Hd hwr
 have K:=Hd hkb
 have HBW:=Hd hbw
 have g7':wr.cell? ⟨w.heap.size,7,none⟩=some (.slice Ao s.ops.length co):=hkb.cell 7
 have hi0:(0:Int)≤(k:Int):=Int.natCast_nonneg _
 have hpl:=hwr.lt
 clear hwr hkb WR3 K3 HB3
 by_cases hlt:k<s.ops.length
 rotate_left
 ·have hi1:¬(k:Int)<(s.ops.length:Int):=by omega
  rw [List.take_of_length_le (by omega),← HL.out] at WR
  have hpos:0<(scpB s).length:=by simp [scpB,numI,numB]
  obtain ⟨gb,cap,hv,hcv⟩:=zjt WR.out.ow hpos
  subst hv
  have cw:wr.cell? ⟨w1.heap.size,0,none⟩=some (.slice (some ⟨gb,0,none⟩) (scpB s).length cap):=WR.out.bx.cell 0
  clear WR K hbw HL hLl HF HB hpos
  obtain ⟨q,hq⟩:∃q,scpB s=q:=⟨_,rfl⟩
  rw [hq] at hcv cw HR
  clear hq
  by_cases hl:65536<q.length
  ·have hl':(65536:Int)<(q.length:Int):=by omega
   rw [if_pos hl] at HR
   go_wp2
   go_ret2
   exact ⟨by rw [HR.out];rfl,HBW.out⟩
  have hl':¬(65536:Int)<(q.length:Int):=by omega
  rw [if_neg hl] at HR
  go_wp2
  go_ret2
  exact ⟨by rw [HR.out];rfl,HBW.out⟩
 have hi1:(k:Int)<(s.ops.length:Int):=by omega
 have hy:s.ops[k]?=some s.ops[k]:=List.getElem?_eq_getElem hlt
 obtain ⟨b,o,hA,hb2,rr⟩:=(HB.out.ops.below (hbw.mono hB)).get 13 zdl hy
 have HFS:=Hd (zed oprB s.ops k hy)
 have hft:=zb5 oprB s.ops (k+1)
 rw [HFS.out,List.length_append] at hft
 have HOX:=Hd (HF.out.ok.ops _ (List.getElem_mem hlt))
 have hin:=HF.out.oprs _ (List.getElem_mem hlt)
 generalize s.ops[k]=x at *
 subst hA
 have hLk:(L++(s.ops.take k).flatMap oprB).length≤1000000000:=by rw [List.length_append];omega
 have r0:wr.cell? ⟨b,o+k*13,none⟩=some (.int .u8 x.kind):=rr 0 _ rfl
 have r1:wr.cell? ⟨b,o+k*13+1,none⟩=some (.int .i64 x.user):=rr 1 _ rfl
 have r2:wr.cell? ⟨b,o+k*13+2,none⟩=some (.int .i64 x.rect.c1):=rr 2 _ rfl
 have r3:wr.cell? ⟨b,o+k*13+3,none⟩=some (.int .i64 x.rect.r1):=rr 3 _ rfl
 have r4:wr.cell? ⟨b,o+k*13+4,none⟩=some (.int .i64 x.rect.c2):=rr 4 _ rfl
 have r5:wr.cell? ⟨b,o+k*13+5,none⟩=some (.int .i64 x.rect.r2):=rr 5 _ rfl
 have r6:wr.cell? ⟨b,o+k*13+6,none⟩=some (str x.input):=rr 6 _ rfl
 have r7:wr.cell? ⟨b,o+k*13+7,none⟩=some (.int .u64 x.rights.rd):=rr 7 _ rfl
 have r8:wr.cell? ⟨b,o+k*13+8,none⟩=some (.int .u64 x.rights.wr):=rr 8 _ rfl
 have r9:wr.cell? ⟨b,o+k*13+9,none⟩=some (.int .u64 x.rights.ow):=rr 9 _ rfl
 have r10:wr.cell? ⟨b,o+k*13+10,none⟩=some (.int .u8 x.fns):=rr 10 _ rfl
 have r11:wr.cell? ⟨b,o+k*13+11,none⟩=some (.int .u64 x.to_):=rr 11 _ rfl
 have r12:wr.cell? ⟨b,o+k*13+12,none⟩=some (.int .i64 x.index):=rr 12 _ rfl
 clear rr hy hbw hft
 go_wp2_with fail
 refine (rw_op w1.heap.size v _ x wr WR.out HOX.out hin hLk).mono ?_
 rintro u w5 ⟨rfl,v5,h5,t5⟩
 have hb5:=WR.out.old t5
 have HB5:=Hd (Below.trans HBW.out (hb5.mono (Nat.le_of_lt hgp)))
 have K5:=Hd (K.out.below hb5 hgp)
 rw [List.append_assoc,← HFS.out] at h5
 have W5:=Hd h5
 clear h5 t5 hb5 g7' r0 r1 r2 r3 r4 r5 r6 r7 r8 r9 r10 r11 r12
 go_wp2
 exact ⟨⟨k+1,v5,by omega,by go_num,W5.out,K5.out,HB5.out⟩,by simp [intOf];omega⟩
theorem zqd (s:Scp) (e r g l x o:Value) (w:World) (hs:RdScp w w.heap.size s e r g l x o) (ok:okS s) (rc:Reach s) (hw:Words w):
 Calls prog 3 #[vScp s e r g l x o] w fun u w'=>u=.returned (.bool true)∧Below w.heap.size w w':=by
 obtain ⟨Ae,ce,rfl, -⟩:=id hs.book.ents
 obtain ⟨Ar,cr,rfl, -⟩:=id hs.book.ruls
 obtain ⟨Ag,cg,rfl, -⟩:=id hs.book.grts
 obtain ⟨Al,cl,rfl, -⟩:=id hs.book.evts
 obtain ⟨Ax,cx,rfl, -⟩:=id hs.book.rlss
 obtain ⟨Ao,co,rfl, -⟩:=id hs.ops
 have HA:=Hd (show RdScp w w.heap.size s _ _ _ _ _ _ from hs)
 have RC:=Hd rc
 have HW:=Hd hw
 have OK:=Hd ok
 have K0:=Hd (Blk.new w 31 #[.int .i64 s.book.users,.slice Ae s.book.entries.length ce,.slice Ar s.book.rules.length cr,.slice Ag s.book.grants.length cg,.slice Al s.book.log.length cl,.slice Ax s.book.releases.length cx,.int .i64 s.book.step,.slice Ao s.ops.length co])
 clear hs rc hw ok
 go_enter func3,ntmps3
 go_wp2_with fail
 refine (zvi s _ _ _ _ _ _ w.heap.size _ (by simp) (HA.out.below (by go_grown)) RC.out).mono ?_
 rintro u w1 ⟨rfl,hb1⟩
 have K1:=Hd (K0.out.below_ hb1)
 have B1:=Hd (show Below w.heap.size w w1 from nxt hb1)
 clear hb1 K0
 by_cases hL:zds s=true
 ·rw [hL]
  go_wp2_with fail
  refine (zsa _ (HW.out.below B1.out)).mono ?_
  rintro u w2 ⟨rfl,hb2⟩
  have B2:=Hd (Below.next B1.out hb2 B1.out.size)
  clear hb2
  go_wp2_with fail
  go_ret
  exact ⟨rfl,B2.out⟩
 have hL':zds s=false:=by simpa using hL
 rw [hL']
 have FT:=Hd (zso OK.out hL')
 have SH:=Hd (zt5 hL')
 have y0:w1.cell? ⟨w.heap.size,0,none⟩=some (.int .i64 s.book.users):=K1.out.cell 0
 have y1:w1.cell? ⟨w.heap.size,1,none⟩=some (.slice Ae s.book.entries.length ce):=K1.out.cell 1
 have y2:w1.cell? ⟨w.heap.size,2,none⟩=some (.slice Ar s.book.rules.length cr):=K1.out.cell 2
 have y3:w1.cell? ⟨w.heap.size,3,none⟩=some (.slice Ag s.book.grants.length cg):=K1.out.cell 3
 have y4:w1.cell? ⟨w.heap.size,4,none⟩=some (.slice Al s.book.log.length cl):=K1.out.cell 4
 have y5:w1.cell? ⟨w.heap.size,5,none⟩=some (.slice Ax s.book.releases.length cx):=K1.out.cell 5
 have y6:w1.cell? ⟨w.heap.size,6,none⟩=some (.int .i64 s.book.step):=K1.out.cell 6
 have y7:w1.cell? ⟨w.heap.size,7,none⟩=some (.slice Ao s.ops.length co):=K1.out.cell 7
 clear hL hL' RC OK
 go_wp2_with fail
 refine (zmx s _ _ _ _ _ _ w.heap.size w1 B1.out.size (HA.out.below B1.out) SH.out.1 SH.out.2).mono ?_
 rintro u w2 ⟨e2,r2,g2,l2,x2,o2,rfl,hs2,hb2⟩
 have HX:=Hd (zx9 hs2)
 obtain ⟨Be,de,rfl, -⟩:=id HX.out.book.ents
 obtain ⟨Br,dr,rfl, -⟩:=id HX.out.book.ruls
 obtain ⟨Bg,dg,rfl, -⟩:=id HX.out.book.grts
 obtain ⟨Bl,dl,rfl, -⟩:=id HX.out.book.evts
 obtain ⟨Bx,dx,rfl, -⟩:=id HX.out.book.rlss
 obtain ⟨Bo,do_,rfl, -⟩:=id HX.out.ops
 have K2:=Hd ((K1.out.below_ hb2).alloc (.cells #[.int .i64 s.book.users,.slice Be s.book.entries.length de,.slice Br s.book.rules.length dr,.slice Bg s.book.grants.length dg,.slice Bl s.book.log.length dl,.slice Bx s.book.releases.length dx,.int .i64 s.book.step,.slice Bo s.ops.length do_] 31))
 have X2:=Hd (Blk.new w2 31 #[.int .i64 s.book.users,.slice Be s.book.entries.length de,.slice Br s.book.rules.length dr,.slice Bg s.book.grants.length dg,.slice Bl s.book.log.length dl,.slice Bx s.book.releases.length dx,.int .i64 s.book.step,.slice Bo s.ops.length do_])
 have B2':=Hd (Below.next B1.out hb2 B1.out.size)
 have B2:=Hd (B2'.out.alloc B2'.out.size (.cells #[.int .i64 s.book.users,.slice Be s.book.entries.length de,.slice Br s.book.rules.length dr,.slice Bg s.book.grants.length dg,.slice Bl s.book.log.length dl,.slice Bx s.book.releases.length dx,.int .i64 s.book.step,.slice Bo s.ops.length do_] 31))
 have H2:=Hd (show Below w2.heap.size w2 (w2.alloc (.cells #[.int .i64 s.book.users,.slice Be s.book.entries.length de,.slice Br s.book.rules.length dr,.slice Bg s.book.grants.length dg,.slice Bl s.book.log.length dl,.slice Bx s.book.releases.length dx,.int .i64 s.book.step,.slice Bo s.ops.length do_] 31)) by go_grown)
 clear hs2 hb2 K1 B1 y0 y1 y2 y3 y4 y5 y6 y7
 go_wp2_with fail
 refine (zi3 s _ _ _ _ _ _ w2.heap.size _ H2.out.size (HX.out.below H2.out) (HW.out.below B2.out) FT.out).mono ?_
 rintro u w3 ⟨rfl,hb3⟩
 have K3:=Hd (K2.out.below_ hb3)
 have X3:=Hd (X2.out.below_ hb3)
 have B3:=Hd (Below.next B2.out hb3 B2.out.size)
 have H3:=Hd (Below.next H2.out hb3 H2.out.size)
 have y0:w3.cell? ⟨w.heap.size,0,none⟩=some (.int .i64 s.book.users):=K3.out.cell 0
 have y1:w3.cell? ⟨w.heap.size,1,none⟩=some (.slice Ae s.book.entries.length ce):=K3.out.cell 1
 have y2:w3.cell? ⟨w.heap.size,2,none⟩=some (.slice Ar s.book.rules.length cr):=K3.out.cell 2
 have y3:w3.cell? ⟨w.heap.size,3,none⟩=some (.slice Ag s.book.grants.length cg):=K3.out.cell 3
 have y4:w3.cell? ⟨w.heap.size,4,none⟩=some (.slice Al s.book.log.length cl):=K3.out.cell 4
 have y5:w3.cell? ⟨w.heap.size,5,none⟩=some (.slice Ax s.book.releases.length cx):=K3.out.cell 5
 have y6:w3.cell? ⟨w.heap.size,6,none⟩=some (.int .i64 s.book.step):=K3.out.cell 6
 have y7:w3.cell? ⟨w.heap.size,7,none⟩=some (.slice Ao s.ops.length co):=K3.out.cell 7
 have hel:s.book.entries.length≤1000000:=Nat.le_trans SH.out.1.n1 (by decide)
 clear hb3 K2 X2 B2 B2' H2
 go_wp2_with fail
 refine (zo8 s _ _ _ _ _ _ w.heap.size _ B3.out.size (HA.out.below B3.out) FT.out hel).mono ?_
 rintro u w4 ⟨rfl,hb4⟩
 have K4:=Hd (K3.out.below_ hb4)
 have X4:=Hd (X3.out.below_ hb4)
 have B4:=Hd (Below.next B3.out hb4 B3.out.size)
 have H4:=Hd (Below.next H3.out hb4 H3.out.size)
 have hk:=H4.out.size
 clear hb4 K3 X3 B3 H3 y0 y1 y2 y3 y4 y5 y6 y7
 have CP:=Hd (fun (W:World) (h:Below w4.heap.size w4 W)=>zel s _ _ _ _ _ _ w2.heap.size W (Nat.le_trans hk h.size) (HX.out.below (H4.out.trans (h.mono hk))) (HW.out.below (B4.out.trans (h.mono B4.out.size))) FT.out.ents FT.out.tos)
 have CR:=Hd (fun (W:World) (h:Below w4.heap.size w4 W)=>zkz s _ _ _ _ _ _ w.heap.size W (Nat.le_trans B4.out.size h.size) (HA.out.below (B4.out.trans (h.mono B4.out.size))) hel FT.out.ents FT.out.ruls FT.out.tos)
 have CE:=Hd (fun (W:World) (h:Below w4.heap.size w4 W)=>zgp s s _ _ _ _ _ _ _ _ _ _ _ _ W.heap.size W (Nat.le_refl _) ((HX.out.below (H4.out.trans (h.mono hk))).more (Nat.le_trans hk h.size)) ((HA.out.below (B4.out.trans (h.mono B4.out.size))).more (Nat.le_trans B4.out.size h.size)))
 have LA:=Hd (show ∀W:World,Below w4.heap.size w4 W→W.rangeAt w.heap.size 0 [.int .i64 s.book.users,.slice Ae s.book.entries.length ce,.slice Ar s.book.rules.length cr,.slice Ag s.book.grants.length cg,.slice Al s.book.log.length cl,.slice Ax s.book.releases.length cx,.int .i64 s.book.step,.slice Ao s.ops.length co] from fun W h=>(K4.out.below_ h).range (l:=[_,_,_,_,_,_,_,_]) (o:=0) (by intro j v hj;rw [Nat.zero_add];exact List.getElem?_toArray.trans hj))
 have LX:=Hd (show ∀W:World,Below w4.heap.size w4 W→W.rangeAt w2.heap.size 0 [.int .i64 s.book.users,.slice Be s.book.entries.length de,.slice Br s.book.rules.length dr,.slice Bg s.book.grants.length dg,.slice Bl s.book.log.length dl,.slice Bx s.book.releases.length dx,.int .i64 s.book.step,.slice Bo s.ops.length do_] from fun W h=>(X4.out.below_ h).range (l:=[_,_,_,_,_,_,_,_]) (o:=0) (by intro j v hj;rw [Nat.zero_add];exact List.getElem?_toArray.trans hj))
 obtain ⟨E,hE⟩:∃E,encR s=E:=⟨_,rfl⟩
 rw [hE]
 obtain ⟨be,ee⟩:=E
 obtain ⟨ec,hec⟩:∃E,scpE s=E:=⟨_,rfl⟩
 rw [hec] at CP CR
 clear hE hec HA HX FT SH HW K4 X4 hk hel H4
 go_wp2_with fail
 refine wp_region_held_drew (S:=fun W=>Below w4.heap.size w4 W) (by kernel_rfl) (Below.drewN_ (Below.refl _ _) 1) (fun hHeld=>?_)
 refine tH 0 ⟨some 23,.move (.tmp 4),9,_,_,none⟩ (str be) rfl hHeld ?_
 try go_frame
 refine tH 1 ⟨some 24,.move (.tmp 6),9,_,_,none⟩ (str be) rfl hHeld ?_
 try go_frame
 refine tH 2 ⟨some 25,.binOp .eql 9 (.tmp 23) (.tmp 24) 9,4,_,_,none⟩ (.bool true) rfl hHeld ?_
 try go_frame
 refine tH 3 ⟨some 26,.move (.tmp 25),4,_,_,none⟩ (.bool true) rfl hHeld ?_
 try go_frame
 refine tH 4 ⟨some 27,.move (.tmp 5),35,_,_,some (3,true)⟩ (.int .i64 ee) rfl hHeld ?_
 try go_frame
 refine tH 5 ⟨some 28,.move (.tmp 7),35,_,_,some (3,true)⟩ (.int .i64 ee) rfl hHeld ?_
 try go_frame
 refine tH 6 ⟨some 29,.binOp .eql 35 (.tmp 27) (.tmp 28) 35,4,_,_,some (3,true)⟩ (.bool true) rfl hHeld ?_
 try go_frame
 refine tH 7 ⟨some 30,.pick (.tmp 26) (.tmp 29) (.const (.bool false)),4,_,_,none⟩ (.bool true) rfl hHeld ?_
 try go_frame
 refine tH 8 ⟨some 31,.move (.tmp 30),4,_,_,none⟩ (.bool true) rfl hHeld ?_
 try go_frame
 refine tH 9 ⟨some 32,.load 31 (.tmp 3),31,_,_,some (8,true)⟩ (.agg _) rfl hHeld ?_ (hy:=yieldsIf_load_mid rfl _ _ rfl (w2.heap.size) 0 rfl _ _ LX.out rfl rfl (by kernel_rfl))
 try go_frame
 refine tH 11 ⟨some 34,.load 31 (.tmp 1),31,_,_,some (8,true)⟩ (.agg _) rfl hHeld ?_ (hy:=yieldsIf_load_mid rfl _ _ rfl (w.heap.size) 0 rfl _ _ LA.out rfl rfl (by kernel_rfl))
 try go_frame
 refine tC 10 ⟨some 33,.call { callee:=.value (.func 14),args:=#[.tmp 32],argTypes:=#[31] },35,_,_,some (8,true)⟩ rfl fun K hK=>?_
 go_simp
 go_at_call 14
 refine (CP.out _ hHeld).mono ?_
 rintro u w5 ⟨rfl,hb5⟩
 refine hK.out _ _ (Below.next hHeld hb5 hHeld.size) (fun hHeld=>?_)
 clear hK K
 try go_frame
 refine tC 12 ⟨some 35,.call { callee:=.value (.func 15),args:=#[.tmp 34],argTypes:=#[31] },35,_,_,some (8,true)⟩ rfl fun K hK=>?_
 go_simp
 go_at_call 15
 refine (CR.out _ hHeld).mono ?_
 rintro u w6 ⟨rfl,hb6⟩
 refine hK.out _ _ (Below.next hHeld hb6 hHeld.size) (fun hHeld=>?_)
 clear hK K
 try go_frame
 refine tH 13 ⟨some 36,.binOp .eql 35 (.tmp 33) (.tmp 35) 35,4,_,_,some (8,true)⟩ (.bool true) rfl hHeld ?_
 try go_frame
 refine tH 14 ⟨some 37,.pick (.tmp 31) (.tmp 36) (.const (.bool false)),4,_,_,none⟩ (.bool true) rfl hHeld ?_
 try go_frame
 refine tH 15 ⟨some 38,.move (.tmp 37),4,_,_,none⟩ (.bool true) rfl hHeld ?_
 try go_frame
 refine tH 16 ⟨some 39,.load 31 (.tmp 3),31,_,_,some (15,true)⟩ (.agg _) rfl hHeld ?_ (hy:=yieldsIf_load_mid rfl _ _ rfl (w2.heap.size) 0 rfl _ _ LX.out rfl rfl (by kernel_rfl))
 try go_frame
 refine tH 17 ⟨some 40,.load 31 (.tmp 1),31,_,_,some (15,true)⟩ (.agg _) rfl hHeld ?_ (hy:=yieldsIf_load_mid rfl _ _ rfl (w.heap.size) 0 rfl _ _ LA.out rfl rfl (by kernel_rfl))
 try go_frame
 refine tC 18 ⟨some 41,.call { callee:=.value (.func 16),args:=#[.tmp 39,.tmp 40],argTypes:=#[31,31] },4,_,_,some (15,true)⟩ rfl fun K hK=>?_
 go_simp
 go_at_call 16
 refine (CE.out _ hHeld).mono ?_
 rintro u w7 ⟨rfl,hb7⟩
 refine hK.out _ _ (Below.next hHeld hb7 hHeld.size) (fun hHeld=>?_)
 clear hK K
 try go_frame
 refine tH 19 ⟨some 42,.pick (.tmp 38) (.tmp 41) (.const (.bool false)),4,_,_,none⟩ (.bool true) rfl hHeld ?_
 try go_frame
 refine tH 20 ⟨some 2,.assign (.tmp 42),4,_,_,none⟩ (.bool true) rfl hHeld ?_
 try go_frame
 refine wpAnyH_done (by kernel_rfl) ?_ _
 have HF:=Hd (B4.out.trans (hHeld.mono B4.out.size))
 clear hHeld hb5 hb6 hb7 CP CR CE LA LX
 go_wp2_with fail
 go_ret
 exact ⟨rfl,HF.out⟩
end Go.Proofs.YtamcgggmfghljaaGreatDoor
