/- Layers 31, 41 (program): books and scripts checked (printed by tools/gen_bookchk.py). -/
import Derived.Test.YtamcgggmfghljaaGreatDoorD36
import Derived.Test.YtamcgggmfghljaaGreatDoorD40
import Derived.Test.YtamcgggmfghljaaGreatDoorD41
import Derived.Test.YtamcgggmfghljaaGreatDoorD43
import Derived.Test.YtamcgggmfghljaaGreatDoorD44
import Derived.Test.YtamcgggmfghljaaGreatDoorD45
set_option maxRecDepth 100000
set_option maxHeartbeats 8000000
open Go.Proofs.Tryz
namespace Go.Proofs.YtamcgggmfghljaaGreatDoor
open Go.RowKit
def zfd (step:Int) (z:Option Int):Bool:=match z with
 | some z=>decide (step≤z)
 | none=>false
def bokE (b:Bok):Int:=
 if b.users<1∨64<b.users then 2 else if entE none b.entries≠0 then entE none b.entries else if aclE b.users b.rules≠0 then aclE b.users b.rules
 else if zdx b.users b.grants≠0 then zdx b.users b.grants else if audE b.users b.log b.releases≠0 then audE b.users b.log b.releases
 else if b.step<0∨1099511627776<b.step then 2 else if zfd b.step (b.log.getLast?.map (·.step))=true then 2
 else if zfd b.step (b.releases.getLast?.map (·.step))=true then 2 else 0
def scpE (s:Scp):Int:=if bokE s.book≠0 then bokE s.book else if 4096<s.ops.length then 5 else 0
theorem zlj {α:Type} {c:α→List Value} {k:Nat} (hk:∀x,(c x).length=k) (f:α→Int) (hf:∀x,(c x)[0]?=some (.int .i64 (f x))) {w:World} {B:Nat} {A:Option Addr} {n cap:Nat} {l:List α} (h:Sls c w B (.slice A n cap) l):
 (l.getLast?.map f=none∧n=0)∨∃b o m z,A=some ⟨b,o,none⟩∧n=m+1∧b<B∧l.getLast?.map f=some z∧w.cell? ⟨b,o+m*k,none⟩=some (.int .i64 z):=by
 have hl:=h.len.1
 rcases Nat.eq_zero_or_pos l.length with h0 | h0
 ·refine .inl ⟨?_,by omega⟩
  rw [List.eq_nil_of_length_eq_zero h0]
  rfl
 obtain ⟨m,hm⟩:∃m,l.length=m+1:=⟨l.length-1,by omega⟩
 have hx:=List.getElem?_eq_getElem (l:=l) (i:=m) (by omega)
 obtain ⟨b,o,e,hb,hr⟩:=h.get k hk hx
 refine .inr ⟨b,o,m,f (l[m]'(by omega)),e,by omega,hb,?_,?_⟩
 ·rw [List.getLast?_eq_getElem?,show l.length-1=m by omega,hx]
  rfl
 exact hr 0 _ (hf _)
theorem zie (b:Bok) (e r g l x:Value) (B:Nat) (w:World) (hB:B≤w.heap.size) (hb:RdBok w B b e r g l x) (hw:Words w) (hil:∀x∈b.entries,x.input.length≤1000000) (hto:∀x∈b.log,0≤x.to_∧x.to_<18446744073709551616):
 Calls prog 31 #[vBok b e r g l x] w fun u w'=>u=.returned (.int .i64 (bokE b))∧Below w.heap.size w w':=by
 obtain ⟨Ae,ce,rfl,_⟩:=id hb.ents
 obtain ⟨Ar,cr,rfl,_⟩:=id hb.ruls
 obtain ⟨Ag,cg,rfl,_⟩:=id hb.grts
 obtain ⟨Al,cl,rfl,_⟩:=id hb.evts
 obtain ⟨Ax,cx,rfl,_⟩:=id hb.rlss
 have HB:=Hd hb
 have HW:=Hd hw
 have HIL:=Hd hil
 have HTO:=Hd hto
 have HLL:=Hd (zlj zcw (·.step) (fun _=>rfl) hb.evts)
 have HLX:=Hd (zlj zcv (·.step) (fun _=>rfl) hb.rlss)
 have hml:=hb.evts.len.2.2
 have hmx:=hb.rlss.len.2.2
 unfold maxLen at hml hmx
 clear hb hw hil hto
 have K0:=Hd (Blk.new w 28 #[.int .i64 b.users,.slice Ae b.entries.length ce,.slice Ar b.rules.length cr,.slice Ag b.grants.length cg,.slice Al b.log.length cl,.slice Ax b.releases.length cx,.int .i64 b.step])
 have HB0:=Hd (show Below w.heap.size w (w.alloc (.cells #[.int .i64 b.users,.slice Ae b.entries.length ce,.slice Ar b.rules.length cr,.slice Ag b.grants.length cg,.slice Al b.log.length cl,.slice Ax b.releases.length cx,.int .i64 b.step] 28)) from by go_grown)
 by_cases hu:b.users<1∨64<b.users
 ·have HE:=Hd (show bokE b=2 by unfold bokE;rw [if_pos hu])
  by_cases hu1:b.users<1
  ·clear hu
   go_enter func31,ntmps31
   go_wp2
   go_ret
   exact ⟨by rw [HE.out];rfl,HB0.out⟩
  have hu2:64<b.users:=hu.resolve_left hu1
  clear hu
  go_enter func31,ntmps31
  go_wp2
  go_ret
  exact ⟨by rw [HE.out];rfl,HB0.out⟩
 have HE0:=Hd (show bokE b=_ by unfold bokE;exact if_neg hu)
 have hu1:¬b.users<1:=fun h=>hu (.inl h)
 have hu2:¬64<b.users:=fun h=>hu (.inr h)
 clear hu
 go_enter func31,ntmps31
 go_upto_region 1 with (fail)
 obtain ⟨W0,hW0⟩:∃W0,w.alloc (.cells #[.int .i64 b.users,.slice Ae b.entries.length ce,.slice Ar b.rules.length cr,.slice Ag b.grants.length cg,.slice Al b.log.length cl,.slice Ax b.releases.length cx,.int .i64 b.step] 28)=W0:=⟨_,rfl⟩
 rw [hW0] at K0 HB0 ⊢
 clear hW0
 have q0:W0.cell? ⟨w.heap.size,0,none⟩=some (.int .i64 b.users):=K0.out.cell 0
 have q1:W0.cell? ⟨w.heap.size,1,none⟩=some (.slice Ae b.entries.length ce):=K0.out.cell 1
 go_wp2_with fail
 refine (zmu _ b.entries B _ (Nat.le_trans hB HB0.out.size) (HB.out.ents.below (HB0.out.mono hB)) (HW.out.below HB0.out) HIL.out).mono ?_
 rintro u w1 ⟨i1,rfl,hb1⟩
 generalize entE none b.entries=ee at HE0 ⊢
 have K1:=Hd (K0.out.below_ hb1)
 have HB1:=Hd (Below.next HB0.out hb1 HB0.out.size)
 clear hb1
 clear q0 q1
 by_cases hee:ee=0
 rotate_left
 ·have HE:=Hd (HE0.out.trans (if_pos hee))
  have be:(ee != 0)=true:=by simpa using hee
  clear hee
  go_wp2
  go_ret
  exact ⟨by rw [HE.out];rfl,HB1.out⟩
 have beee:(ee != 0)=false:=by simpa using hee
 have HE1:=Hd (HE0.out.trans (if_neg (by simpa using hee)))
 clear hee
 have q0:w1.cell? ⟨w.heap.size,0,none⟩=some (.int .i64 b.users):=K1.out.cell 0
 have q2:w1.cell? ⟨w.heap.size,2,none⟩=some (.slice Ar b.rules.length cr):=K1.out.cell 2
 go_wp2_with fail
 refine (ztl b.users _ b.rules B _ (Nat.le_trans hB HB1.out.size) (HB.out.ruls.below (HB1.out.mono hB))).mono ?_
 rintro u w2 ⟨i2,rfl,hb2⟩
 generalize aclE b.users b.rules=ea at HE1 ⊢
 have K2:=Hd (K1.out.below_ hb2)
 have HB2:=Hd (Below.next HB1.out hb2 HB1.out.size)
 clear hb2
 clear q0 q2
 by_cases hea:ea=0
 rotate_left
 ·have HE:=Hd (HE1.out.trans (if_pos hea))
  have be:(ea != 0)=true:=by simpa using hea
  clear hea
  go_wp2
  go_ret
  exact ⟨by rw [HE.out];rfl,HB2.out⟩
 have beea:(ea != 0)=false:=by simpa using hea
 have HE2:=Hd (HE1.out.trans (if_neg (by simpa using hea)))
 clear hea
 have q0:w2.cell? ⟨w.heap.size,0,none⟩=some (.int .i64 b.users):=K2.out.cell 0
 have q3:w2.cell? ⟨w.heap.size,3,none⟩=some (.slice Ag b.grants.length cg):=K2.out.cell 3
 go_wp2_with fail
 refine (zmn b.users _ b.grants B _ (Nat.le_trans hB HB2.out.size) (HB.out.grts.below (HB2.out.mono hB))).mono ?_
 rintro u w3 ⟨i3,rfl,hb3⟩
 generalize zdx b.users b.grants=eg at HE2 ⊢
 have K3:=Hd (K2.out.below_ hb3)
 have HB3:=Hd (Below.next HB2.out hb3 HB2.out.size)
 clear hb3
 clear q0 q3
 by_cases heg:eg=0
 rotate_left
 ·have HE:=Hd (HE2.out.trans (if_pos heg))
  have be:(eg != 0)=true:=by simpa using heg
  clear heg
  go_wp2
  go_ret
  exact ⟨by rw [HE.out];rfl,HB3.out⟩
 have beeg:(eg != 0)=false:=by simpa using heg
 have HE3:=Hd (HE2.out.trans (if_neg (by simpa using heg)))
 clear heg
 have q0:w3.cell? ⟨w.heap.size,0,none⟩=some (.int .i64 b.users):=K3.out.cell 0
 have q4:w3.cell? ⟨w.heap.size,4,none⟩=some (.slice Al b.log.length cl):=K3.out.cell 4
 have q5:w3.cell? ⟨w.heap.size,5,none⟩=some (.slice Ax b.releases.length cx):=K3.out.cell 5
 go_wp2_with fail
 refine (zm0 b.users _ _ b.log b.releases B _ (Nat.le_trans hB HB3.out.size) (HB.out.evts.below (HB3.out.mono hB)) (HB.out.rlss.below (HB3.out.mono hB)) HTO.out).mono ?_
 rintro u w4 ⟨rfl,hb4⟩
 generalize audE b.users b.log b.releases=eu at HE3 ⊢
 have K4:=Hd (K3.out.below_ hb4)
 have HB4:=Hd (Below.next HB3.out hb4 HB3.out.size)
 clear hb4
 clear q0 q4 q5
 by_cases heu:eu=0
 rotate_left
 ·have HE:=Hd (HE3.out.trans (if_pos heu))
  have be:(eu != 0)=true:=by simpa using heu
  clear heu
  go_wp2
  go_ret
  exact ⟨by rw [HE.out];rfl,HB4.out⟩
 have beeu:(eu != 0)=false:=by simpa using heu
 have HE4:=Hd (HE3.out.trans (if_neg (by simpa using heu)))
 clear heu
 have q4:w4.cell? ⟨w.heap.size,4,none⟩=some (.slice Al b.log.length cl):=K4.out.cell 4
 have q5:w4.cell? ⟨w.heap.size,5,none⟩=some (.slice Ax b.releases.length cx):=K4.out.cell 5
 have q6:w4.cell? ⟨w.heap.size,6,none⟩=some (.int .i64 b.step):=K4.out.cell 6
 by_cases s0:b.step<0
 ·have HE:=Hd (HE4.out.trans (if_pos (.inl s0)))
  go_wp2
  go_ret
  exact ⟨by rw [HE.out];rfl,HB4.out⟩
 by_cases s1:1099511627776<b.step
 ·have HE:=Hd (HE4.out.trans (if_pos (.inr s1)))
  go_wp2
  go_ret
  exact ⟨by rw [HE.out];rfl,HB4.out⟩
 have HE5:=Hd (HE4.out.trans (if_neg (by rw [not_or];exact ⟨s0,s1⟩)))
 rcases HLL.out with ⟨hn,h0⟩ | ⟨bl,ol,ml,zl,rfl,hlen,hbl,hz,hc⟩
 ·have HE6a:=Hd (HE5.out.trans (if_neg (by rw [hn];simp [zfd])))
  have ed0:decide ((0:Int)<(b.log.length:Int))=false:=by rw [h0];rfl
  have ed1:¬(0:Int)<(b.log.length:Int):=by omega
  have ed2:decide (0<b.log.length)=false:=by rw [h0];rfl
  clear hn h0
  go_wp2_with fail
  go_quiet (fail)
  rcases HLX.out with ⟨hn,h0⟩ | ⟨bx,ox,mx,zx,rfl,hlen,hbx,hz,hc⟩
  ·have HE6:=Hd (HE6a.out.trans (if_neg (by rw [hn];simp [zfd])))
   have b0:((b.releases.length:Int)==0)=true:=by rw [h0];rfl
   have hd0:decide ((0:Int)<(b.releases.length:Int))=false:=by rw [h0];rfl
   have hd1:¬(0:Int)<(b.releases.length:Int):=by omega
   have hd2:decide (0<b.releases.length)=false:=by rw [h0];rfl
   clear hn h0
   go_wp2_with fail
   go_quiet (fail)
   go_wp2
   go_ret
   exact ⟨by rw [HE6.out];rfl,Below.drewN_ (Below.drewN_ HB4.out _) _⟩
  have hcx:w4.cell? ⟨bx,ox+mx*11,none⟩=some (.int .i64 zx):=(HB4.out.cell (p:=⟨bx,ox+mx*11,none⟩) (Nat.lt_of_lt_of_le hbx hB)).trans hc
  have hd0:decide ((0:Int)<(b.releases.length:Int))=true:=by rw [hlen,decide_eq_true_eq];omega
  have hd1:(0:Int)<(b.releases.length:Int):=by omega
  have hd2:decide (0<b.releases.length)=true:=by rw [hlen];simp
  have hmi:(b.releases.length:Int)-1=(mx:Int):=by omega
  have hmz:(0:Int)≤(mx:Int):=Int.natCast_nonneg _
  have hml2:(mx:Int)<(b.releases.length:Int):=by omega
  have hmu:(mx:Int)≤9223372036854775807:=by omega
  by_cases hlt:b.step≤zx
  ·have HE6:=Hd (HE6a.out.trans (if_pos (by rw [hz];simpa [zfd] using hlt)))
   have hdl:decide (b.step≤zx)=true:=decide_eq_true hlt
   clear hz hc hlen
   go_wp2_with fail
   go_quiet (fail)
   go_wp2
   go_ret
   exact ⟨by rw [HE6.out];rfl,Below.drewN_ (Below.drewN_ HB4.out _) _⟩
  have HE6:=Hd (HE6a.out.trans (if_neg (by rw [hz];simpa [zfd] using hlt)))
  have hdl:decide (b.step≤zx)=false:=decide_eq_false hlt
  clear hz hc hlen
  go_wp2_with fail
  go_quiet (fail)
  go_wp2
  go_ret
  exact ⟨by rw [HE6.out];rfl,Below.drewN_ (Below.drewN_ HB4.out _) _⟩
 have hcl:w4.cell? ⟨bl,ol+ml*9,none⟩=some (.int .i64 zl):=(HB4.out.cell (p:=⟨bl,ol+ml*9,none⟩) (Nat.lt_of_lt_of_le hbl hB)).trans hc
 have ed0:decide ((0:Int)<(b.log.length:Int))=true:=by rw [hlen,decide_eq_true_eq];omega
 have ed1:(0:Int)<(b.log.length:Int):=by omega
 have ed2:decide (0<b.log.length)=true:=by rw [hlen];simp
 have emi:(b.log.length:Int)-1=(ml:Int):=by omega
 have emz:(0:Int)≤(ml:Int):=Int.natCast_nonneg _
 have eml2:(ml:Int)<(b.log.length:Int):=by omega
 have emu:(ml:Int)≤9223372036854775807:=by omega
 by_cases hlt:b.step≤zl
 ·have HE6:=Hd (HE5.out.trans (if_pos (by rw [hz];simpa [zfd] using hlt)))
  have hdl:decide (b.step≤zl)=true:=decide_eq_true hlt
  clear hz hc hlen
  go_wp2_with fail
  go_quiet (fail)
  go_wp2
  go_ret
  exact ⟨by rw [HE6.out];rfl,Below.drewN_ HB4.out _⟩
 have HE6a:=Hd (HE5.out.trans (if_neg (by rw [hz];simpa [zfd] using hlt)))
 have hdl:decide (b.step≤zl)=false:=decide_eq_false hlt
 clear hz hc hlen
 go_wp2_with fail
 go_quiet (fail)
 clear hcl ed0 ed1 ed2 emi emz eml2 emu hlt hdl
 rcases HLX.out with ⟨hn,h0⟩ | ⟨bx,ox,mx,zx,rfl,hlen,hbx,hz,hc⟩
 ·have HE6:=Hd (HE6a.out.trans (if_neg (by rw [hn];simp [zfd])))
  have b0:((b.releases.length:Int)==0)=true:=by rw [h0];rfl
  have hd0:decide ((0:Int)<(b.releases.length:Int))=false:=by rw [h0];rfl
  have hd1:¬(0:Int)<(b.releases.length:Int):=by omega
  have hd2:decide (0<b.releases.length)=false:=by rw [h0];rfl
  clear hn h0
  go_wp2_with fail
  go_quiet (fail)
  go_wp2
  go_ret
  exact ⟨by rw [HE6.out];rfl,Below.drewN_ (Below.drewN_ HB4.out _) _⟩
 have hcx:w4.cell? ⟨bx,ox+mx*11,none⟩=some (.int .i64 zx):=(HB4.out.cell (p:=⟨bx,ox+mx*11,none⟩) (Nat.lt_of_lt_of_le hbx hB)).trans hc
 have hd0:decide ((0:Int)<(b.releases.length:Int))=true:=by rw [hlen,decide_eq_true_eq];omega
 have hd1:(0:Int)<(b.releases.length:Int):=by omega
 have hd2:decide (0<b.releases.length)=true:=by rw [hlen];simp
 have hmi:(b.releases.length:Int)-1=(mx:Int):=by omega
 have hmz:(0:Int)≤(mx:Int):=Int.natCast_nonneg _
 have hml2:(mx:Int)<(b.releases.length:Int):=by omega
 have hmu:(mx:Int)≤9223372036854775807:=by omega
 by_cases hlt:b.step≤zx
 ·have HE6:=Hd (HE6a.out.trans (if_pos (by rw [hz];simpa [zfd] using hlt)))
  have hdl:decide (b.step≤zx)=true:=decide_eq_true hlt
  clear hz hc hlen
  go_wp2_with fail
  go_quiet (fail)
  go_wp2
  go_ret
  exact ⟨by rw [HE6.out];rfl,Below.drewN_ (Below.drewN_ HB4.out _) _⟩
 have HE6:=Hd (HE6a.out.trans (if_neg (by rw [hz];simpa [zfd] using hlt)))
 have hdl:decide (b.step≤zx)=false:=decide_eq_false hlt
 clear hz hc hlen
 go_wp2_with fail
 go_quiet (fail)
 go_wp2
 go_ret
 exact ⟨by rw [HE6.out];rfl,Below.drewN_ (Below.drewN_ HB4.out _) _⟩
theorem zel (s:Scp) (e r g l x o:Value) (B:Nat) (w:World) (hB:B≤w.heap.size) (hb:RdScp w B s e r g l x o) (hw:Words w) (hil:∀x∈s.book.entries,x.input.length≤1000000) (hto:∀x∈s.book.log,0≤x.to_∧x.to_<18446744073709551616):
 Calls prog 14 #[vScp s e r g l x o] w fun u w'=>u=.returned (.int .i64 (scpE s))∧Below w.heap.size w w':=by
 obtain ⟨Ao,co,rfl,_⟩:=id hb.ops
 have hm:=hb.ops.len.2.2
 unfold maxLen at hm
 obtain ⟨Ae,ce,rfl,_⟩:=id hb.book.ents
 obtain ⟨Ar,cr,rfl,_⟩:=id hb.book.ruls
 obtain ⟨Ag,cg,rfl,_⟩:=id hb.book.grts
 obtain ⟨Al,cl,rfl,_⟩:=id hb.book.evts
 obtain ⟨Ax,cx,rfl,_⟩:=id hb.book.rlss
 have HC:Hid (∀W,Below w.heap.size w W→Calls prog 31 #[vBok s.book (.slice Ae s.book.entries.length ce) (.slice Ar s.book.rules.length cr) (.slice Ag s.book.grants.length cg) (.slice Al s.book.log.length cl) (.slice Ax s.book.releases.length cx)] W fun u w'=>u=.returned (.int .i64 (bokE s.book))∧Below W.heap.size W w'):=
  Hd (fun W h=>zie s.book _ _ _ _ _ B W (Nat.le_trans hB h.size) (hb.book.below (h.mono hB)) (hw.below h) hil hto)
 have HE:=Hd (show scpE s=if bokE s.book≠0 then bokE s.book else if 4096<s.ops.length then 5 else 0 from rfl)
 generalize bokE s.book=be at HC HE
 generalize scpE s=se at HE ⊢
 clear hb hw hil hto
 go_enter func14,ntmps14
 go_wp2_with fail
 refine (HC.out _ (by go_grown)).mono ?_
 rintro u w1 ⟨rfl,hb1⟩
 have hc1:w1.cell? ⟨w.heap.size,7,none⟩=some (.slice Ao s.ops.length co):=(hb1.cell (p:=⟨w.heap.size,7,none⟩) (by simp)).trans (by go_simp)
 have HB1:=Hd (show Below w.heap.size w w1 from nxt hb1)
 clear hb1
 by_cases h0:be=0
 ·have HE2:=Hd (HE.out.trans (if_neg (by simpa using h0)))
  have b0:(be != 0)=false:=by simpa using h0
  clear HE h0
  by_cases h4:4096<s.ops.length
  ·have HE3:=Hd (HE2.out.trans (if_pos h4))
   have g4:(4096:Int)<(s.ops.length:Int):=by omega
   clear h4
   go_wp2
   go_ret
   exact ⟨by rw [HE3.out];rfl,HB1.out⟩
  have HE3:=Hd (HE2.out.trans (if_neg h4))
  have g4:¬(4096:Int)<(s.ops.length:Int):=by omega
  clear h4
  go_wp2
  go_ret
  exact ⟨by rw [HE3.out];rfl,HB1.out⟩
 have HE2:=Hd (HE.out.trans (if_pos h0))
 have b0:(be != 0)=true:=by simpa using h0
 clear HE h0
 go_wp2
 go_ret
 exact ⟨by rw [HE2.out];rfl,HB1.out⟩
theorem zhs {α:Type} (f:α→Int) (step:Int):∀l:List α,l.Pairwise (fun a b=>f a≤f b)→l.any (fun x=>decide (step≤f x))=zfd step (l.getLast?.map f)
 | [],_=>rfl
 | [x],_=>by simp [zfd]
 | x::y::l,h=>by
  obtain ⟨h1,h2⟩:=List.pairwise_cons.1 h
  have ih:=zhs f step (y::l) h2
  rw [List.any_cons,ih,List.getLast?_cons_cons]
  obtain ⟨z,hz⟩:∃z,(y::l).getLast?=some z:=⟨_,List.getLast?_eq_some_getLast (by simp)⟩
  have hm:=h1 z (List.mem_of_getLast? hz)
  rw [hz]
  simp only [Option.map,zfd]
  by_cases hs:step≤f x
  ·rw [decide_eq_true hs,decide_eq_true (by omega:step≤f z)];rfl
  rw [decide_eq_false hs,Bool.false_or]
theorem zss (u:Int):∀(l:List Evt) (z:Int),evsE u z l=0→(∀y∈l,z<y.step)∧l.Pairwise (fun a b=>a.step≤b.step)
 | [],_,_=>⟨by simp,List.Pairwise.nil⟩
 | x::l,z,h=>by
  unfold evsE at h
  by_cases he:evE u z x≠0
  ·rw [if_pos he] at h;exact absurd h he
  rw [if_neg he] at h
  obtain ⟨h1,h2⟩:=zss u l x.step h
  have hz:z<x.step:=by
   by_cases hz:x.step≤z
   ·exact absurd (by unfold evE;rw [if_pos hz];decide) he
   omega
  refine ⟨fun y hy=>?_,List.pairwise_cons.2 ⟨fun y hy=>Int.le_of_lt (h1 y hy),h2⟩⟩
  rcases List.mem_cons.1 hy with rfl | hy
  ·exact hz
  have:=h1 y hy;omega
theorem zq5 (u:Int):∀(l:List Rls) (z:Int),rlsE u z l=0→(∀y∈l,z≤y.step)∧l.Pairwise (fun a b=>a.step≤b.step)
 | [],_,_=>⟨by simp,List.Pairwise.nil⟩
 | x::l,z,h=>by
  unfold rlsE at h
  by_cases he:rlE u z x≠0
  ·rw [if_pos he] at h;exact absurd h he
  rw [if_neg he] at h
  obtain ⟨h1,h2⟩:=zq5 u l x.step h
  have hz:z≤x.step:=by
   by_cases hz:x.step<z
   ·exact absurd (by unfold rlE;rw [if_pos hz];decide) he
   omega
  refine ⟨fun y hy=>?_,List.pairwise_cons.2 ⟨fun y hy=>h1 y hy,h2⟩⟩
  rcases List.mem_cons.1 hy with rfl | hy
  ·exact hz
  have:=h1 y hy;omega
theorem zvx {u:Int} {l:List Evt} {m:List Rls} (step:Int) (h:audE u l m=0):
 l.any (fun x=>decide (step≤x.step))=zfd step (l.getLast?.map (·.step))∧m.any (fun x=>decide (step≤x.step))=zfd step (m.getLast?.map (·.step)):=by
 unfold audE at h
 by_cases hu:u<1∨64<u
 ·rw [if_pos hu] at h;exact absurd h (by decide)
 rw [if_neg hu] at h
 by_cases he:evsE u (-1) l=0
 ·rw [if_neg (by simpa using he)] at h
  exact ⟨zhs _ _ _ (zss u l _ he).2,zhs _ _ _ (zq5 u m _ h).2⟩
 rw [if_pos he] at h;exact absurd h he
theorem zoh {α:Type} (f:α→Bool) {l:List α} {k:Nat} {x:α} (h:l[k]?=some x):(l.drop k).any f=(f x||(l.drop (k+1)).any f):=by
 have hk:=(List.getElem?_eq_some_iff.1 h).1
 rw [List.drop_eq_getElem_cons hk]
 have:l[k]=x:=by rw [List.getElem?_eq_getElem hk] at h;simpa using h
 rw [this]
 rfl
structure AllR (s:zaa) (L:List Tok) (f:Nat):Prop where
 sign:RunR 296 one1 s L f .sign
 pct:RunR 317 one1 s L f .pct
 prim:RunR 334 one1 s L f .prim
 level:∀k,1≤k→k≤4→RunR 261 (lev1 k) s L f (.level k)
 call:zzl s L f
 arg:∀fn n,1≤fn→fn≤50→n≤2000→RunR 363 (arg1 fn n) s L f (.arg fn n)
theorem ztg (s:zaa) (L:List Tok):AllR s L 0 where
 sign:=fun p ov i T a W h hi hn hf=>by simp only [zbd] at hf;omega
 pct:=fun p ov i T a W h hi hn hf=>by simp only [zbd] at hf;omega
 prim:=fun p ov i T a W h hi hn hf=>by simp only [zbd] at hf;omega
 level:=fun k h1 h4 p ov i T a W h hi hn hf=>by simp only [zbd] at hf;omega
 call:=fun t p ov i T a W h hi hx hk hn hf=>by omega
 arg:=fun fn n h1 h2 h3 p ov i T a W h hi hn hf=>by simp only [zbd] at hf;omega
theorem zth (s:zaa) (L:List Tok) (hL:L.length≤1000) (hN:zfi L=true):∀f,∀f'≤f,AllR s L f'
 | 0,f',h=>by
  obtain rfl:f'=0:=by omega
  exact ztg s L
 | f+1,f',h=>by
  have ih:=zth s L hL hN f
  rcases Nat.lt_or_ge f f' with hlt | hge
  rotate_left
  ·exact ih f' hge
  obtain rfl:f'=f+1:=by omega
  have a:=ih f (Nat.le_refl _)
  exact
   {
    sign:=zx2 s L hL f a.sign a.pct
    pct:=zow s L hL f a.prim
    prim:=zx3 s L hL f (a.level 1 (by omega) (by omega)) a.call
    level:=fun k h1 h4=>by
     refine zuc s L hL k h1 h4 f (fun f' hf'=>?_)
     rcases Nat.lt_or_ge k 4 with hk | hk
     ·unfold nxtS
      rw [if_pos hk]
      exact (ih f' hf').level (k+1) (by omega) (by omega)
     obtain rfl:k=4:=by omega
     exact zq1 s L f' (ih f' hf').sign
    call:=zx5 s L hL hN f (fun f' fn n hf' h1 h2 h3=>(ih f' hf').arg fn n h1 h2 h3)
    arg:=fun fn n h1 h2 h3=>rp_arg s L hL f fn n h1 h2 h3 (a.level 1 (by omega) (by omega)) }
def FormR (s:zaa) (w:World) (u:Ending) (w':World):Prop:=∃v,∃p:Int,u=.returned (.tuple #[v,.int .i64 p,.int .i64 (zaq s).2])∧Sls cNod w' w'.heap.size v (zaq s).1∧Below w.heap.size w w'
theorem FormR.of {s:zaa} {w:World} {u:Ending} {w':World} {l:List Nod} {e:Int} (h:zaq s=(l,e)) (v:Value) (p:Int) (hu:u=.returned (.tuple #[v,.int .i64 p,.int .i64 e])) (hs:Sls cNod w' w'.heap.size v l) (hb:Below w.heap.size w w'):FormR s w u w':=
 ⟨v,p,by rw [h];exact hu,by rw [h];exact hs,hb⟩
theorem zma (s:zaa) (w:World) (hs:s.length≤1000000):
 Calls prog 229 #[str s] w fun u w'=>FormR s w u w':=by
 have HTK:=Hd (zoz s w hs)
 have HTL:=Hd (zm4 s)
 have HTO:=Hd (zqn s)
 have HNB:=Hd (zko s)
 have HFE:=Hd (@zn1 s)
 have HFO:=Hd (@zsj s)
 go_enter func229,ntmps229
 go_wp2_with fail
 refine HTK.out.mono ?_
 rintro u w1 ⟨tv,tp,rfl,ht,hb1, -⟩
 have HB1:=Hd hb1
 have HT:=Hd ht
 obtain ⟨TA,tcap,rfl, -⟩:=id ht
 clear hb1 ht HTK
 obtain ⟨L,hL⟩:∃L,(zae s).1=L:=⟨_,rfl⟩
 obtain ⟨te,hte⟩:∃te,(zae s).2=te:=⟨_,rfl⟩
 rw [hL] at HT HTL HTO HNB HFO ⊢
 rw [hte] at HFE HFO ⊢
 clear hL hte
 by_cases h0:te=0
 rotate_left
 ·have HE:=Hd (HFE.out h0)
  have bt:(te != 0)=true:=by simpa using h0
  clear h0 HFE HFO
  go_wp2
  refine bodyPost_ret (v:=.tuple #[.slice none 0 0,.int .i64 tp,.int .i64 te]) (by simp (maxDischargeDepth:=9) [results,results229,go_sem]) rfl ?_
  exact FormR.of HE.out _ _ rfl (Sls.nil _ _ _ _ _) HB1.out
 have HF:=Hd (HFO.out (by simp [h0]))
 subst h0
 have hl256:=HTL.out
 clear HFE HFO HTL
 have HP0:=Hd (show PR (w1.alloc (.cells #[str s,.slice TA L.length tcap,.int .i64 0,.slice none 0 0,.int .i64 0,.int .i64 0] 272)) w1.heap.size s L (.slice none 0 0) 0 [] 0 0 from
  ⟨⟨_,Blk.new _ _ _,HT.out.below (by go_grown)⟩,Own.nil _ _ _ _,fun k hk=>by simp [Value.ownBlock] at hk⟩)
 have HRU:=Hd (((zth s L (by omega) HNB.out (10*L.length+20) (10*L.length+20) (Nat.le_refl _)).level 1 (by omega) (by omega)) w1.heap.size (.slice none 0 0) 0 [] 0 _ HP0.out (Nat.zero_le _) (by simp;omega) (by simp only [zbd];omega) (by omega))
 have HPK:=Hd (fun st'=>zcz s.length (10*L.length+20) (.level 1) (L,[]) st' (show 1≤4 by omega) (fun k e=>by cases e;omega) ⟨HTO.out,fun n hn=>by simp at hn⟩)
 have HPN:=Hd (fun st'=>za0 s.length (10*L.length+20) (.level 1) (L,[]) st')
 have HBP:=Hd (show Below w.heap.size w (w1.alloc (.cells #[str s,.slice TA L.length tcap,.int .i64 0,.slice none 0 0,.int .i64 0,.int .i64 0] 272)) from HB1.out.alloc HB1.out.size _)
 clear HTO HNB HT
 rw [show lev1 1 w1.heap.size=#[.pointer (some ⟨w1.heap.size,0,none⟩),.int .i64 1] from rfl,List.drop_zero] at HRU
 go_wp2_with fail
 refine HRU.out.mono ?_
 intro u w4 hw
 obtain ⟨W2,hW2⟩:∃W2,w1.alloc (.cells #[str s,.slice TA L.length tcap,.int .i64 0,.slice none 0 0,.int .i64 0,.int .i64 0] 272)=W2:=⟨_,rfl⟩
 rw [hW2] at hw HP0 HBP
 have HSZ:=Hd (show w.heap.size≤w1.heap.size from HB1.out.size)
 obtain ⟨p,hp⟩:∃p,w1.heap.size=p:=⟨_,rfl⟩
 rw [hp] at hw HP0 HSZ ⊢
 clear hW2 hp HRU
 have HB1:=HBP
 have HPL:=Hd (fun (W':World) (ov:Value) (h:PTo p W2 (.slice none 0 0) W' ov)=>HBP.out.trans ((h.old (Nat.le_of_lt HP0.out.lt) (fun k hk=>by simp [Value.ownBlock] at hk)).mono HSZ.out))
 rcases zba hw with ⟨i4,T4,ov4,hr,hi4,rfl,ha,ht4⟩ | ⟨x,er,i4,T4,ov4,hr,he,hi4,hm,rfl,ha,ht4⟩
 rotate_left
 ·have HE:=Hd (show zaq s=([],er) by rw [HF.out,hr])
  have H4:=Hd ha
  have P4:=Hd ht4
  have HER:=Hd he
  clear hr hw ha ht4 HF HPK HPN he
  have i0:(0:Int)≤(i4:Int):=Int.natCast_nonneg _
  by_cases hlt:i4<L.length
  ·have HNX:=Hd (fun W=>zcl p s L ov4 i4 T4 x er W)
   have hil:(i4:Int)<(L.length:Int):=by omega
   generalize zak s.length (L.drop i4,T4)=t at *
   obtain ⟨A5,cp5,c0,c1,c2,c3,c4,c5,cf, -,dl⟩:=H4.out.cells
   have hf4:∀W,(Instr.field 239 (.agg #[.int .u8 t.kind,.int .i64 t.num,str t.text,.int .i64 t.rect.c1,.int .i64 t.rect.r1,.int .i64 t.rect.c2,.int .i64 t.rect.r2,.int .i64 t.at_]) 4).run prog W=.ok (.int .i64 t.at_) W:=fun _=>by rfl
   go_wp2_with fail
   go_quiet (fail)
   go_wp2_with fail
   refine (HNX.out _ (by exact ⟨H4.out.bx,H4.out.ow,H4.out.ob⟩) (by omega)).mono ?_
   rintro u w5 ⟨rfl,hb5⟩
   have H5:=Hd (show PR w5 p s L ov4 i4 T4 x er by first | exact H4.out.below hb5 | exact (PR.below (by exact ⟨H4.out.bx,H4.out.ow,H4.out.ob⟩) hb5))
   have P5:=Hd (show PTo p W2 (.slice none 0 0) w5 ov4 by first | exact P4.out.below hb5 | exact PTo.below (by exact ⟨P4.out.chg.drewN _,P4.out.own⟩) hb5)
   clear hb5 c0 c1 c2 c3 c4 c5 cf dl
   rw [show (cTok t).toArray=#[.int .u8 t.kind,.int .i64 t.num,str t.text,.int .i64 t.rect.c1,.int .i64 t.rect.r1,.int .i64 t.rect.c2,.int .i64 t.rect.r2,.int .i64 t.at_] from rfl]
   go_wp2_with fail
   refine (zdi p s L ov4 i4 T4 x er t.at_ 4 _ H5.out HER.out).mono ?_
   rintro u w6 ⟨rfl,rfl⟩
   obtain ⟨A6,cp6,c0,c1,c2,c3,c4,c5,cf, -,dl⟩:=H5.out.cells
   have HBE:=Hd (HPL.out _ _ P5.out)
   have bne:((er:Int) != 0)=true:=by simpa using HER.out
   go_wp2
   go_quiet (fail)
   go_wp2
   refine bodyPost_ret (v:=.tuple #[.slice none 0 0,.int .i64 x,.int .i64 er]) (by simp (maxDischargeDepth:=9) [results,results229,go_sem]) rfl ?_
   exact FormR.of HE.out _ _ rfl (Sls.nil _ _ _ _ _) (by first | exact HBE.out | exact HBE.out.drew | exact (HBE.out.drew).drew | exact ((HBE.out.drew).drew).drew | exact Below.drewN_ HBE.out _ | exact Below.drewN_ (Below.drewN_ HBE.out _) _)
  have hnl:¬(i4:Int)<(L.length:Int):=by omega
  obtain ⟨A6,cp6,c0,c1,c2,c3,c4,c5,cf, -,dl⟩:=H4.out.cells
  have HBE:=Hd (HPL.out _ _ P4.out)
  have bne:((er:Int) != 0)=true:=by simpa using HER.out
  go_wp2
  go_quiet (fail)
  go_wp2
  go_quiet (fail)
  go_wp2
  refine bodyPost_ret (v:=.tuple #[.slice none 0 0,.int .i64 x,.int .i64 er]) (by simp (maxDischargeDepth:=9) [results,results229,go_sem]) rfl ?_
  exact FormR.of HE.out _ _ rfl (Sls.nil _ _ _ _ _) (by first | exact HBE.out | exact HBE.out.drew | exact (HBE.out.drew).drew | exact ((HBE.out.drew).drew).drew | exact Below.drewN_ HBE.out _ | exact Below.drewN_ (Below.drewN_ HBE.out _) _)
 have H4:=Hd ha
 have P4:=Hd ht4
 have i0:(0:Int)≤(i4:Int):=Int.natCast_nonneg _
 have HR:=Hd hr
 clear hw ha ht4 hr
 by_cases hlt:i4<L.length
 ·have HE:=Hd (show zaq s=([],4) by
   rw [HF.out,HR.out]
   simp only
   rw [if_pos (fun h=>by have:=congrArg List.length h;simp at this;omega)])
  clear HF HR HPK HPN
  have HNX:=Hd (fun W=>zcl p s L ov4 i4 T4 0 0 W)
  have hil:(i4:Int)<(L.length:Int):=by omega
  generalize zak s.length (L.drop i4,T4)=t at *
  obtain ⟨A5,cp5,c0,c1,c2,c3,c4,c5,cf, -,dl⟩:=H4.out.cells
  have hf4:∀W,(Instr.field 239 (.agg #[.int .u8 t.kind,.int .i64 t.num,str t.text,.int .i64 t.rect.c1,.int .i64 t.rect.r1,.int .i64 t.rect.c2,.int .i64 t.rect.r2,.int .i64 t.at_]) 4).run prog W=.ok (.int .i64 t.at_) W:=fun _=>by rfl
  go_wp2_with fail
  go_quiet (fail)
  go_wp2_with fail
  refine (HNX.out _ (by exact ⟨H4.out.bx,H4.out.ow,H4.out.ob⟩) (by omega)).mono ?_
  rintro u w5 ⟨rfl,hb5⟩
  have H5:=Hd (show PR w5 p s L ov4 i4 T4 0 0 by first | exact H4.out.below hb5 | exact (PR.below (by exact ⟨H4.out.bx,H4.out.ow,H4.out.ob⟩) hb5))
  have P5:=Hd (show PTo p W2 (.slice none 0 0) w5 ov4 by first | exact P4.out.below hb5 | exact PTo.below (by exact ⟨P4.out.chg.drewN _,P4.out.own⟩) hb5)
  clear hb5 c0 c1 c2 c3 c4 c5 cf dl
  rw [show (cTok t).toArray=#[.int .u8 t.kind,.int .i64 t.num,str t.text,.int .i64 t.rect.c1,.int .i64 t.rect.r1,.int .i64 t.rect.c2,.int .i64 t.rect.r2,.int .i64 t.at_] from rfl]
  go_wp2_with fail
  refine (zbp p s L ov4 i4 T4 0 t.at_ 4 _ H5.out).mono ?_
  rintro u w6 ⟨rfl,h6,p6⟩
  have H6:=Hd h6
  have P6:=Hd (P5.out.trans p6)
  clear h6 p6
  obtain ⟨A6,cp6,c0,c1,c2,c3,c4,c5,cf, -,dl⟩:=H6.out.cells
  have HBE:=Hd (HPL.out _ _ P6.out)
  have bne:((4:Int) != 0)=true:=by decide
  go_wp2
  go_quiet (fail)
  go_wp2
  refine bodyPost_ret (v:=.tuple #[.slice none 0 0,.int .i64 t.at_,.int .i64 4]) (by simp (maxDischargeDepth:=9) [results,results229,go_sem]) rfl ?_
  exact FormR.of HE.out _ _ rfl (Sls.nil _ _ _ _ _) (by first | exact HBE.out | exact HBE.out.drew | exact (HBE.out.drew).drew | exact ((HBE.out.drew).drew).drew | exact Below.drewN_ HBE.out _ | exact Below.drewN_ (Below.drewN_ HBE.out _) _)
 have HF5:=Hd (show zaq s=if zbx T4≠0 then ([],zbx T4) else (T4,0) by
  rw [HF.out,HR.out]
  simp only
  rw [if_neg (by rw [List.drop_eq_nil_of_le (by omega)];simp)])
 have HNO:=Hd ((HPK.out _ HR.out).nods)
 have hpn:=(HPN.out _ HR.out).2
 have hT4:T4.length≤300:=by simp at hpn;omega
 clear hpn HPK HPN HF HR
 have hnl:¬(i4:Int)<(L.length:Int):=by omega
 have HS4:=Hd (H4.out.ow.sls (by unfold maxLen;omega))
 obtain ⟨A4,k4,rfl, -⟩:=id HS4.out
 have HDP:=Hd (fun w=>zua (.slice A4 T4.length k4) T4 w4.heap.size w)
 obtain ⟨A5,cp5,c0,c1,c2,c3,c4,c5,cf, -,dl⟩:=H4.out.cells
 go_wp2_with fail
 go_quiet (fail)
 go_wp2_with fail
 refine (HDP.out _ (by first | exact Nat.le_refl _ | simp) (by exact HS4.out) (by omega) HNO.out).mono ?_
 rintro u w6 ⟨⟨d,rfl⟩,hb6⟩
 have HB4:=Hd (HPL.out _ _ P4.out)
 have HBE:=Hd (show Below w.heap.size w w6 by first | exact Below.next HB4.out hb6 HB4.out.size | exact Below.next (Below.drewN_ HB4.out _) hb6 HB4.out.size)
 have HS6:=Hd (show Sls cNod w6 w6.heap.size (.slice A4 T4.length k4) T4 by exact (Sls.below (by exact HS4.out) hb6).more hb6.size)
 have y3:w6.cell? ⟨p,3,none⟩=some (.slice A4 T4.length k4):=(hb6.cell (p:=⟨p,3,none⟩) dl).trans c3
 clear hb6 c0 c1 c2 c3 c4 c5 cf HDP
 by_cases ht0:zbx T4=0
 ·have HE:=Hd (HF5.out.trans (if_neg (by simpa using ht0)))
  have bt:(zbx T4 != 0)=false:=by simpa using ht0
  clear ht0 HF5
  go_wp2
  refine bodyPost_ret (v:=.tuple #[.slice A4 T4.length k4,.int .i64 0,.int .i64 0]) (by simp (maxDischargeDepth:=9) [results,results229,go_sem]) rfl ?_
  exact FormR.of HE.out _ _ rfl HS6.out HBE.out
 have HE:=Hd (HF5.out.trans (if_pos ht0))
 have bt:(zbx T4 != 0)=true:=by simpa using ht0
 obtain ⟨te,hte⟩:∃te,zbx T4=te:=⟨_,rfl⟩
 rw [hte] at HE bt ⊢
 clear hte ht0 HF5
 go_wp2
 refine bodyPost_ret (v:=.tuple #[.slice none 0 0,.int .i64 0,.int .i64 te]) (by simp (maxDischargeDepth:=9) [results,results229,go_sem]) rfl ?_
 exact FormR.of HE.out _ _ rfl (Sls.nil _ _ _ _ _) HBE.out
def zi7:Prop:=∀(s:zaa) (w:World),s.length≤256→Calls prog 228 #[str s] w fun u w'=>(∃(k n:Int) (x:zaa),u=.returned (.agg #[.int .u8 k,.int .i64 n,str x]))∧Below w.heap.size w w'
abbrev MngZ (w:World) (g:Nat):Prop:=Blk w g 192 #[.bool false,.int .u8 0,.int .i64 0,.string ⟨#[]⟩,.slice none 0 0]
theorem zev {w:World} {g:Nat} (h:MngZ w g):w.cell? ⟨g,0,none⟩=some (.bool false)∧w.cell? ⟨g,1,none⟩=some (.int .u8 0)∧w.cell? ⟨g,2,none⟩=some (.int .i64 0)∧w.cell? ⟨g,3,none⟩=some (str [])∧w.cell? ⟨g,4,none⟩=some (.slice none 0 0)∧∀o,w.frozen? ⟨g,o,none⟩=false:=
 ⟨h.cell 0,h.cell 1,h.cell 2,h.cell 3,h.cell 4,h.frozen⟩
theorem zh6 {B:Nat} {a w:World} (h:Below B a w) {g:Nat} (hg:B≤g) (v0 v1 v2 v3 v4:Value):Below B a (((((w.setCell ⟨g,0,none⟩ v0).setCell ⟨g,1,none⟩ v1).setCell ⟨g,2,none⟩ v2).setCell ⟨g,3,none⟩ v3).setCell ⟨g,4,none⟩ v4):=
 ((((h.setCell hg _).setCell hg _).setCell hg _).setCell hg _).setCell hg _
def OfR (s:zaa) (w:World) (u:Ending) (w':World):Prop:=(∃(b:Bool) (k n:Int) (x:zaa) (A:Option Addr) (sl sc:Nat) (p:Int),u=.returned (.tuple #[.agg #[.bool b,.int .u8 k,.int .i64 n,str x,.slice A sl sc],.int .i64 p,.int .i64 (ofE s)]))∧Below w.heap.size w w'
theorem OfR.of {s:zaa} {w:World} {u:Ending} {w':World} {e:Int} (h:ofE s=e) (b:Bool) (k n:Int) (x:zaa) (A:Option Addr) (sl sc:Nat) (p:Int) (hu:u=.returned (.tuple #[.agg #[.bool b,.int .u8 k,.int .i64 n,str x,.slice A sl sc],.int .i64 p,.int .i64 e])) (hb:Below w.heap.size w w'):OfR s w u w':=
 ⟨⟨b,k,n,x,A,sl,sc,p,by rw [h];exact hu⟩,hb⟩
theorem ref_of (hc:zi7) (s:zaa) (w:World) (hs:s.length≤1000000):
 Calls prog 200 #[str s] w fun u w'=>OfR s w u w':=by
 have HC:=Hd hc
 clear hc
 have KZ:=Hd (show MngZ (w.alloc (.cells #[.bool false,.int .u8 0,.int .i64 0,.string ⟨#[]⟩,.slice none 0 0] 192)) w.heap.size from Blk.new w _ _)
 have HB0:=Hd (show Below w.heap.size w (w.alloc (.cells #[.bool false,.int .u8 0,.int .i64 0,.string ⟨#[]⟩,.slice none 0 0] 192)) by go_grown)
 obtain ⟨W1,hW1⟩:∃W1,w.alloc (.cells #[.bool false,.int .u8 0,.int .i64 0,.string ⟨#[]⟩,.slice none 0 0] 192)=W1:=⟨_,rfl⟩
 rw [hW1] at KZ HB0
 by_cases h256:256<s.length
 ·have h256':(256:Int)<s.length:=by omega
  have HE:=Hd (show ofE s=5 by unfold ofE;rw [if_pos h256])
  go_enter func200,ntmps200
  go_upto_region 1 with (fail)
  clear hW1
  obtain ⟨q0,q1,q2,q3,q4,qf⟩:=zev KZ.out
  go_wp2
  refine bodyPost_ret (v:=.tuple #[.agg #[.bool false,.int .u8 0,.int .i64 0,str [],.slice none 0 0],.int .i64 (0),.int .i64 (5)]) (by simp (maxDischargeDepth:=9) [results,results200,go_sem,q0,q1,q2,q3,q4]) rfl ?_
  exact OfR.of HE.out _ _ _ _ _ _ _ _ rfl (zh6 HB0.out (Nat.le_refl _) _ _ _ _ _)
 have h256':¬(256:Int)<s.length:=by omega
 have h256n:s.length≤256:=by omega
 go_enter func200,ntmps200
 go_upto_region 1 with (fail)
 clear hW1
 obtain ⟨q0,q1,q2,q3,q4,qf⟩:=zev KZ.out
 go_wp2_with fail
 go_loopw [5] (fun v wr=>∃k:Nat,k≤s.length∧v=.int .i64 k∧(∀j,j<k→32≤ub s j∧ub s j≤126)∧W1=wr) (fun v _=>s.length-(intOf v).toNat)
 case atStart=>exact ⟨0,by omega,rfl,fun j hj=>by omega,rfl⟩
 obtain ⟨k,hk,rfl,hall,rfl⟩:=hrel
 have HA:=Hd hall
 clear hall
 have k0:(0:Int)≤(k:Int):=by omega
 by_cases hkn:k<s.length
 ·have hk1:(k:Int)<(s.length:Int):=by omega
  have hx:=za2 s k (by rw [zad];exact hkn)
  have HU:=Hd (show ub s k=(s.getD k 0).toNat from rfl)
  generalize s.getD k 0=c at hx HU
  by_cases hc:32≤c.toNat∧c.toNat≤126
  ·have c1:¬(c.toNat:Int)<32:=by omega
   have c2:¬126<(c.toNat:Int):=by omega
   have HA2:=Hd (show ∀j,j<k+1→32≤ub s j∧ub s j≤126 from fun j hj=>by
    rcases Nat.lt_or_ge j k with h | h
    ·exact HA.out j h
    obtain rfl:j=k:=by omega
    rw [HU.out];exact hc)
   clear hc
   go_wp2
   exact ⟨⟨k+1,by omega,by go_num,HA2.out,trivial⟩,by simp [intOf];omega⟩
  have HE:=Hd (show ofE s=4 by unfold ofE;rw [if_neg h256,if_pos (znm s k hkn (by rw [HU.out];exact hc))])
  by_cases c1:c.toNat<32
  ·have c1':(c.toNat:Int)<32:=by omega
   clear hc
   go_wp2
   refine bodyPost_ret (v:=.tuple #[.agg #[.bool false,.int .u8 0,.int .i64 0,str [],.slice none 0 0],.int .i64 (k),.int .i64 (4)]) (by simp (maxDischargeDepth:=9) [results,results200,go_sem,q0,q1,q2,q3,q4]) rfl ?_
   exact OfR.of HE.out _ _ _ _ _ _ _ _ rfl (zh6 HB0.out (Nat.le_refl _) _ _ _ _ _)
  have c1':¬(c.toNat:Int)<32:=by omega
  have c2':126<(c.toNat:Int):=by omega
  clear hc
  go_wp2
  refine bodyPost_ret (v:=.tuple #[.agg #[.bool false,.int .u8 0,.int .i64 0,str [],.slice none 0 0],.int .i64 (k),.int .i64 (4)]) (by simp (maxDischargeDepth:=9) [results,results200,go_sem,q0,q1,q2,q3,q4]) rfl ?_
  exact OfR.of HE.out _ _ _ _ _ _ _ _ rfl (zh6 HB0.out (Nat.le_refl _) _ _ _ _ _)
 have hk1:¬(k:Int)<(s.length:Int):=by omega
 have HP:=Hd (zjs s (fun j hj=>HA.out j (by omega)))
 have HE0:=Hd (show ofE s=if s.head?=some 61 then (zaq s.tail).2 else 0 by unfold ofE;rw [if_neg h256,if_neg (by rw [HP.out];decide)])
 clear HA q0 q1 q2 q3 q4 qf
 by_cases hse:s=[]
 ·have be:(s== [])=true:=by simp [hse]
  have HE:=Hd (show ofE s=0 by rw [HE0.out,if_neg (by rw [hse];simp)])
  clear hse HE0
  go_wp2_with fail
  refine (HC.out s _ h256n).mono ?_
  rintro u w5 ⟨⟨ck,cn,cx,rfl⟩,hb5⟩
  have HB5:=Hd (Below.next HB0.out hb5 HB0.out.size)
  have K5:=Hd (show MngZ w5 w.heap.size from Blk.below_ KZ.out hb5)
  clear hb5
  obtain ⟨q0,q1,q2,q3,q4,qf⟩:=zev K5.out
  go_wp2
  refine bodyPost_ret (v:=.tuple #[.agg #[.bool false,.int .u8 ck,.int .i64 cn,str cx,.slice none 0 0],.int .i64 0,.int .i64 0]) (by simp (maxDischargeDepth:=9) [results,results200,go_sem,q0,q1,q2,q3,q4]) rfl ?_
  exact OfR.of HE.out _ _ _ _ _ _ _ _ rfl (zh6 HB5.out (Nat.le_refl _) _ _ _ _ _)
 have be:(s== [])=false:=by simpa using hse
 have hpos:0<s.length:=List.length_pos_iff.2 hse
 have hx:=za2 s 0 (by rw [zad];exact hpos)
 have hhd:s.head?=some (s.getD 0 0):=by
  cases s with
  | nil=>exact absurd rfl hse
  | cons a l=>rfl
 rw [hhd] at HE0
 generalize s.getD 0 0=c at hx HE0
 clear hhd hse
 have hp1:(0:Int)<(s.length:Int):=by omega
 by_cases h61:c.toNat=61
 rotate_left
 ·have b61:((c.toNat:Int) != 61)=true:=by simp;omega
  have HE:=Hd (show ofE s=0 by
   rw [HE0.out,if_neg]
   intro h
   apply h61
   rw [Option.some.inj h]
   rfl)
  clear h61 HE0
  go_wp2_with fail
  refine (HC.out s _ h256n).mono ?_
  rintro u w5 ⟨⟨ck,cn,cx,rfl⟩,hb5⟩
  have HB5:=Hd (Below.next HB0.out hb5 HB0.out.size)
  have K5:=Hd (show MngZ w5 w.heap.size from Blk.below_ KZ.out hb5)
  clear hb5
  obtain ⟨q0,q1,q2,q3,q4,qf⟩:=zev K5.out
  go_wp2
  refine bodyPost_ret (v:=.tuple #[.agg #[.bool false,.int .u8 ck,.int .i64 cn,str cx,.slice none 0 0],.int .i64 0,.int .i64 0]) (by simp (maxDischargeDepth:=9) [results,results200,go_sem,q0,q1,q2,q3,q4]) rfl ?_
  exact OfR.of HE.out _ _ _ _ _ _ _ _ rfl (zh6 HB5.out (Nat.le_refl _) _ _ _ _ _)
 have b61:((c.toNat:Int) != 61)=false:=by simp [h61]
 have HE:=Hd (show ofE s=(zaq s.tail).2 by
  rw [HE0.out,if_pos]
  congr 1
  exact UInt8.toNat_inj.1 h61)
 clear h61 HE0
 have HTL:=Hd (show s.tail.length≤1000000 by rw [List.length_tail];omega)
 go_wp2_with fail
 rw [zfx s 1 _ rfl,show s.drop 1=s.tail from List.drop_one]
 refine (zma s.tail _ HTL.out).mono ?_
 rintro u w5 ⟨fv,fp,rfl,hs5,hb5⟩
 have HB5:=Hd (Below.next HB0.out hb5 HB0.out.size)
 have K5:=Hd (show MngZ w5 w.heap.size from Blk.below_ KZ.out hb5)
 obtain ⟨A,fc,rfl, -⟩:=id hs5
 clear hb5 hs5
 obtain ⟨q0,q1,q2,q3,q4,qf⟩:=zev K5.out
 by_cases he:(zaq s.tail).2=0
 ·have bf:((zaq s.tail).2 != 0)=false:=by simpa using he
  have HE2:=Hd (HE.out.trans he)
  generalize (zaq s.tail).1.length=fl at *
  clear he
  go_wp2
  refine bodyPost_ret (v:=.tuple #[.agg #[.bool true,.int .u8 0,.int .i64 0,str [],.slice A fl fc],.int .i64 0,.int .i64 0]) (by simp (maxDischargeDepth:=9) [results,results200,go_sem,q0,q1,q2,q3,q4]) rfl ?_
  exact OfR.of HE2.out _ _ _ _ _ _ _ _ rfl (zh6 HB5.out (Nat.le_refl _) _ _ _ _ _)
 have bf:((zaq s.tail).2 != 0)=true:=by simpa using he
 generalize (zaq s.tail).2=fe at *
 clear he
 go_wp2
 refine bodyPost_ret (v:=.tuple #[.agg #[.bool false,.int .u8 0,.int .i64 0,str [],.slice none 0 0],.int .i64 (wrap64 (fp+1)),.int .i64 fe]) (by simp (maxDischargeDepth:=9) [results,results200,go_sem,q0,q1,q2,q3,q4]) rfl ?_
 exact OfR.of HE.out _ _ _ _ _ _ _ _ rfl (zh6 HB5.out (Nat.le_refl _) _ _ _ _ _)
def encR (s:Scp):zaa × Int:=if scpE s≠0 then ([],scpE s) else if 65536<(scpB s).length then ([],5) else (scpB s,0)
structure FitS (s:Scp):Prop where
 ok:OkScp s
 ents:∀x∈s.book.entries,x.input.length≤1000000
 oprs:∀x∈s.ops,x.input.length≤1000000
 size:(scpB s).length≤100000000
theorem FitS.writes {s:Scp} (h:FitS s):WritesS s:=by
 obtain ⟨ok,he,ho,_⟩:=h
 refine ⟨fun x hx=>?_,fun x hx=>?_,fun x hx=>?_,fun x hx=>?_,fun x hx=>?_,fun x hx=>?_⟩
 ·intro v l w h hl
  have:=he x hx
  exact wr_ent v l x w (by omega) h hl
 ·intro v l w h hl
  have k:=(ok.book.rules x hx).rights
  exact wr_rul v l x w k.rd.1 (by have:=k.rd.2;omega) k.wr.1 (by have:=k.wr.2;omega) k.ow.1 (by have:=k.ow.2;omega) h hl
 ·intro v l w h hl
  have k:=(ok.book.grants x hx).to_
  exact wr_grt v l x w k.1 (by have:=k.2;omega) h hl
 ·intro v l w h hl
  have k:=(ok.book.log x hx).to_
  exact wr_evt v l x w k.1 (by have:=k.2;omega) h hl
 ·intro v l w h hl
  have k:=(ok.book.releases x hx).to_
  exact wr_rls v l x w k.1 (by have:=k.2;omega) h hl
 intro v l w h hl
 have k:=(ok.ops x hx).to_
 have q:=(ok.ops x hx).rights
 exact zyj x v l w (ho x hx) q.rd.1 (by have:=q.rd.2;omega) q.wr.1 (by have:=q.wr.2;omega) q.ow.1 (by have:=q.ow.2;omega) k.1 (by have:=k.2;omega) h hl
theorem zi3 (s:Scp) (e r g l x o:Value) (B:Nat) (w:World) (hB:B≤w.heap.size) (hb:RdScp w B s e r g l x o) (hw:Words w) (hf:FitS s):
 Calls prog 12 #[vScp s e r g l x o] w fun u w'=>u=.returned (.tuple #[str (encR s).1,.int .i64 (encR s).2])∧Below w.heap.size w w':=by
 obtain ⟨Ae,ce,rfl,_⟩:=id hb.book.ents
 obtain ⟨Ar,cr,rfl,_⟩:=id hb.book.ruls
 obtain ⟨Ag,cg,rfl,_⟩:=id hb.book.grts
 obtain ⟨Al,cl,rfl,_⟩:=id hb.book.evts
 obtain ⟨Ax,cx,rfl,_⟩:=id hb.book.rlss
 obtain ⟨Ao,co,rfl,_⟩:=id hb.ops
 have HC:=Hd (fun (W:World) (hbw:Below w.heap.size w W)=>zel s _ _ _ _ _ _ B W (Nat.le_trans hB hbw.size) (hb.below (hbw.mono hB)) (hw.below hbw) hf.ents (fun x hx=>by have k:=(hf.ok.book.log x hx).to_;exact ⟨k.1,by have:=k.2;omega⟩))
 have HB:=Hd hb
 have HF:=Hd hf
 clear hb hw hf
 by_cases h0:scpE s=0
 rotate_left
 ·have HR:=Hd (show encR s=([],scpE s) by unfold encR;rw [if_pos h0])
  rw [HR.out]
  generalize scpE s=E at *
  go_enter func12,ntmps12
  go_wp2_with fail
  refine (HC.out _ (by go_grown)).mono ?_
  rintro e w1 ⟨rfl,hb1⟩
  have HB1:=Hd (show Below w.heap.size w w1 from nxt hb1)
  clear hb1
  go_wp2
  go_ret2
  exact ⟨rfl,HB1.out⟩
 by_cases hl:(scpB s).length≤65536
 ·have HR:=Hd (show encR s=(scpB s,0) by unfold encR;rw [if_neg (by omega),if_neg (by omega)])
  rw [HR.out]
  go_enter func12,ntmps12
  go_wp2_with fail
  refine (HC.out _ (by go_grown)).mono ?_
  rintro e w1 ⟨rfl,hb1⟩
  rw [h0]
  have KB:=Hd ((Blk.new w 31 #[.int .i64 s.book.users,.slice Ae s.book.entries.length ce,.slice Ar s.book.rules.length cr,.slice Ag s.book.grants.length cg,.slice Al s.book.log.length cl,.slice Ax s.book.releases.length cx,.int .i64 s.book.step,.slice Ao s.ops.length co]).below_ hb1)
  have HB1:=Hd (show Below w.heap.size w w1 from nxt hb1)
  have g0:=KB.out.cell 0
  have g1:=KB.out.cell 1
  have g2:=KB.out.cell 2
  have g3:=KB.out.cell 3
  have g4:=KB.out.cell 4
  have g5:=KB.out.cell 5
  have g6:=KB.out.cell 6
  have g7:=KB.out.cell 7
  clear hb1
  go_wp2_with fail
  refine (zg2 s _ _ _ _ _ _ B _ (by have:=HB1.out.size;omega) (HB.out.below (HB1.out.mono hB)) HF.out.writes (by omega)).mono ?_
  rintro e w2 ⟨v,rfl,ho,ht⟩
  have HB2:=Hd (Below.trans HB1.out ((ht.old (Nat.le_refl _) (by simp [Value.ownBlock])).mono HB1.out.size))
  have hpos:0<(scpB s).length:=by simp [scpB,numI,numB]
  obtain ⟨gb,cap,rfl,hcv⟩:=zjt ho hpos
  clear ho ht g0 g1 g2 g3 g4 g5 g6 g7 KB hpos
  generalize hq:scpB s=q at *
  have HQ:=Hd hq
  clear hq
  go_wp2
  go_ret2
  exact ⟨by rw [← HQ.out];rfl,HB2.out⟩
 have HR:=Hd (show encR s=([],5) by unfold encR;rw [if_neg (by omega),if_pos (by omega)])
 rw [HR.out]
 go_enter func12,ntmps12
 go_wp2_with fail
 refine (HC.out _ (by go_grown)).mono ?_
 rintro e w1 ⟨rfl,hb1⟩
 rw [h0]
 have KB:=Hd ((Blk.new w 31 #[.int .i64 s.book.users,.slice Ae s.book.entries.length ce,.slice Ar s.book.rules.length cr,.slice Ag s.book.grants.length cg,.slice Al s.book.log.length cl,.slice Ax s.book.releases.length cx,.int .i64 s.book.step,.slice Ao s.ops.length co]).below_ hb1)
 have HB1:=Hd (show Below w.heap.size w w1 from nxt hb1)
 have g0:=KB.out.cell 0
 have g1:=KB.out.cell 1
 have g2:=KB.out.cell 2
 have g3:=KB.out.cell 3
 have g4:=KB.out.cell 4
 have g5:=KB.out.cell 5
 have g6:=KB.out.cell 6
 have g7:=KB.out.cell 7
 clear hb1
 go_wp2_with fail
 refine (zg2 s _ _ _ _ _ _ B _ (by have:=HB1.out.size;omega) (HB.out.below (HB1.out.mono hB)) HF.out.writes HF.out.size).mono ?_
 rintro e w2 ⟨v,rfl,ho,ht⟩
 have HB2:=Hd (Below.trans HB1.out ((ht.old (Nat.le_refl _) (by simp [Value.ownBlock])).mono HB1.out.size))
 have hpos:0<(scpB s).length:=by simp [scpB,numI,numB]
 obtain ⟨gb,cap,rfl,hcv⟩:=zjt ho hpos
 clear ho ht g0 g1 g2 g3 g4 g5 g6 g7 KB hpos
 generalize hq:scpB s=q at *
 have HQ:=Hd hq
 clear hq
 go_wp2
 go_ret2
 exact ⟨rfl,HB2.out⟩
theorem zn5 (b:Bool):(zhz b).length≤9:=zab _
end Go.Proofs.YtamcgggmfghljaaGreatDoor
