/- Layers 18, 19, 21, 29 (reference): sets of users; ranges; what changes a book; what may be -/
import Derived.Test.YtamcgggmfghljaaGreatDoorD35
set_option maxRecDepth 100000
set_option maxHeartbeats 8000000
open Go.Proofs.Tryz
namespace Go.Proofs.YtamcgggmfghljaaGreatDoor
open Go.RowKit
theorem zu0 (u:Int) (h0:0≤u) (h1:u<64):IntKind.u64.wrap (2 ^ u.toNat)=2 ^ u.toNat:=by
 have a:(2:Nat) ^ u.toNat≤2 ^ 63:=Nat.pow_le_pow_right (by decide) (by omega)
 have b:1≤(2:Nat) ^ u.toNat:=Nat.one_le_two_pow
 have e:(2:Int) ^ u.toNat=((2 ^ u.toNat:Nat):Int):=by simp
 rw [e,IntKind.wrap_u64]
 omega
theorem zw1 (u:Nat) (h1:u<64):(0:Int)≤2 ^ u∧(2:Int) ^ u<18446744073709551616:=by
 have a:(2:Nat) ^ u≤2 ^ 63:=Nat.pow_le_pow_right (by decide) (by omega)
 have e:(2:Int) ^ u=((2 ^ u:Nat):Int):=by simp
 rw [e]
 obtain ⟨x,hx⟩:∃x:Nat,2 ^ u=x:=⟨_,rfl⟩
 rw [hx] at a ⊢
 omega
theorem zmi (m j:Nat):m &&& 2 ^ j=if m / 2 ^ j % 2=1 then 2 ^ j else 0:=by
 apply Nat.eq_of_testBit_eq
 intro i
 rw [Nat.testBit_and,Nat.testBit_two_pow]
 by_cases h:j=i
 ·subst h
  rw [Nat.testBit_eq_decide_div_mod_eq]
  by_cases hb:m / 2 ^ j % 2=1 <;> simp [hb]
 have h0:decide (j=i)=false:=by simpa using h
 rw [h0,Bool.and_false]
 split
 ·rw [Nat.testBit_two_pow,h0]
 rw [Nat.zero_testBit]
theorem all_or (k:Nat) (hk:k<64):bits .or .u64 (allI k) (2 ^ k)=allI ((k:Int)+1):=by
 have hp:=zw1 k hk
 have hb:=zkh k (by omega)
 rw [Go.u64_or _ _ hb.1 hb.2 hp.1 hp.2]
 unfold allI
 rw [show (k:Int).toNat=k from rfl,show ((k:Int)+1).toNat=k+1 by omega]
 have e:(2:Int) ^ k=((2 ^ k:Nat):Int):=by simp
 have e1:(2:Int) ^ (k+1)=((2 ^ (k+1):Nat):Int):=by simp
 rw [e,e1]
 have b:1≤(2:Nat) ^ k:=Nat.one_le_two_pow
 have h1:(((2 ^ k:Nat):Int)-1).toNat=2 ^ k-1:=by omega
 have h2:(((2 ^ k:Nat):Int)).toNat=2 ^ k:=by omega
 have h3:(2 ^ k-1) ||| 2 ^ k=2 ^ (k+1)-1:=by
  have:=Nat.two_pow_add_eq_or_of_lt (i:=k) (b:=2 ^ k-1) (by omega) 1
  rw [Nat.mul_one] at this
  rw [Nat.or_comm,← this,Nat.pow_succ]
  omega
 rw [h1,h2,h3]
 have b1:1≤(2:Nat) ^ (k+1):=Nat.one_le_two_pow
 omega
theorem zy3 (s:Int) (u:Nat) (s0:0≤s) (s1:s<18446744073709551616) (h:u<64):(bits .and .u64 s (2 ^ u) != 0)=decide (s / 2 ^ u % 2=1):=by
 have hp:=zw1 u h
 rw [Go.u64_and _ _ s0 s1 hp.1 hp.2]
 have e:(2:Int) ^ u=((2 ^ u:Nat):Int):=by simp
 obtain ⟨n,rfl⟩:∃n:Nat,s=n:=⟨s.toNat,by omega⟩
 have h2:(((2 ^ u:Nat):Int)).toNat=2 ^ u:=by omega
 rw [e,h2,show ((n:Nat):Int).toNat=n from rfl,zmi,show ((n:Int) / ((2 ^ u:Nat):Int) % 2)=((n / 2 ^ u % 2:Nat):Int) by simp]
 have b:1≤(2:Nat) ^ u:=Nat.one_le_two_pow
 by_cases hb:n / 2 ^ u % 2=1
 ·have h3:((n / 2 ^ u % 2:Nat):Int)=1:=by omega
  rw [h3,if_pos hb]
  simp only [bne_iff_ne,ne_eq,decide_true,Int.natCast_eq_zero]
  omega
 have h3:((n / 2 ^ u % 2:Nat):Int)≠1:=by omega
 rw [if_neg hb,decide_eq_false h3]
 rfl
theorem zw0 (u:Int) (w:World) (h0:0≤u) (h1:u<64):
 Calls prog 230 #[.int .i64 u] w fun e w'=>e=.returned (.int .u64 (2 ^ u.toNat))∧w=w':=by
 have H:=Hd (zu0 u h0 h1)
 go_enter func230,ntmps230
 go_wp2
 go_ret
 exact ⟨congrArg (fun z=>Ending.returned (.int .u64 z)) (by first | rfl | exact H.out),rfl⟩
theorem rg_all (n:Int) (w:World) (h0:0≤n) (h1:n≤64):
 Calls prog 201 #[.int .i64 n] w fun e w'=>e=.returned (.tuple #[.int .u64 (allI n),.int .i64 0])∧w=w':=by
 obtain ⟨m,rfl⟩:∃m:Nat,n=m:=⟨n.toNat,by omega⟩
 have hm:m≤64:=by omega
 go_enter func201,ntmps201
 go_wp2
 go_loopw [4,5] (fun v i wr=>∃k:Nat,k≤m∧i=.int .i64 k∧v=.int .u64 (allI k)∧w=wr) (fun _ i _=>m-(intOf i).toNat)
 case atStart=>exact ⟨0,Nat.zero_le _,rfl,rfl,rfl⟩
 obtain ⟨k,hk,rfl,rfl,rfl⟩:=hrel
 by_cases hlt:k<m
 ·have hlt':(k:Int)<(m:Int):=by omega
  have k0:(0:Int)≤(k:Int):=by omega
  have HO:=Hd (all_or k (by omega))
  have HC:=Hd (zw0 k w k0 (by omega))
  rw [show ((k:Int)).toNat=k from rfl] at HC
  go_wp2_with fail
  refine HC.out.mono ?_
  rintro u w1 ⟨rfl,rfl⟩
  go_wp2
  exact ⟨⟨k+1,by omega,by go_num,by rw [HO.out];rfl,by trivial⟩,by simp [intOf];omega⟩
 have hlt':¬(k:Int)<(m:Int):=by omega
 obtain rfl:k=m:=by omega
 go_wp2
 go_ret2
 exact ⟨rfl,by trivial⟩
theorem zd9 (s n:Int) (w:World) (h0:0≤n) (h1:n≤64):
 Calls prog 178 #[.int .u64 s,.int .i64 n] w fun e w'=>e=.returned (.bool (decide (bits .andNot .u64 s (allI n)=0)))∧w=w':=by
 go_enter func178,ntmps178
 go_wp2_with fail
 refine (rg_all n _ h0 h1).mono ?_
 rintro u w1 ⟨rfl,rfl⟩
 obtain ⟨x,hx⟩:∃x,bits .andNot .u64 s (allI n)=x:=⟨_,rfl⟩
 have HX:=Hd hx
 clear hx
 go_wp2
 go_ret
 exact ⟨zea (by rw [HX.out,Bool.eq_iff_iff];simp),rfl⟩
theorem rg_has (s u:Int) (w:World) (s0:0≤s) (s1:s<18446744073709551616):
 Calls prog 203 #[.int .u64 s,.int .i64 u] w fun e w'=>e=.returned (.bool (hasI s u))∧w=w':=by
 by_cases hu:0≤u∧u<64
 ·obtain ⟨h0,h1⟩:=hu
  have HB:=Hd (zy3 s u.toNat s0 s1 (by omega))
  have HH:=Hd (show hasI s u=decide (s / 2 ^ u.toNat % 2=1) by simp [hasI,h0,h1])
  have HC:=Hd (zw0 u w h0 h1)
  have HU:Hid (Calls prog 231 #[.int .i64 u] w fun e w'=>e=.returned (.bool true)∧w=w'):=Hd (by
   go_enter func231,ntmps231
   go_wp2
   go_ret
   exact ⟨rfl,rfl⟩)
  go_enter func203,ntmps203
  go_wp2_with fail
  refine HU.out.mono ?_
  rintro e w1 ⟨rfl,rfl⟩
  go_wp2_with fail
  refine HC.out.mono ?_
  rintro e w1 ⟨rfl,rfl⟩
  go_wp2
  go_ret
  exact ⟨zea (by rw [HH.out,← HB.out]),rfl⟩
 have HH:=Hd (show hasI s u=false by
  unfold hasI
  by_cases h0:0≤u
  ·rw [decide_eq_false (fun h1=>hu ⟨h0,h1⟩:¬u<64)];simp
  rw [decide_eq_false h0];simp)
 have HU:Hid (Calls prog 231 #[.int .i64 u] w fun e w'=>e=.returned (.bool false)∧w=w'):=Hd (by
  by_cases h0:0≤u
  ·have h1:¬u<64:=fun h1=>hu ⟨h0,h1⟩
   go_enter func231,ntmps231
   go_wp2
   go_ret
   exact ⟨rfl,rfl⟩
  skip
  go_enter func231,ntmps231
  go_wp2
  go_ret
  exact ⟨rfl,rfl⟩)
 clear hu
 go_enter func203,ntmps203
 go_wp2_with fail
 refine HU.out.mono ?_
 rintro e w1 ⟨rfl,rfl⟩
 go_wp2
 go_ret
 exact ⟨zea (by rw [HH.out]),rfl⟩
theorem zgt (a b c d:Int) (w:World):
 Calls prog 177 #[.agg #[.int .i64 a,.int .i64 b,.int .i64 c,.int .i64 d]] w fun e w'=>e=.returned (.bool (rctB ⟨a,b,c,d⟩))∧Below w.heap.size w w':=by
 have HR:=Hd (show rctB ⟨a,b,c,d⟩=decide (1≤a∧a≤c∧c≤1024∧1≤b∧b≤d∧d≤1024) by
  rw [Bool.eq_iff_iff]
  simp only [rctB,za1,Bool.and_eq_true,decide_eq_true_eq]
  omega)
 generalize rctB ⟨a,b,c,d⟩=r at *
 by_cases h1:1≤a
 rotate_left
 ·have H2:=Hd (show r=false by rw [HR.out];exact decide_eq_false (by omega))
  clear HR
  go_enter func177,ntmps177
  go_wp2
  go_ret
  exact ⟨by rw [H2.out];rfl,by go_grown⟩
 by_cases h2:a≤c
 rotate_left
 ·have H2:=Hd (show r=false by rw [HR.out];exact decide_eq_false (by omega))
  clear HR
  go_enter func177,ntmps177
  go_wp2
  go_ret
  exact ⟨by rw [H2.out];rfl,by go_grown⟩
 by_cases h3:c≤1024
 rotate_left
 ·have H2:=Hd (show r=false by rw [HR.out];exact decide_eq_false (by omega))
  clear HR
  go_enter func177,ntmps177
  go_wp2
  go_ret
  exact ⟨by rw [H2.out];rfl,by go_grown⟩
 by_cases h4:1≤b
 rotate_left
 ·have H2:=Hd (show r=false by rw [HR.out];exact decide_eq_false (by omega))
  clear HR
  go_enter func177,ntmps177
  go_wp2
  go_ret
  exact ⟨by rw [H2.out];rfl,by go_grown⟩
 by_cases h5:b≤d
 rotate_left
 ·have H2:=Hd (show r=false by rw [HR.out];exact decide_eq_false (by omega))
  clear HR
  go_enter func177,ntmps177
  go_wp2
  go_ret
  exact ⟨by rw [H2.out];rfl,by go_grown⟩
 by_cases h6:d≤1024
 rotate_left
 ·have H2:=Hd (show r=false by rw [HR.out];exact decide_eq_false (by omega))
  clear HR
  go_enter func177,ntmps177
  go_wp2
  go_ret
  exact ⟨by rw [H2.out];rfl,by go_grown⟩
 have H2:=Hd (show r=true by rw [HR.out];exact decide_eq_true ⟨h1,h2,h3,h4,h5,h6⟩)
 clear HR
 go_enter func177,ntmps177
 go_wp2
 go_ret
 exact ⟨by rw [H2.out];rfl,by go_grown⟩
theorem zl9 (k:Int) (w:World):
 Calls prog 205 #[.int .u8 k] w fun e w'=>e=.returned (.bool (decide (46≤k)&&decide (k≤50)))∧w=w':=by
 by_cases h1:46≤k
 ·by_cases h2:k≤50
  ·have H:=Hd (show (decide (46≤k)&&decide (k≤50))=true by simp [h1,h2])
   go_enter func205,ntmps205
   go_wp2
   go_ret
   exact ⟨by rw [H.out];rfl,rfl⟩
  have H:=Hd (show decide (k≤50)=false by simp;omega)
  go_enter func205,ntmps205
  go_wp2
  go_ret
  exact ⟨congrArg (fun z=>Ending.returned (.bool z)) (by simp;omega),rfl⟩
 have H:=Hd (show (decide (46≤k)&&decide (k≤50))=false by simp [h1])
 go_enter func205,ntmps205
 go_wp2
 go_ret
 exact ⟨by rw [H.out];rfl,rfl⟩
theorem zy9 (l:zaa) (k:Nat) (h:k<l.length):(⟨l.toArray⟩:ByteArray).extract k (k+1)=⟨[l[k]].toArray⟩:=by
 apply ByteArray.ext
 simp only [ByteArray.data_extract]
 apply Array.ext'
 simp only [Array.toList_extract,List.extract_eq_take_drop,Nat.add_sub_cancel_left]
 rw [List.drop_eq_getElem_cons h]
 rfl
theorem zyg (c:UInt8):txtE [c]=if 32≤c.toNat∧c.toNat≤126 then 0 else 4:=by
 unfold txtE prB
 simp
theorem zye {s:zaa} (h:pltB s=true) (hl:s.length≤256):txtE s=0:=by
 unfold txtE
 rw [if_neg (by omega),if_pos (znl _ h)]
theorem ofE_eq {s:zaa} (hl:s.length≤256) (hp:pltB s=true) (h:s.head?=some 61):ofE s=(zaq s.tail).2:=by
 unfold ofE
 rw [if_neg (by omega),if_neg (by rw [hp];simp),if_pos h]
theorem ofE_no {s:zaa} (hl:s.length≤256) (hp:pltB s=true) (h:s.head?≠some 61):ofE s=0:=by
 unfold ofE
 rw [if_neg (by omega),if_neg (by rw [hp];simp),if_neg h]
theorem pre_61 (s:zaa):([61]:zaa).isPrefixOf s=decide (s.head?=some 61):=by
 cases s with
 | nil=>rfl
 | cons c t=>
  simp only [List.isPrefixOf,List.head?_cons,Option.some.injEq,Bool.and_true]
  rw [Bool.eq_iff_iff]
  simp only [beq_iff_eq,decide_eq_true_eq]
  exact eq_comm
theorem zw3 (s:zaa) (w:World) (hs:s.length≤1000000) (hw:Words w):
 Calls prog 169 #[str s] w fun u w'=>∃(f:Bool) (k n:Int) (x:zaa) (A:Option Addr) (l c:Nat) (p:Int),u=.returned (.tuple #[.agg #[.bool f,.int .u8 k,.int .i64 n,str x,.slice A l c],.int .i64 p,.int .i64 (ofE s)])∧Below w.heap.size w w':=by
 have HW:=Hd hw
 clear hw
 have HB0:=Hd (show Below w.heap.size w (w.alloc (.cells #[.bool false,.int .u8 0,.int .i64 0,str [],.slice none 0 0] 192)) from by go_grown)
 have K0:=Hd (Blk.new w 192 #[.bool false,.int .u8 0,.int .i64 0,str [],.slice none 0 0])
 by_cases h256:256<s.length
 ·have HE:=Hd (show ofE s=5 by unfold ofE;rw [if_pos h256])
  have g256:(256:Int)<(s.length:Int):=by omega
  go_enter func169,ntmps169
  go_wp2
  refine bodyPost_ret (v:=.tuple #[.agg #[.bool false,.int .u8 0,.int .i64 0,str [],.slice none 0 0],.int .i64 0,.int .i64 5]) (by simp (maxDischargeDepth:=9) [results,results169,go_sem]) rfl ?_
  exact ⟨false,0,0,[],none,0,0,0,by rw [HE.out],by go_grown⟩
 have g256:¬(256:Int)<(s.length:Int):=by omega
 have hl256:s.length≤256:=by omega
 go_enter func169,ntmps169
 go_upto_region 3 with (fail)
 obtain ⟨W0,hW0⟩:∃W0,w.alloc (.cells #[.bool false,.int .u8 0,.int .i64 0,str [],.slice none 0 0] 192)=W0:=⟨_,rfl⟩
 rw [show (Value.string ⟨#[]⟩)=str [] from rfl] at *
 rw [hW0] at HB0 K0 ⊢
 clear hW0
 have HPL:Hid ((∀j,j<s.length→32≤ub s j∧ub s j≤126)→pltB s=true):=Hd (zjs s)
 go_wp2_with fail
 go_loopw [15] (fun i wr=>∃k:Nat,k≤s.length∧i=.int .i64 k∧(∀j,j<k→32≤ub s j∧ub s j≤126)∧Below w.heap.size w wr∧Blk wr w.heap.size 192 #[.bool false,.int .u8 0,.int .i64 0,str [],.slice none 0 0]) (fun i _=>s.length-(intOf i).toNat)
 case atStart=>exact ⟨0,by omega,rfl,fun j hj=>by omega,HB0.out,K0.out⟩
 obtain ⟨k,hk,rfl,hpl,hbw,hkw⟩:=hrel
 have HP:=Hd hpl
 have HBW:=Hd hbw
 have KW:=Hd hkw
 clear hpl hbw hkw K0 HB0
 have hk0:(0:Int)≤(k:Int):=Int.natCast_nonneg _
 by_cases hlt:k<s.length
 ·have hk1:(k:Int)<(s.length:Int):=by omega
  have hub:ub s k=s[k].toNat:=by unfold ub;rw [List.getD_eq_getElem?_getD,List.getElem?_eq_getElem hlt];rfl
  have HX:=Hd (zy9 s k hlt)
  have HUB:=Hd hub
  clear hub
  generalize s[k]=c at HX HUB
  go_wp2_with fail
  rw [HX.out]
  refine (zhv [c] _ (by simp)).mono ?_
  rintro u w2 ⟨rfl,hb2⟩
  have K2:=Hd (KW.out.below_ hb2)
  have HB2:=Hd (Below.next HBW.out hb2 HBW.out.size)
  clear hb2
  rw [zyg]
  by_cases hc:32≤c.toNat∧c.toNat≤126
  ·rw [if_pos hc]
   have HC:=Hd hc
   clear hc
   go_wp2
   exact ⟨⟨k+1,by omega,by go_num,fun j hj=>by
    rcases Nat.lt_or_ge j k with h | h
    ·exact HP.out j h
    obtain rfl:j=k:=by omega
    rw [HUB.out]
    exact HC.out,HB2.out,K2.out⟩,by simp [intOf];omega⟩
  rw [if_neg hc]
  have HE:=Hd (show ofE s=4 by
   unfold ofE
   rw [if_neg (by omega),if_pos (znm s k hlt (by rw [HUB.out];exact hc))])
  have g0:=K2.out.cell 0
  have g1:=K2.out.cell 1
  have g2:=K2.out.cell 2
  have g3:=K2.out.cell 3
  have g4:=K2.out.cell 4
  have fr:=K2.out.frozen
  have lb:=K2.out.lt
  clear hc
  go_wp2
  refine bodyPost_ret (v:=.tuple #[.agg #[.bool false,.int .u8 0,.int .i64 0,str [],.slice none 0 0],.int .i64 k,.int .i64 4]) (by simp (maxDischargeDepth:=9) [results,results169,go_sem,g0,g1,g2,g3,g4]) rfl ?_
  exact ⟨false,0,0,[],none,0,0,k,by rw [HE.out],Below.setCell (Below.setCell (Below.setCell (Below.setCell (Below.setCell HB2.out (by simp) _) (by simp) _) (by simp) _) (by simp) _) (by simp) _⟩
 have hpl:=HPL.out (fun j hj=>HP.out j (by omega))
 have hnl:¬(k:Int)<(s.length:Int):=by omega
 have HTX:=Hd (zye hpl hl256)
 have hp61:=pre_61 s
 have HEY:Hid (s.head?=some 61→ofE s=(zaq s.tail).2):=Hd (ofE_eq hl256 hpl)
 have HEN:Hid (s.head?≠some 61→ofE s=0):=Hd (ofE_no hl256 hpl)
 clear hpl HP
 go_wp2_with fail
 refine (zi5 s [61] _ hs (by simp)).mono ?_
 rintro u w2 ⟨rfl,rfl⟩
 by_cases hh:s.head?=some 61
 rotate_left
 ·have HE:=Hd (HEN.out hh)
  have hb:([61]:zaa).isPrefixOf s=false:=by rw [hp61];simpa using hh
  rw [hb]
  clear hh hb hp61
  generalize cutB s [61]=rest
  go_wp2_with fail
  refine (zly s _ HTX.out hs (HW.out.below (HBW.out.mono (Nat.le_refl _)))).mono ?_
  rintro u w3 ⟨kk,n,x,rfl,hb3⟩
  have K3:=Hd (KW.out.below_ hb3)
  have HB3:=Hd (Below.next HBW.out hb3 HBW.out.size)
  clear hb3
  have g0:=K3.out.cell 0
  have g1:=K3.out.cell 1
  have g2:=K3.out.cell 2
  have g3:=K3.out.cell 3
  have g4:=K3.out.cell 4
  have fr:=K3.out.frozen
  have lb:=K3.out.lt
  go_wp2
  refine bodyPost_ret (v:=.tuple #[.agg #[.bool false,.int .u8 kk,.int .i64 n,str x,.slice none 0 0],.int .i64 0,.int .i64 0]) (by simp (maxDischargeDepth:=9) [results,results169,go_sem,g0,g1,g2,g3,g4]) rfl ?_
  exact ⟨false,kk,n,x,none,0,0,0,by rw [HE.out],Below.setCell (Below.setCell (Below.setCell (Below.setCell (Below.setCell HB3.out (by simp) _) (by simp) _) (by simp) _) (by simp) _) (by simp) _⟩
 have HE:=Hd (HEY.out hh)
 have hb:([61]:zaa).isPrefixOf s=true:=by rw [hp61];simpa using hh
 have hcut:cutB s [61]=s.tail:=by rw [zmw hb];simp
 rw [hb,hcut]
 have htl:s.tail.length≤1000000:=by rw [List.length_tail];omega
 clear hh hb hp61 hcut
 go_wp2_with fail
 refine (zmo s.tail _ htl (HW.out.below (HBW.out.mono (Nat.le_refl _)))).mono ?_
 rintro u w3 ⟨v,p,rfl,hsl,hb3⟩
 obtain ⟨A3,c3,rfl, -⟩:=id hsl
 have K3:=Hd (KW.out.below_ hb3)
 have HB3:=Hd (Below.next HBW.out hb3 HBW.out.size)
 clear hb3 hsl
 have g0:=K3.out.cell 0
 have g1:=K3.out.cell 1
 have g2:=K3.out.cell 2
 have g3:=K3.out.cell 3
 have g4:=K3.out.cell 4
 have fr:=K3.out.frozen
 have lb:=K3.out.lt
 by_cases he:(zaq s.tail).2=0
 ·have be:((zaq s.tail).2 != 0)=false:=by simpa using he
  have HE0:=Hd (HE.out.trans he)
  clear he
  go_wp2
  refine bodyPost_ret (v:=.tuple #[.agg #[.bool true,.int .u8 0,.int .i64 0,str [],.slice A3 (zaq s.tail).1.length c3],.int .i64 0,.int .i64 0]) (by simp (maxDischargeDepth:=9) [results,results169,go_sem,g0,g1,g2,g3,g4]) rfl ?_
  exact ⟨true,0,0,[],A3,_,c3,0,by rw [HE0.out],Below.setCell (Below.setCell (Below.setCell (Below.setCell (Below.setCell HB3.out (by simp) _) (by simp) _) (by simp) _) (by simp) _) (by simp) _⟩
 have be:((zaq s.tail).2 != 0)=true:=by simpa using he
 generalize (zaq s.tail).2=fe at *
 clear he
 go_wp2
 refine bodyPost_ret (v:=.tuple #[.agg #[.bool false,.int .u8 0,.int .i64 0,str [],.slice none 0 0],.int .i64 (wrap64 (p+1)),.int .i64 fe]) (by simp (maxDischargeDepth:=9) [results,results169,go_sem,g0,g1,g2,g3,g4]) rfl ?_
 exact ⟨false,0,0,[],none,0,0,_,by rw [HE.out],Below.setCell (Below.setCell (Below.setCell (Below.setCell (Below.setCell HB3.out (by simp) _) (by simp) _) (by simp) _) (by simp) _) (by simp) _⟩
def za6 (p:Option Ent) (x:Ent):Int:=
 if za1 x.at_.col x.at_.row=false then 3 else if (p.map fun y=>zgb y.at_ x.at_)=some false then 12 else if x.input=[] then 2 else ofE x.input
def entE:Option Ent→List Ent→Int
 | _,[]=>0
 | p,x::l=>if za6 p x≠0 then za6 p x else entE (some x) l
def zbb (l:List Ent) (k:Nat):Option Ent:=if k=0 then none else l[k-1]?
theorem zlu (l:List Ent) {k:Nat} {x:Ent} (h:l[k]?=some x):entE (zbb l k) (l.drop k)=if za6 (zbb l k) x≠0 then za6 (zbb l k) x else entE (zbb l (k+1)) (l.drop (k+1)):=by
 have hk:=(List.getElem?_eq_some_iff.1 h).1
 rw [List.drop_eq_getElem_cons hk]
 have e:l[k]=x:=by rw [List.getElem?_eq_getElem hk] at h;simpa using h
 have e2:zbb l (k+1)=some x:=by
  unfold zbb
  rw [if_neg (by omega),Nat.add_sub_cancel,h]
 rw [e,e2]
 rfl
theorem zmu (sv:Value) (l:List Ent) (B:Nat) (w:World) (hB:B≤w.heap.size) (hs:Sls cEnt w B sv l) (hw:Words w) (hil:∀x∈l,x.input.length≤1000000):
 Calls prog 110 #[sv] w fun u w'=>∃i,u=.returned (.tuple #[.int .i64 i,.int .i64 (entE none l)])∧Below w.heap.size w w':=by
 obtain ⟨A,cap,rfl,hc,hm,hr⟩:=id hs
 have HS:=Hd hs
 have HW:=Hd hw
 have HIL:=Hd hil
 clear hs hr hw hil
 unfold maxLen at hm
 go_enter func110,ntmps110
 go_wp2_with fail
 go_loopw [11] (fun i wr=>∃k:Nat,k≤l.length∧i=.int .i64 k∧Below w.heap.size w wr∧entE none l=entE (zbb l k) (l.drop k)) (fun i _=>l.length-(intOf i).toNat)
 case atStart=>exact ⟨0,by omega,rfl,by go_grown,by simp [zbb]⟩
 obtain ⟨k,hk,rfl,hbw,hfe⟩:=hrel
 have HF:=Hd hfe
 have HBW:=Hd hbw
 clear hfe
 by_cases hlt:k<l.length
 rotate_left
 ·go_wp2
  go_ret2
  refine ⟨0,?_,HBW.out⟩
  rw [HF.out,List.drop_eq_nil_of_le (by omega)]
  rfl
 have hy:l[k]?=some l[k]:=List.getElem?_eq_getElem hlt
 obtain ⟨b,o,hA,hb2,r⟩:=(HS.out.below (hbw.mono hB)).get 3 zbw hy
 have HD:=Hd (zlu l hy)
 have HIN:=Hd (HIL.out l[k] (List.getElem_mem hlt))
 generalize l[k]=y at *
 subst hA
 have HE:Hid (za6 (zbb l k) y≠0→entE none l=za6 (zbb l k) y):=Hd (fun h=>by rw [HF.out,HD.out,if_pos h])
 have r0:wr.cell? ⟨b,o+k*3,none⟩=some (.int .i64 y.at_.col):=r 0 _ rfl
 have r1:wr.cell? ⟨b,o+k*3+1,none⟩=some (.int .i64 y.at_.row):=r 1 _ rfl
 have r2:wr.cell? ⟨b,o+k*3+2,none⟩=some (str y.input):=r 2 _ rfl
 have K0:=Hd (Blk.new wr 58 #[.int .i64 y.at_.col,.int .i64 y.at_.row,str y.input])
 have HB0:=Hd (show Below w.heap.size w (wr.alloc (.cells #[.int .i64 y.at_.col,.int .i64 y.at_.row,str y.input] 58)) from HBW.out.alloc HBW.out.size _)
 have hi0:(0:Int)≤(k:Int):=Int.natCast_nonneg _
 have hi1:(k:Int)<(l.length:Int):=by omega
 have hblt:b<wr.heap.size:=by have:=HBW.out.size;omega
 clear r hy
 go_wp2_with fail
 refine (zef _ _ _).mono ?_
 rintro u w2 ⟨rfl,hb2'⟩
 have K2:=Hd (K0.out.below_ hb2')
 have HB2:=Hd (Below.next HB0.out hb2' HB0.out.size)
 have HBR:=Hd (show Below wr.heap.size wr w2 from Below.next (by go_grown) hb2' (by simp))
 clear hb2' K0 r0 r1 r2
 have x0:w2.cell? ⟨wr.heap.size,0,none⟩=some (.int .i64 y.at_.col):=K2.out.cell 0
 have x1:w2.cell? ⟨wr.heap.size,1,none⟩=some (.int .i64 y.at_.row):=K2.out.cell 1
 have x2:w2.cell? ⟨wr.heap.size,2,none⟩=some (str y.input):=K2.out.cell 2
 cases hv:za1 y.at_.col y.at_.row with
 | false=>
  have HY:=Hd (show za6 (zbb l k) y=3 by unfold za6;rw [if_pos hv])
  go_wp2
  go_ret2
  exact ⟨k,by rw [HE.out (by rw [HY.out];decide),HY.out];rfl,HB2.out⟩
 | true=>
 by_cases hk0:k=0
 ·subst hk0
  have HO:Hid (za6 (zbb l 0) y=if y.input=[] then 2 else ofE y.input):=Hd (by
   unfold za6
   rw [if_neg (by rw [hv];simp),if_neg (by simp [zbb])])
  go_wp2_with fail
  go_quiet (fail)
  have x2q:(w2.drewN nq).cell? ⟨wr.heap.size,2,none⟩=some (str y.input):=x2
  by_cases hin:y.input=[]
  ·have HY:=Hd (show za6 (zbb l 0) y=2 from HO.out.trans (if_pos hin))
   have bi:(y.input==([]:List UInt8))=true:=by simp [hin]
   clear hin
   go_wp2
   go_ret2
   exact ⟨_,by rw [HE.out (by rw [HY.out];decide),HY.out];rfl,(Below.drewN_ HB2.out _)⟩
  have bi:(y.input==([]:List UInt8))=false:=by simpa using hin
  have HY:=Hd (HO.out.trans (if_neg hin))
  clear hin
  go_wp2_with fail
  refine (zw3 y.input _ HIN.out (HW.out.below ((Below.drewN_ HB2.out _).mono (Nat.le_refl _)))).mono ?_
  rintro u w5 ⟨f,kk,n,x,A5,l5,c5,p5,rfl,hb5⟩
  have HB5:=Hd (Below.next ((Below.drewN_ HB2.out _)) hb5 ((Below.drewN_ HB2.out _)).size)
  have HB6:=Hd (HB5.out.alloc HB5.out.size (.cells #[.bool f,.int .u8 kk,.int .i64 n,str x,.slice A5 l5 c5] 192))
  clear hb5
  by_cases he:ofE y.input=0
  ·have be:(ofE y.input != 0)=false:=by simpa using he
   have HZ:=Hd (HY.out.trans he)
   clear he
   go_wp2
   exact ⟨⟨0+1,by omega,by go_num,HB6.out,by rw [HF.out,HD.out,HZ.out];rfl⟩,by simp [intOf];omega⟩
  have be:(ofE y.input != 0)=true:=by simpa using he
  have HN:=Hd (show za6 (zbb l 0) y≠0 by rw [HY.out];exact he)
  clear he
  go_wp2
  go_ret2
  exact ⟨_,by rw [HE.out HN.out,HY.out];rfl,HB6.out⟩
 obtain ⟨m,rfl⟩:∃m,k=m+1:=⟨k-1,by omega⟩
 have hz:l[m]?=some (l[m]'(by omega)):=List.getElem?_eq_getElem (by omega)
 obtain ⟨b4,o4,hA4,hb4,r4⟩:=(HS.out.below (hbw.mono hB)).get 3 zbw hz
 have HPR:=Hd (show zbb l (m+1)=some (l[m]'(by omega)) by unfold zbb;rw [if_neg (by omega),Nat.add_sub_cancel];exact hz)
 generalize l[m]'(by omega)=z at *
 injection hA4 with hA4
 injection hA4 with e1 e2
 subst e1 e2
 have HO:Hid (za6 (zbb l (m+1)) y=if zgb z.at_ y.at_=false then 12 else if y.input=[] then 2 else ofE y.input):=Hd (by
  unfold za6
  rw [if_neg (by rw [hv];simp),HPR.out]
  simp only [Option.map_some,Option.some.injEq])
 have RR:=Hd r4
 have LZ:=Hd (show ∀W:World,Below w2.heap.size w2 W→W.rangeAt b (o+m*3) [.int .i64 z.at_.col,.int .i64 z.at_.row] from fun W h=>by
  intro j v hj
  refine (h.cell (p:=⟨b,o+m*3+j,none⟩) (Nat.lt_of_lt_of_le hblt HBR.out.size)).trans ((HBR.out.cell (p:=⟨b,o+m*3+j,none⟩) hblt).trans (RR.out j v ?_))
  rcases j with _ | _ | j
  ·exact hj
  ·exact hj
  simp at hj)
 have LY:=Hd (show ∀W:World,Below w2.heap.size w2 W→W.rangeAt wr.heap.size 0 [.int .i64 y.at_.col,.int .i64 y.at_.row] from fun W h=>(K2.out.below_ h).range (by
  intro j v hj
  rw [Nat.zero_add]
  rcases j with _ | _ | j
  ·exact hj
  ·exact hj
  simp at hj))
 have hm0:(0:Int)≤(m:Int):=Int.natCast_nonneg _
 have hm1:(m:Int)<(l.length:Int):=by omega
 clear r4 hz
 go_upto_region 6 with (fail)
 have HM1:Hid (((m+1:Nat):Int)=(m:Int)+1):=Hd (by omega)
 try rw [HM1.out]
 refine wp_region_noPanic ?_
 refine wp_region_held_drew (S:=fun W=>Below w2.heap.size w2 W) (by kernel_rfl) (Below.refl _ _).drew (fun hHeld=>?_)
 refine tH 0 ⟨some 21,.move (.tmp 4),3,_,_,none⟩ (.int .i64 ((m:Int)+1)) rfl hHeld ?_
 try go_frame
 refine tH 1 ⟨some 22,.binOp .gtr 3 (.tmp 21) (.const (.int .i64 0)) 3,4,_,_,none⟩ (.bool true) rfl hHeld ?_
 try go_frame
 refine tH 2 ⟨some 23,.move (.tmp 22),4,_,_,none⟩ (.bool true) rfl hHeld ?_
 try go_frame
 refine tH 3 ⟨some 24,.move (.tmp 0),22,_,_,some (2,true)⟩ (.slice (some ⟨b,o,none⟩) l.length cap) rfl hHeld ?_
 try go_frame
 refine tH 4 ⟨some 25,.move (.tmp 4),3,_,_,some (2,true)⟩ (.int .i64 ((m:Int)+1)) rfl hHeld ?_
 try go_frame
 refine tH 5 ⟨some 26,.binOp .sub 3 (.tmp 25) (.const (.int .i64 1)) 3,3,_,_,some (2,true)⟩ (.int .i64 m) rfl hHeld ?_ (hy:=Or.inl ⟨by rfl,by intro W hW;go_simp;rw [IntKind.wrap_i64];omega⟩)
 try go_frame
 refine tH 6 ⟨some 27,.indexAddr 22 (.tmp 24) (.tmp 26),_,_,_,some (2,true)⟩ (.pointer (some ⟨b,o+m*3,none⟩)) rfl hHeld ?_
 try go_frame
 refine tH 7 ⟨some 28,.fieldAddr 58 (.tmp 27) 0,_,_,_,some (2,true)⟩ (.pointer (some ⟨b,o+m*3,none⟩)) rfl hHeld ?_
 try go_frame
 refine tH 8 ⟨some 29,.load 56 (.tmp 28),56,_,_,some (2,true)⟩ (.agg _) rfl hHeld ?_ (hy:=yieldsIf_load_mid rfl _ _ rfl (b) (o+m*3) rfl _ _ LZ.out rfl rfl (by kernel_rfl))
 try go_frame
 refine tH 9 ⟨some 30,.fieldAddr 58 (.tmp 5) 0,_,_,_,some (2,true)⟩ (.pointer (some ⟨wr.heap.size,0,none⟩)) rfl hHeld ?_
 try go_frame
 refine tH 10 ⟨some 31,.load 56 (.tmp 30),56,_,_,some (2,true)⟩ (.agg _) rfl hHeld ?_ (hy:=yieldsIf_load_mid rfl _ _ rfl (wr.heap.size) (0) rfl _ _ LY.out rfl rfl (by kernel_rfl))
 try go_frame
 refine tC 11 ⟨some 32,.call { callee:=.value (.func 126),args:=#[.tmp 29,.tmp 31],argTypes:=#[56,56] },4,_,_,some (2,true)⟩ rfl fun K hK=>?_
 go_simp
 go_at_call 126
 refine (ztj _ _ _ _ _).mono ?_
 rintro u w3 ⟨rfl,hb3⟩
 refine hK.out _ _ (Below.next hHeld hb3 hHeld.size) (fun hHeld=>?_)
 clear hK K
 try go_frame
 have HB3:=Hd (HB2.out.trans (hHeld.mono HB2.out.size))
 have K3:=Hd (K2.out.below_ hHeld)
 clear x0 x1 x2
 cases hls:zgb z.at_ y.at_ with
 | false=>
  have HY:=Hd (show za6 (zbb l (m+1)) y=12 by rw [HO.out,if_pos hls])
  have hls':zgb ⟨z.at_.col,z.at_.row⟩ ⟨y.at_.col,y.at_.row⟩=false:=hls
  try rw [hls']
  refine tH 12 ⟨some 33,.unOp .not 4 (.tmp 32),4,_,_,some (2,true)⟩ (.bool true) rfl hHeld ?_
  try go_frame
  refine tH 13 ⟨some 34,.pick (.tmp 23) (.tmp 33) (.const (.bool false)),4,_,_,none⟩ (.bool true) rfl hHeld ?_
  try go_frame
  refine wpAnyH_done (by kernel_rfl) ?_ _
  refine NoPanic.normal ?_
  clear hHeld
  go_wp2
  go_ret2
  exact ⟨_,by rw [HE.out (by rw [HY.out];decide),HY.out];rfl,HB3.out⟩
 | true=>
 have HO2:=Hd (HO.out.trans (if_neg (by rw [hls];simp)))
 have hls':zgb ⟨z.at_.col,z.at_.row⟩ ⟨y.at_.col,y.at_.row⟩=true:=hls
 try rw [hls']
 refine tH 12 ⟨some 33,.unOp .not 4 (.tmp 32),4,_,_,some (2,true)⟩ (.bool false) rfl hHeld ?_
 try go_frame
 refine tH 13 ⟨some 34,.pick (.tmp 23) (.tmp 33) (.const (.bool false)),4,_,_,none⟩ (.bool false) rfl hHeld ?_
 try go_frame
 refine wpAnyH_done (by kernel_rfl) ?_ _
 refine NoPanic.normal ?_
 clear hHeld LZ LY HO
 have x2:w3.cell? ⟨wr.heap.size,2,none⟩=some (str y.input):=K3.out.cell 2
 by_cases hin:y.input=[]
 ·have HY:=Hd (show za6 (zbb l (m+1)) y=2 from HO2.out.trans (if_pos hin))
  have bi:(y.input==([]:List UInt8))=true:=by simp [hin]
  clear hin
  go_wp2
  go_ret2
  exact ⟨_,by rw [HE.out (by rw [HY.out];decide),HY.out];rfl,HB3.out⟩
 have bi:(y.input==([]:List UInt8))=false:=by simpa using hin
 have HY:=Hd (HO2.out.trans (if_neg hin))
 clear hin
 go_wp2_with fail
 refine (zw3 y.input _ HIN.out (HW.out.below (HB3.out.mono (Nat.le_refl _)))).mono ?_
 rintro u w5 ⟨f,kk,n,x,A5,l5,c5,p5,rfl,hb5⟩
 have HB5:=Hd (Below.next (HB3.out) hb5 (HB3.out).size)
 have HB6:=Hd (HB5.out.alloc HB5.out.size (.cells #[.bool f,.int .u8 kk,.int .i64 n,str x,.slice A5 l5 c5] 192))
 clear hb5
 by_cases he:ofE y.input=0
 ·have be:(ofE y.input != 0)=false:=by simpa using he
  have HZ:=Hd (HY.out.trans he)
  clear he
  go_wp2
  exact ⟨⟨(m+1)+1,by omega,by go_num,HB6.out,by rw [HF.out,HD.out,HZ.out];rfl⟩,by simp [intOf];omega⟩
 have be:(ofE y.input != 0)=true:=by simpa using he
 have HN:=Hd (show za6 (zbb l (m+1)) y≠0 by rw [HY.out];exact he)
 clear he
 go_wp2
 go_ret2
 exact ⟨_,by rw [HE.out HN.out,HY.out];rfl,HB6.out⟩
end Go.Proofs.YtamcgggmfghljaaGreatDoor
