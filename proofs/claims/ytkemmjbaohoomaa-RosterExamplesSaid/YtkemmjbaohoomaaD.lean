/- The first law's walk, whole; the second law's walk. -/
import Derived.Test.YtkemmjbaohoomaaC
namespace Go.Proofs.Ytkemmjbaohoomaa
open Go.RowKit

set_option maxHeartbeats 400000 in
theorem keeps_no (n : Int) (A : Option Addr) (len cap : Nat) (w : World) (h : n < 1 ∨ 64 < n ∨ 200 < (len : Int)) :
    Calls Try.prog 3 #[.int .i64 n, .slice A len cap] w fun e w' => e = .returned (.bool true) ∧ Below w.heap.size w w' := by
  by_cases h1 : n < 1
  · go_enter Try.func3, Try.ntmps3
    go_wp2_with (go_at_call 7; refine (known_any w).mono ?_; rintro e w' ⟨rfl, hb⟩)
    go_ret
    exact ⟨rfl, hb⟩
  · by_cases h2 : 64 < n
    · go_enter Try.func3, Try.ntmps3
      go_wp2_with (go_at_call 7; refine (known_any w).mono ?_; rintro e w' ⟨rfl, hb⟩)
      go_ret
      exact ⟨rfl, hb⟩
    · have h3 : 200 < (len : Int) := by omega
      clear h
      go_enter Try.func3, Try.ntmps3
      go_wp2_with (go_at_call 7; refine (known_any w).mono ?_; rintro e w' ⟨rfl, hb⟩)
      go_ret
      exact ⟨rfl, hb⟩

theorem keeps_all (n : Int) (A : Option Addr) (len cap : Nat) (us : Nat → Int) (os : Nat → Bool) (w : World) (hl : Deeds w A len us os) :
    Calls Try.prog 3 #[.int .i64 n, .slice A len cap] w fun e w' => e = .returned (.bool true) ∧ Below w.heap.size w w' := by
  by_cases h : n < 1 ∨ 64 < n ∨ 200 < (len : Int)
  · exact keeps_no n A len cap w h
  · obtain ⟨k, rfl⟩ : ∃ k : Nat, n = k := ⟨n.toNat, by omega⟩
    exact keeps_walk k A len cap us os w (by omega) (by omega) (by omega) hl

set_option maxHeartbeats 400000 in
theorem back_no (n : Int) (A : Option Addr) (len cap : Nat) (u : Int) (w : World) (h : n < 1 ∨ 64 < n ∨ 100 < (len : Int)) :
    Calls Try.prog 4 #[.int .i64 n, .slice A len cap, .int .i64 u] w fun e w' => e = .returned (.bool true) ∧ Below w.heap.size w w' := by
  by_cases h1 : n < 1
  · go_enter Try.func4, Try.ntmps4
    go_wp2_with (go_at_call 7; refine (known_any w).mono ?_; rintro e w' ⟨rfl, hb⟩)
    go_ret
    exact ⟨rfl, hb⟩
  · by_cases h2 : 64 < n
    · go_enter Try.func4, Try.ntmps4
      go_wp2_with (go_at_call 7; refine (known_any w).mono ?_; rintro e w' ⟨rfl, hb⟩)
      go_ret
      exact ⟨rfl, hb⟩
    · have h3 : 100 < (len : Int) := by omega
      clear h
      go_enter Try.func4, Try.ntmps4
      go_wp2_with (go_at_call 7; refine (known_any w).mono ?_; rintro e w' ⟨rfl, hb⟩)
      go_ret
      exact ⟨rfl, hb⟩

theorem tmod_nat (n : Nat) (u : Int) (h1 : 1 ≤ n) (h2 : n ≤ 64) : ∃ v : Nat, v < n ∧ (wrap64 (u.tmod n + n)).tmod n = (v : Int) := by
  have a1 := Int.tmod_lt_of_pos u (b := n) (by omega)
  have a2 := Int.lt_tmod_of_pos u (b := n) (by omega)
  have e : wrap64 (u.tmod n + n) = u.tmod n + n := by unfold wrap64; omega
  rw [e]
  have b1 := Int.tmod_lt_of_pos (u.tmod n + n) (b := n) (by omega)
  have b2 := Int.tmod_nonneg (n : Int) (a := u.tmod n + n) (by omega)
  exact ⟨((u.tmod n + n).tmod n).toNat, by omega, by omega⟩

theorem bit_shr (f : Nat → Bool) (k : Nat) (hk : k < 64) : (bits BinOp.and IntKind.u64 (((msk f 64 : Nat) : Int) / 2 ^ k) 1 == 1) = f k := by
  have e : ((msk f 64 : Nat) : Int) / 2 ^ k = ((msk f 64 / 2 ^ k : Nat) : Int) := by simp
  have h1 := msk_lt f 64
  have h2 : msk f 64 / 2 ^ k < 18446744073709551616 := Nat.lt_of_le_of_lt (Nat.div_le_self _ _) h1
  have h3 : (msk f 64).testBit k = f k := by rw [msk_bit]; simp [hk]
  rw [e, show (1 : Int) = ((1 : Nat) : Int) from rfl, u64_and_nat _ 1 h2 (by decide), nat_mask1]
  rw [Nat.testBit_eq_decide_div_mod_eq] at h3
  have h4 : msk f 64 / 2 ^ k % 2 = 0 ∨ msk f 64 / 2 ^ k % 2 = 1 := by omega
  rcases h4 with h4 | h4
  · rw [h4] at h3 ⊢; rw [← h3]; rfl
  · rw [h4] at h3 ⊢; rw [← h3]; rfl
theorem bit_andNot (f : Nat → Bool) (k : Nat) (hk : k < 64) : bits BinOp.andNot IntKind.u64 ((msk f 64 : Nat) : Int) (IntKind.u64.wrap (2 ^ k)) = ((msk (upd f k false) 64 : Nat) : Int) := by
  have e : ((2 : Int) ^ k) = ((2 ^ k : Nat) : Int) := by simp
  have h1 := msk_lt f 64
  have h2 : 2 ^ k < 18446744073709551616 := Nat.pow_lt_pow_of_lt (a := 2) (n := k) (m := 64) (by decide) hk
  rw [IntKind.wrap_u64, e, wrapped h2, u64_andNot_nat _ _ h1 h2]
  congr 1
  refine msk_ext fun i => ?_
  rw [Nat.testBit_and, msk_bit, show 18446744073709551615 - 2 ^ k = 2 ^ 64 - (2 ^ k + 1) from by omega, Nat.testBit_two_pow_sub_succ h2, Nat.testBit_two_pow]
  by_cases hi : i < 64
  · by_cases hki : k = i
    · subst hki; simp [upd_self, hi]
    · have : ¬ i = k := fun h => hki h.symm
      simp [upd_other f false this, hi, hki]
  · simp [hi]
theorem bit_or (f : Nat → Bool) (k : Nat) (hk : k < 64) : bits BinOp.or IntKind.u64 ((msk f 64 : Nat) : Int) (IntKind.u64.wrap (2 ^ k)) = ((msk (upd f k true) 64 : Nat) : Int) := by
  have e : ((2 : Int) ^ k) = ((2 ^ k : Nat) : Int) := by simp
  have h1 := msk_lt f 64
  have h2 : 2 ^ k < 18446744073709551616 := Nat.pow_lt_pow_of_lt (a := 2) (n := k) (m := 64) (by decide) hk
  rw [IntKind.wrap_u64, e, wrapped h2, u64_or_nat _ _ h1 h2]
  congr 1
  refine msk_ext fun i => ?_
  rw [Nat.testBit_or, msk_bit, Nat.testBit_two_pow]
  by_cases hki : k = i
  · subst hki; simp [upd_self, hk]
  · have : ¬ i = k := fun h => hki h.symm
    simp [upd_other f true this, hki]
theorem upd_upd (f : Nat → Bool) (k : Nat) (b : Bool) : upd (upd f k b) k (f k) = f := by
  funext i; unfold upd; split <;> simp_all

set_option maxHeartbeats 1000000 in
theorem back_walk (n : Nat) (A : Option Addr) (len cap : Nat) (us : Nat → Int) (os : Nat → Bool) (u : Int) (w : World) (h1 : 1 ≤ (n : Int)) (h2 : (n : Int) ≤ 64) (h3 : (len : Int) ≤ 100) (hl : Deeds w A len us os) :
    Calls Try.prog 4 #[.int .i64 n, .slice A len cap, .int .i64 u] w fun e w' => e = .returned (.bool true) ∧ Below w.heap.size w w' := by
  have HL := Lib.hid hl
  clear hl
  go_enter Try.func4, Try.ntmps4
  go_wp2_with fail
  refine (new_yes n w h1 h2).mono ?_
  rintro e w' ⟨rfl, rfl⟩
  have o0 := Own.new n (fun _ => false) w
  generalize w.alloc (.cells (ros n (fun _ => false)) 45) = w0 at *
  go_wp2_with fail
  go_loopw [9] (fun i wr => ∃ (k : Nat) (f : Nat → Bool), k ≤ len ∧ i = .int .i64 k ∧ Own w.heap.size w.heap.size n f w wr) (fun i _ => len - (intOf i).toNat)
  case atStart => exact ⟨0, fun _ => false, by omega, rfl, o0⟩
  case round =>
    clear o0 w0
    obtain ⟨k, f, hk, rfl, o0⟩ := hrel
    by_cases hlt : k < len
    · obtain ⟨b, off, rfl, hb, c0, c1, hu⟩ := HL.out k hlt
      have d0 : wr.cell? ⟨b, off + k * 2, none⟩ = _ := (o0.bel.cell (p := ⟨b, off + k * 2, none⟩) hb).trans c0
      have d1 : wr.cell? ⟨b, off + k * 2 + 1, none⟩ = _ := (o0.bel.cell (p := ⟨b, off + k * 2 + 1, none⟩) hb).trans c1
      clear c0 c1
      generalize us k = u at *
      cases ho : os k with
      | true =>
        rw [ho] at d1
        clear ho
        go_wp2_with fail
        refine (logout_any w.heap.size n f u wr o0.blk (by omega)).mono ?_
        rintro e w1 ⟨rfl, hd⟩
        have o1 := o0.did hd
        go_wp2
        exact ⟨⟨k + 1, _, by omega, by go_num, o1⟩, by simp [intOf]; omega⟩
      | false =>
        rw [ho] at d1
        clear ho
        go_wp2_with fail
        refine (login_any w.heap.size n f u wr o0.blk (by omega)).mono ?_
        rintro e w1 ⟨rfl, hd⟩
        have o1 := o0.did hd
        go_wp2
        exact ⟨⟨k + 1, _, by omega, by go_num, o1⟩, by simp [intOf]; omega⟩
    · go_wp2_with fail
      obtain ⟨v, hv, e⟩ := tmod_nat n u (by omega) (by omega)
      rw [e]
      clear e
      refine (in_now _ _ n f w wr o0).mono ?_
      rintro e w1 ⟨rfl, o1⟩
      have t0 := bit_shr f v (by omega)
      cases hf : f v with
      | true =>
        rw [hf] at t0
        have t1 : (((msk (upd f v false) 64 : Nat) : Int) == bits BinOp.andNot IntKind.u64 ((msk f 64 : Nat) : Int) (IntKind.u64.wrap (2 ^ v))) = true := by
          rw [bit_andNot f v (by omega)]; simp
        have hg : Hid (upd (upd f v false) v true = f) := by unfold Hid; rw [← hf]; exact upd_upd f v false
        have H1 := Lib.hid (out_ok _ _ n f w w1 o1 (by omega) v hv hf)
        clear hf
        go_wp2_with fail
        refine H1.out.mono ?_
        rintro e w2 ⟨rfl, o2⟩
        go_wp2_with fail
        refine (in_now _ _ n _ w w2 o2).mono ?_
        rintro e w3 ⟨rfl, o3⟩
        go_wp2_with fail
        refine (in_ok _ _ n _ w w3 o3 (by omega) v hv (upd_self _ _ _)).mono ?_
        rintro e w4 ⟨rfl, o4⟩
        rw [hg.out] at o4
        go_wp2_with fail
        refine (in_now _ _ n _ w w4 o4).mono ?_
        rintro e w5 ⟨rfl, o5⟩
        go_wp2_with fail
        refine (known_any w5).mono ?_
        rintro e w6 ⟨rfl, hb⟩
        have o6 := o5.below hb
        go_wp2
        go_ret
        exact ⟨rfl, o6.bel⟩
      | false =>
        rw [hf] at t0
        have t1 : (((msk (upd f v true) 64 : Nat) : Int) == bits BinOp.or IntKind.u64 ((msk f 64 : Nat) : Int) (IntKind.u64.wrap (2 ^ v))) = true := by
          rw [bit_or f v (by omega)]; simp
        have hg : Hid (upd (upd f v true) v false = f) := by unfold Hid; rw [← hf]; exact upd_upd f v true
        have H1 := Lib.hid (in_ok _ _ n f w w1 o1 (by omega) v hv hf)
        clear hf
        go_wp2_with fail
        refine H1.out.mono ?_
        rintro e w2 ⟨rfl, o2⟩
        go_wp2_with fail
        refine (in_now _ _ n _ w w2 o2).mono ?_
        rintro e w3 ⟨rfl, o3⟩
        go_wp2_with fail
        refine (out_ok _ _ n _ w w3 o3 (by omega) v hv (upd_self _ _ _)).mono ?_
        rintro e w4 ⟨rfl, o4⟩
        rw [hg.out] at o4
        go_wp2_with fail
        refine (in_now _ _ n _ w w4 o4).mono ?_
        rintro e w5 ⟨rfl, o5⟩
        go_wp2_with fail
        refine (known_any w5).mono ?_
        rintro e w6 ⟨rfl, hb⟩
        have o6 := o5.below hb
        go_wp2
        go_ret
        exact ⟨rfl, o6.bel⟩

theorem back_all (n : Int) (A : Option Addr) (len cap : Nat) (us : Nat → Int) (os : Nat → Bool) (u : Int) (w : World) (hl : Deeds w A len us os) :
    Calls Try.prog 4 #[.int .i64 n, .slice A len cap, .int .i64 u] w fun e w' => e = .returned (.bool true) ∧ Below w.heap.size w w' := by
  by_cases h : n < 1 ∨ 64 < n ∨ 100 < (len : Int)
  · exact back_no n A len cap u w h
  · obtain ⟨k, rfl⟩ : ∃ k : Nat, n = k := ⟨n.toNat, by omega⟩
    exact back_walk k A len cap us os u w (by omega) (by omega) (by omega) hl

end Go.Proofs.Ytkemmjbaohoomaa
