/- Contracts: the fixed roster 'known', and the first law. -/
import Derived.Test.YtkemmjbaohoomaaB
namespace Go.Proofs.Ytkemmjbaohoomaa
open Go.RowKit

theorem login_any (g n : Nat) (f : Nat → Bool) (u : Int) (w : World) (hg : Blk w g 45 (ros n f)) (hn : n ≤ 64) :
    Calls Try.prog 10 #[.pointer (some ⟨g, 0, none⟩), .int .i64 u] w fun e w' => e = .returned (.int .i64 (chCode n f u true)) ∧ Did g n (chF n f u true) w w' := by
  obtain ⟨w1, h1, h2⟩ := login_all g n f u w hg hn
  exact h2.mono fun e w' ⟨he, hw⟩ => ⟨he, by rw [← hw]; exact h1⟩
theorem logout_any (g n : Nat) (f : Nat → Bool) (u : Int) (w : World) (hg : Blk w g 45 (ros n f)) (hn : n ≤ 64) :
    Calls Try.prog 9 #[.pointer (some ⟨g, 0, none⟩), .int .i64 u] w fun e w' => e = .returned (.int .i64 (chCode n f u false)) ∧ Did g n (chF n f u false) w w' := by
  obtain ⟨w1, h1, h2⟩ := logout_all g n f u w hg hn
  exact h2.mono fun e w' ⟨he, hw⟩ => ⟨he, by rw [← hw]; exact h1⟩

/-- A roster of the call's own, in block g, at world w. -/
structure Own (B g n : Nat) (f : Nat → Bool) (w0 w : World) : Prop where
  blk : Blk w g 45 (ros n f)
  low : B ≤ g
  bel : Below B w0 w
theorem Own.did {B g n : Nat} {f f' : Nat → Bool} {w0 w w' : World} (h : Own B g n f w0 w) (hd : Did g n f' w w') : Own B g n f' w0 w' :=
  ⟨hd.blk, h.low, h.bel.trans ⟨hd.chg.os, hd.chg.tape, hd.chg.output, hd.chg.size, fun k hk => hd.chg.block k (Nat.lt_trans (Nat.lt_of_lt_of_le hk h.low) h.blk.lt) (by have := h.low; omega)⟩⟩
theorem Own.below {B g n : Nat} {f : Nat → Bool} {w0 w w' : World} (h : Own B g n f w0 w) (hd : Below w.heap.size w w') : Own B g n f w0 w' :=
  ⟨(hd.block g h.blk.lt).trans h.blk, h.low, h.bel.trans (hd.mono (by have := h.low; have := h.blk.lt; omega))⟩
theorem Own.new (n : Nat) (f : Nat → Bool) (w : World) : Own w.heap.size w.heap.size n f w (w.alloc (.cells (ros n f) 45)) :=
  ⟨Blk.new _ _ _, Nat.le_refl _, (Below.refl _ _).alloc (Nat.le_refl _) _⟩

theorem chCode_in (n : Nat) (f : Nat → Bool) (k : Nat) (b : Bool) (hk : k < n) (hf : f k = !b) : chCode n f k b = 0 := by
  have h : ¬ ((k : Int) < 0 ∨ (n : Int) ≤ k) := by omega
  unfold chCode
  rw [if_neg h, Int.toNat_natCast, hf, if_neg (by cases b <;> simp)]
theorem chF_in (n : Nat) (f : Nat → Bool) (k : Nat) (b : Bool) (hk : k < n) : chF n f k b = upd f k b := by
  have h : ¬ ((k : Int) < 0 ∨ (n : Int) ≤ k) := by omega
  unfold chF
  rw [if_neg h, Int.toNat_natCast]

set_option maxHeartbeats 400000 in
theorem known_any (w : World) :
    Calls Try.prog 7 #[] w fun e w' => e = .returned (.bool true) ∧ Below w.heap.size w w' := by
  have e1 : Hid (chCode 5 (fun _ => false) 4 true = 0) := by unfold Hid; decide
  have e2 : Hid (chCode 5 (upd (fun _ => false) 4 true) 4 false = 0) := by unfold Hid; decide
  have f1 : Hid (chF 5 (fun _ => false) 4 true = upd (fun _ => false) 4 true) := chF_in 5 _ 4 true (by decide)
  have f2 : Hid (chF 5 (upd (fun _ => false) 4 true) 4 false = fun _ => false) := by
    unfold Hid
    rw [show ((4 : Int) = ((4 : Nat) : Int)) from rfl, chF_in 5 _ 4 false (by decide)]
    funext i; unfold upd; split <;> rfl
  have m1 : Hid (((msk (upd (fun _ => false) 4 true) 64 : Nat) : Int) = 16) := by unfold Hid; decide +kernel
  have m2 : Hid (((msk (fun _ => false) 64 : Nat) : Int) = 0) := by unfold Hid; rw [msk_none]; rfl
  go_enter Try.func7, Try.ntmps7
  go_wp2_with fail
  refine (new_yes 5 w (by decide) (by decide)).mono ?_
  rintro e w' ⟨rfl, rfl⟩
  have o0 := Own.new 5 (fun _ => false) w
  generalize w.alloc (.cells (ros 5 (fun _ => false)) 45) = w0 at *
  go_wp2_with fail
  refine (login_any w.heap.size 5 (fun _ => false) 4 w0 o0.blk (by decide)).mono ?_
  rintro e w1 ⟨rfl, hd⟩
  rw [f1.out] at hd
  have o1 := o0.did hd
  rw [e1.out]
  go_wp2_with fail
  refine (in_any w.heap.size 5 _ w1 o1.blk).mono ?_
  rintro e w2 ⟨rfl, hb⟩
  have o2 := o1.below hb
  rw [m1.out]
  go_wp2_with fail
  refine (logout_any w.heap.size 5 _ 4 w2 o2.blk (by decide)).mono ?_
  rintro e w3 ⟨rfl, hd⟩
  rw [f2.out] at hd
  have o3 := o2.did hd
  rw [e2.out]
  go_wp2_with fail
  refine (in_any w.heap.size 5 _ w3 o3.blk).mono ?_
  rintro e w4 ⟨rfl, hb⟩
  have o4 := o3.below hb
  rw [m2.out]
  go_wp2
  go_ret
  exact ⟨rfl, o4.bel⟩

theorem chCode_out (n : Nat) (f : Nat → Bool) (u : Int) (b : Bool) (hr : u < 0 ∨ (n : Int) ≤ u) : chCode n f u b = 3 := by unfold chCode; rw [if_pos hr]
theorem chF_out (n : Nat) (f : Nat → Bool) (u : Int) (b : Bool) (hr : u < 0 ∨ (n : Int) ≤ u) : chF n f u b = f := by unfold chF; rw [if_pos hr]
theorem chCode_st (n : Nat) (f : Nat → Bool) (k : Nat) (b : Bool) (hk : k < n) (hf : f k = b) : chCode n f k b = 7 := by
  have h : ¬ ((k : Int) < 0 ∨ (n : Int) ≤ k) := by omega
  unfold chCode
  rw [if_neg h, Int.toNat_natCast, if_pos hf]
theorem chF_st (n : Nat) (f : Nat → Bool) (k : Nat) (b : Bool) (hk : k < n) (hf : f k = b) : chF n f k b = f := by
  rw [chF_in n f k b hk, ← hf]
  funext i; unfold upd; split <;> simp_all

section
variable (B g n : Nat) (f : Nat → Bool) (w0 w : World) (o0 : Own B g n f w0 w) (hn : n ≤ 64)
include o0 hn
theorem in_out (u : Int) (hr : u < 0 ∨ (n : Int) ≤ u) : Calls Try.prog 10 #[.pointer (some ⟨g, 0, none⟩), .int .i64 u] w fun e w' => e = .returned (.int .i64 3) ∧ Own B g n f w0 w' :=
  (login_any g n f u w o0.blk hn).mono fun e w' ⟨he, hd⟩ => ⟨by rw [he, chCode_out _ _ _ _ hr], by rw [chF_out _ _ _ _ hr] at hd; exact o0.did hd⟩
theorem out_out (u : Int) (hr : u < 0 ∨ (n : Int) ≤ u) : Calls Try.prog 9 #[.pointer (some ⟨g, 0, none⟩), .int .i64 u] w fun e w' => e = .returned (.int .i64 3) ∧ Own B g n f w0 w' :=
  (logout_any g n f u w o0.blk hn).mono fun e w' ⟨he, hd⟩ => ⟨by rw [he, chCode_out _ _ _ _ hr], by rw [chF_out _ _ _ _ hr] at hd; exact o0.did hd⟩
theorem in_st (k : Nat) (hk : k < n) (hf : f k = true) : Calls Try.prog 10 #[.pointer (some ⟨g, 0, none⟩), .int .i64 k] w fun e w' => e = .returned (.int .i64 7) ∧ Own B g n f w0 w' :=
  (login_any g n f k w o0.blk hn).mono fun e w' ⟨he, hd⟩ => ⟨by rw [he, chCode_st _ _ _ _ hk hf], by rw [chF_st _ _ _ _ hk hf] at hd; exact o0.did hd⟩
theorem out_st (k : Nat) (hk : k < n) (hf : f k = false) : Calls Try.prog 9 #[.pointer (some ⟨g, 0, none⟩), .int .i64 k] w fun e w' => e = .returned (.int .i64 7) ∧ Own B g n f w0 w' :=
  (logout_any g n f k w o0.blk hn).mono fun e w' ⟨he, hd⟩ => ⟨by rw [he, chCode_st _ _ _ _ hk hf], by rw [chF_st _ _ _ _ hk hf] at hd; exact o0.did hd⟩
theorem in_ok (k : Nat) (hk : k < n) (hf : f k = false) : Calls Try.prog 10 #[.pointer (some ⟨g, 0, none⟩), .int .i64 k] w fun e w' => e = .returned (.int .i64 0) ∧ Own B g n (upd f k true) w0 w' :=
  (login_any g n f k w o0.blk hn).mono fun e w' ⟨he, hd⟩ => ⟨by rw [he, chCode_in _ _ _ _ hk hf], by rw [chF_in _ _ _ _ hk] at hd; exact o0.did hd⟩
theorem out_ok (k : Nat) (hk : k < n) (hf : f k = true) : Calls Try.prog 9 #[.pointer (some ⟨g, 0, none⟩), .int .i64 k] w fun e w' => e = .returned (.int .i64 0) ∧ Own B g n (upd f k false) w0 w' :=
  (logout_any g n f k w o0.blk hn).mono fun e w' ⟨he, hd⟩ => ⟨by rw [he, chCode_in _ _ _ _ hk hf], by rw [chF_in _ _ _ _ hk] at hd; exact o0.did hd⟩
omit hn in
theorem in_now : Calls Try.prog 11 #[.pointer (some ⟨g, 0, none⟩)] w fun e w' => e = .returned (.int .u64 (msk f 64 : Nat)) ∧ Own B g n f w0 w' :=
  (in_any g n f w o0.blk).mono fun _ _ ⟨he, hb⟩ => ⟨he, o0.below hb⟩
end

/-- Deeds in memory: element i is at offset 2 i. -/
def Deeds (w : World) (A : Option Addr) (len : Nat) (us : Nat → Int) (os : Nat → Bool) : Prop :=
  ∀ i, i < len → ∃ b off, A = some ⟨b, off, none⟩ ∧ b < w.heap.size ∧ w.cell? ⟨b, off + i * 2, none⟩ = some (.int .i64 (us i)) ∧ w.cell? ⟨b, off + i * 2 + 1, none⟩ = some (.bool (os i)) ∧
    -9223372036854775808 ≤ us i ∧ us i ≤ 9223372036854775807

/-- The law's own sum: in range. -/
theorem bit_and (f : Nat → Bool) (k : Nat) (hk : k < 64) : (bits BinOp.and IntKind.u64 ((msk f 64 : Nat) : Int) (IntKind.u64.wrap (2 ^ k)) == 0) = !f k := by
  have e : ((2 : Int) ^ k) = ((2 ^ k : Nat) : Int) := by simp
  have h1 := msk_lt f 64
  have h2 : 2 ^ k < 18446744073709551616 := Nat.pow_lt_pow_of_lt (a := 2) (n := k) (m := 64) (by decide) hk
  rw [IntKind.wrap_u64, e, wrapped h2, u64_and_nat _ _ h1 h2]
  have hm := msk_and f hk
  cases hf : f k with
  | false => rw [hm.2 hf]; rfl
  | true =>
    have : ¬ (msk f 64 &&& 2 ^ k = 0) := fun h => by rw [hm.1 h] at hf; cases hf
    simp only [Bool.not_true, beq_eq_false_iff_ne, ne_eq]
    omega
theorem bit_xor (f : Nat → Bool) (k : Nat) (hk : k < 64) (b : Bool) (hb : f k = !b) : bits BinOp.xor IntKind.u64 ((msk f 64 : Nat) : Int) (IntKind.u64.wrap (2 ^ k)) = ((msk (upd f k b) 64 : Nat) : Int) := by
  have e : ((2 : Int) ^ k) = ((2 ^ k : Nat) : Int) := by simp
  have h1 := msk_lt f 64
  have h2 : 2 ^ k < 18446744073709551616 := Nat.pow_lt_pow_of_lt (a := 2) (n := k) (m := 64) (by decide) hk
  rw [IntKind.wrap_u64, e, wrapped h2, u64_xor_nat _ _ h1 h2, msk_xor f hk b hb]
theorem xor_none (f : Nat → Bool) : bits BinOp.xor IntKind.u64 ((msk f 64 : Nat) : Int) 0 = ((msk f 64 : Nat) : Int) :=
  (u64_xor_nat _ 0 (msk_lt f 64) (by decide)).trans (by simp)

set_option maxHeartbeats 1000000 in
theorem keeps_walk (n : Nat) (A : Option Addr) (len cap : Nat) (us : Nat → Int) (os : Nat → Bool) (w : World) (h1 : 1 ≤ (n : Int)) (h2 : (n : Int) ≤ 64) (h3 : (len : Int) ≤ 200) (hl : Deeds w A len us os) :
    Calls Try.prog 3 #[.int .i64 n, .slice A len cap] w fun e w' => e = .returned (.bool true) ∧ Below w.heap.size w w' := by
  have HL := Lib.hid hl
  clear hl
  go_enter Try.func3, Try.ntmps3
  go_wp2_with fail
  refine (new_yes n w h1 h2).mono ?_
  rintro e w' ⟨rfl, rfl⟩
  have o0 := Own.new n (fun _ => false) w
  generalize w.alloc (.cells (ros n (fun _ => false)) 45) = w0 at *
  go_wp2_with fail
  go_loopw [7, 8] (fun x i wr => ∃ (k : Nat) (f : Nat → Bool), k ≤ len ∧ i = .int .i64 k ∧ x = .int .u64 (msk f 64 : Nat) ∧ Own w.heap.size w.heap.size n f w wr) (fun _ i _ => len - (intOf i).toNat)
  case atStart => exact ⟨0, fun _ => false, by omega, rfl, by rw [msk_none]; rfl, o0⟩
  case round =>
    clear o0 w0
    obtain ⟨k, f, hk, rfl, rfl, o0⟩ := hrel
    by_cases hlt : k < len
    · obtain ⟨b, off, rfl, hb, c0, c1, hu⟩ := HL.out k hlt
      have d0 : wr.cell? ⟨b, off + k * 2, none⟩ = _ := (o0.bel.cell (p := ⟨b, off + k * 2, none⟩) hb).trans c0
      have d1 : wr.cell? ⟨b, off + k * 2 + 1, none⟩ = _ := (o0.bel.cell (p := ⟨b, off + k * 2 + 1, none⟩) hb).trans c1
      clear c0 c1
      generalize us k = u at *
      by_cases hr : u < 0 ∨ (n : Int) ≤ u
      · have x0 := Lib.hid (xor_none f)
        cases ho : os k with
        | true =>
          rw [ho] at d1
          clear ho
          have H9 := Lib.hid (out_out _ _ n f w wr o0 (by omega) u hr)
          by_cases hr0 : u < 0
          all_goals
            go_wp2_with fail
            refine H9.out.mono ?_
            rintro e w1 ⟨rfl, o1⟩
            go_wp2_with fail
            rw [x0.out]
            refine (in_now _ _ n f w w1 o1).mono ?_
            rintro e w2 ⟨rfl, o2⟩
            go_wp2
            exact ⟨⟨k + 1, f, by omega, by go_num, rfl, o2⟩, by simp [intOf]; omega⟩
        | false =>
          rw [ho] at d1
          clear ho
          have H9 := Lib.hid (in_out _ _ n f w wr o0 (by omega) u hr)
          by_cases hr0 : u < 0
          all_goals
            go_wp2_with fail
            refine H9.out.mono ?_
            rintro e w1 ⟨rfl, o1⟩
            go_wp2_with fail
            rw [x0.out]
            refine (in_now _ _ n f w w1 o1).mono ?_
            rintro e w2 ⟨rfl, o2⟩
            go_wp2
            exact ⟨⟨k + 1, f, by omega, by go_num, rfl, o2⟩, by simp [intOf]; omega⟩
      · obtain ⟨v, rfl⟩ : ∃ v : Nat, u = v := ⟨u.toNat, by omega⟩
        have hv1 : (v : Int) < n := by omega
        have ht0 := bit_and f v (by omega)
        have ht : (bits BinOp.and IntKind.u64 ((msk f 64 : Nat) : Int) (IntKind.u64.wrap (2 ^ v)) != 0) = f v := by unfold bne; rw [ht0, Bool.not_not]
        clear hr
        cases hf : f v with
        | true =>
          rw [hf] at ht ht0
          simp only [Bool.not_true] at ht0
          cases ho : os k with
          | true =>
            rw [ho] at d1
            clear ho
            have x0 := Lib.hid (bit_xor f v (by omega) false hf)
            have H9 := Lib.hid (out_ok _ _ n f w wr o0 (by omega) v (by omega) hf)
            clear hf
            go_wp2_with fail
            refine H9.out.mono ?_
            rintro e w1 ⟨rfl, o1⟩
            go_wp2_with fail
            rw [x0.out]
            refine (in_now _ _ n (upd f v false) w w1 o1).mono ?_
            rintro e w2 ⟨rfl, o2⟩
            go_wp2
            exact ⟨⟨k + 1, (upd f v false), by omega, by go_num, rfl, o2⟩, by simp [intOf]; omega⟩
          | false =>
            rw [ho] at d1
            clear ho
            have x0 := Lib.hid (xor_none f)
            have H9 := Lib.hid (in_st _ _ n f w wr o0 (by omega) v (by omega) hf)
            clear hf
            go_wp2_with fail
            refine H9.out.mono ?_
            rintro e w1 ⟨rfl, o1⟩
            go_wp2_with fail
            rw [x0.out]
            refine (in_now _ _ n f w w1 o1).mono ?_
            rintro e w2 ⟨rfl, o2⟩
            go_wp2
            exact ⟨⟨k + 1, f, by omega, by go_num, rfl, o2⟩, by simp [intOf]; omega⟩
        | false =>
          rw [hf] at ht ht0
          simp only [Bool.not_false] at ht0
          cases ho : os k with
          | true =>
            rw [ho] at d1
            clear ho
            have x0 := Lib.hid (xor_none f)
            have H9 := Lib.hid (out_st _ _ n f w wr o0 (by omega) v (by omega) hf)
            clear hf
            go_wp2_with fail
            refine H9.out.mono ?_
            rintro e w1 ⟨rfl, o1⟩
            go_wp2_with fail
            rw [x0.out]
            refine (in_now _ _ n f w w1 o1).mono ?_
            rintro e w2 ⟨rfl, o2⟩
            go_wp2
            exact ⟨⟨k + 1, f, by omega, by go_num, rfl, o2⟩, by simp [intOf]; omega⟩
          | false =>
            rw [ho] at d1
            clear ho
            have x0 := Lib.hid (bit_xor f v (by omega) true hf)
            have H9 := Lib.hid (in_ok _ _ n f w wr o0 (by omega) v (by omega) hf)
            clear hf
            go_wp2_with fail
            refine H9.out.mono ?_
            rintro e w1 ⟨rfl, o1⟩
            go_wp2_with fail
            rw [x0.out]
            refine (in_now _ _ n (upd f v true) w w1 o1).mono ?_
            rintro e w2 ⟨rfl, o2⟩
            go_wp2
            exact ⟨⟨k + 1, (upd f v true), by omega, by go_num, rfl, o2⟩, by simp [intOf]; omega⟩
    · go_wp2_with fail
      refine (known_any wr).mono ?_
      rintro e w1 ⟨rfl, hb⟩
      have o1 := o0.below hb
      go_wp2
      go_ret
      exact ⟨rfl, o1.bel⟩

end Go.Proofs.Ytkemmjbaohoomaa
