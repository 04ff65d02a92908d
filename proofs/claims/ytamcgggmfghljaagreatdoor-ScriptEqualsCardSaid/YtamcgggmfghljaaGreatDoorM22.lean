/- Layer 18 (program): the set of all users; a user in a set. -/
import Derived.Laws.ShiftsVarLaws
import Derived.Test.YtamcgggmfghljaaGreatDoorM2
namespace Go.Proofs.YtamcgggmfghljaaGreatDoor
open Go.RowKit

/-- The set of the users from 0 to n - 1. -/
def allI (n : Int) : Int := 2 ^ n.toNat - 1
def hasI (s u : Int) : Bool := decide (0 ≤ u) && decide (u < 64) && decide (s / 2 ^ u.toNat % 2 = 1)
theorem pow_bd (n : Int) (h1 : n ≤ 64) : (1 : Int) ≤ 2 ^ n.toNat ∧ (2 : Int) ^ n.toNat ≤ 18446744073709551616 := by
  have a : (2 : Nat) ^ n.toNat ≤ 2 ^ 64 := Nat.pow_le_pow_right (by decide) (by omega)
  have b : 1 ≤ (2 : Nat) ^ n.toNat := Nat.one_le_two_pow
  have e : (2 : Int) ^ n.toNat = ((2 ^ n.toNat : Nat) : Int) := by simp
  rw [e]
  omega
theorem all_wrap (n : Int) (h1 : n ≤ 64) : IntKind.u64.wrap (IntKind.u64.wrap (2 ^ n.toNat) - 1) = allI n := by
  have h := pow_bd n h1
  rw [IntKind.wrap_u64, IntKind.wrap_u64]
  unfold allI
  omega
theorem allI_bd (n : Int) (h1 : n ≤ 64) : 0 ≤ allI n ∧ allI n < 18446744073709551616 := by
  have h := pow_bd n h1
  unfold allI
  omega
theorem bit_odd (x : Int) (h0 : 0 ≤ x) (h1 : x < 18446744073709551616) : (bits .and .u64 x 1 == 1) = decide (x % 2 = 1) := by
  rw [u64_and x 1 h0 h1 (by decide) (by decide), show (1 : Int).toNat = 1 from rfl, nat_mask1]
  by_cases h : x % 2 = 1
  · have : ((x.toNat % 2 : Nat) : Int) = 1 := by omega
    simp [this, h]
  · have : ((x.toNat % 2 : Nat) : Int) = 0 := by omega
    simp [this, h]
theorem shr_bd (s : Int) (k : Nat) (h0 : 0 ≤ s) (h1 : s < 18446744073709551616) : 0 ≤ s / 2 ^ k ∧ s / 2 ^ k < 18446744073709551616 := by
  have hp : (0 : Int) < 2 ^ k := Int.pow_pos (by decide)
  exact ⟨Int.ediv_nonneg h0 (Int.le_of_lt hp), Int.lt_of_le_of_lt (Int.ediv_le_self _ h0) h1⟩
theorem ret_bool' {a b : Bool} (h : a = b) : Ending.returned (.bool a) = .returned (.bool b) := by rw [h]

set_option maxRecDepth 100000 in
set_option maxHeartbeats 2000000 in
theorem all_no (n : Int) (w : World) (h : n < 0 ∨ 64 < n) :
    Calls Tryz.prog 170 #[.int .i64 n] w fun e w' => e = .returned (.tuple #[.int .u64 0, .int .i64 3]) ∧ w = w' := by
  by_cases h1 : n < 0
  all_goals
    go_enter Tryz.func170, Tryz.ntmps170
    go_wp2
    go_ret2
    exact ⟨rfl, rfl⟩

set_option maxRecDepth 100000 in
set_option maxHeartbeats 2000000 in
theorem all_yes (n : Int) (w : World) (h0 : 0 ≤ n) (h1 : n ≤ 64) :
    Calls Tryz.prog 170 #[.int .i64 n] w fun e w' => e = .returned (.tuple #[.int .u64 (allI n), .int .i64 0]) ∧ w = w' := by
  have H := Lib.hid (all_wrap n h1)
  go_enter Tryz.func170, Tryz.ntmps170
  go_wp2
  go_ret2
  exact ⟨by rw [H.out]; rfl, rfl⟩

set_option maxRecDepth 100000 in
set_option maxHeartbeats 2000000 in
theorem has_any (s u : Int) (w : World) (s0 : 0 ≤ s) (s1 : s < 18446744073709551616) :
    Calls Tryz.prog 173 #[.int .u64 s, .int .i64 u] w fun e w' => e = .returned (.bool (hasI s u)) ∧ w = w' := by
  have hb := shr_bd s u.toNat s0 s1
  have H := Lib.hid (bit_odd _ hb.1 hb.2)
  clear hb s0 s1
  by_cases h0 : 0 ≤ u
  · by_cases h1 : u < 64
    · have HH := Lib.hid (show hasI s u = decide (s / 2 ^ u.toNat % 2 = 1) by simp [hasI, h0, h1])
      go_enter Tryz.func173, Tryz.ntmps173
      go_wp2
      go_ret
      exact ⟨ret_bool' (by rw [HH.out, H.out]), rfl⟩
    · have HH := Lib.hid (show hasI s u = false by simp [hasI, h1])
      go_enter Tryz.func173, Tryz.ntmps173
      go_wp2
      go_ret
      exact ⟨ret_bool' (by rw [HH.out]), rfl⟩
  · have HH := Lib.hid (show hasI s u = false by simp [hasI, h0])
    go_enter Tryz.func173, Tryz.ntmps173
    go_wp2
    go_ret
    exact ⟨ret_bool' (by rw [HH.out]), rfl⟩

end Go.Proofs.YtamcgggmfghljaaGreatDoor
