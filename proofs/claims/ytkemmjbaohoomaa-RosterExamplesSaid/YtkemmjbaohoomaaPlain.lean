/- The plain part of the roster: sets of users as numbers. No program in sight. -/
import Derived.Laws.BitsAllLaws
namespace Go.Proofs.Ytkemmjbaohoomaa

/-- The set of the users below k of whom f says yes, as a number. -/
def msk (f : Nat → Bool) : Nat → Nat
  | 0 => 0
  | k + 1 => msk f k + if f k then 2 ^ k else 0

theorem msk_lt (f : Nat → Bool) : ∀ k, msk f k < 2 ^ k
  | 0 => by simp [msk]
  | k + 1 => by
    have h := msk_lt f k
    unfold msk
    rw [Nat.pow_succ]
    split <;> omega

theorem msk_or (f : Nat → Bool) (k : Nat) : msk f k ||| 2 ^ k = msk f k + 2 ^ k := by
  rw [Nat.or_comm, nat_join k (2 ^ k) (msk f k) (Nat.mod_self _) (msk_lt f k), Nat.add_comm]

theorem msk_bit (f : Nat → Bool) (i : Nat) : ∀ k, (msk f k).testBit i = (decide (i < k) && f i)
  | 0 => by simp [msk]
  | k + 1 => by
    have h := msk_bit f i k
    unfold msk
    by_cases hk : f k
    · rw [if_pos hk, ← msk_or, Nat.testBit_or, h, Nat.testBit_two_pow]
      by_cases e : k = i
      · subst e; simp [hk]
      · have e' : (i < k + 1) ↔ i < k := by omega
        simp [e, e']
    · rw [if_neg hk, Nat.add_zero, h]
      by_cases e : k = i
      · subst e; simp [hk]
      · have e' : (i < k + 1) ↔ i < k := by omega
        simp [e']

theorem msk_ext {x : Nat} {f : Nat → Bool} {k : Nat} (h : ∀ i, x.testBit i = (decide (i < k) && f i)) : x = msk f k :=
  Nat.eq_of_testBit_eq fun i => by rw [h, msk_bit]

theorem msk_congr {f g : Nat → Bool} {k : Nat} (h : ∀ i, i < k → f i = g i) : msk f k = msk g k :=
  msk_ext fun i => by
    rw [msk_bit]
    by_cases e : i < k
    · simp [e, h i e]
    · simp [e]

/-- f with b at u. -/
def upd (f : Nat → Bool) (u : Nat) (b : Bool) : Nat → Bool := fun i => if i = u then b else f i

theorem upd_self (f : Nat → Bool) (u : Nat) (b : Bool) : upd f u b u = b := by simp [upd]
theorem upd_other (f : Nat → Bool) {u i : Nat} (b : Bool) (h : i ≠ u) : upd f u b i = f i := by simp [upd, h]

theorem msk_xor (f : Nat → Bool) {u k : Nat} (hu : u < k) (b : Bool) (hb : f u = !b) : msk f k ^^^ 2 ^ u = msk (upd f u b) k := by
  refine msk_ext fun i => ?_
  rw [Nat.testBit_xor, msk_bit, Nat.testBit_two_pow]
  by_cases e : u = i
  · subst e; simp [hu, upd, hb]
  · have e' : ¬ i = u := fun h => e h.symm
    simp [e, e', upd]

theorem msk_and (f : Nat → Bool) {u k : Nat} (hu : u < k) : (msk f k &&& 2 ^ u = 0) ↔ f u = false := by
  rw [nat_bit]
  have hp : 0 < 2 ^ u := Nat.two_pow_pos _
  have ht : (msk f k).testBit u = f u := by rw [msk_bit]; simp [hu]
  rw [Nat.testBit_eq_decide_div_mod_eq] at ht
  have h2 : msk f k / 2 ^ u % 2 = 0 ∨ msk f k / 2 ^ u % 2 = 1 := by omega
  rcases h2 with h2 | h2
  · rw [h2] at ht ⊢
    simp at ht
    simp [← ht]
  · rw [h2] at ht ⊢
    simp at ht
    rw [ht]
    constructor
    · intro h0; omega
    · intro h0; cases h0

/-- Where all users at or above n are out, the set below 64 is the set below n. -/
theorem msk_cut (f : Nat → Bool) {n : Nat} (h : ∀ i, n ≤ i → f i = false) : ∀ k, n ≤ k → msk f k = msk f n
  | 0, hk => by have : n = 0 := by omega
                subst this; rfl
  | k + 1, hk => by
    by_cases e : n = k + 1
    · subst e; rfl
    · have := msk_cut f h k (by omega)
      rw [msk, this, h k (by omega)]; simp

theorem msk_none (k : Nat) : msk (fun _ => false) k = 0 := by
  induction k with
  | zero => rfl
  | succ k ih => unfold msk; rw [ih]; simp

end Go.Proofs.Ytkemmjbaohoomaa
