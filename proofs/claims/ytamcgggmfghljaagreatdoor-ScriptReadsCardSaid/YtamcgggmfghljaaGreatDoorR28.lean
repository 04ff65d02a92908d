/- Layer 41: what a script's bytes are. No program in sight. · Layer 41 (program): a number's bytes. · Layer 41 (program): lists' bytes (printed by tools/gen_list.py). -/
import Derived.Laws.ShiftsVarLaws
import Derived.Test.YtamcgggmfghljaaGreatDoorR2
import Derived.Test.YtamcgggmfghljaaGreatDoorR9
import Derived.Test.YtamcgggmfghljaaGreatDoorR3
namespace Go.Proofs.YtamcgggmfghljaaGreatDoor

/-- The bytes of a number, the greatest first. -/
def beB (n : Nat) : Bytes := if _h : n = 0 then [] else beB (n / 256) ++ [UInt8.ofNat (n % 256)]
termination_by n
decreasing_by omega
def numB (n : Nat) : Bytes := UInt8.ofNat (beB n).length :: beB n
def numI (n : Int) : Bytes := numB (n % 18446744073709551616).toNat

theorem beB_zero : beB 0 = [] := by rw [beB]; simp
theorem beB_pos {n : Nat} (h : n ≠ 0) : beB n = beB (n / 256) ++ [UInt8.ofNat (n % 256)] := by rw [beB]; simp [h]
theorem beB_pos_len {n : Nat} (h : n ≠ 0) : (beB n).length = (beB (n / 256)).length + 1 := by rw [beB_pos h]; simp
theorem beB_le : ∀ (k n : Nat), n < 256 ^ k → (beB n).length ≤ k
  | 0, n, h => by
    have : n = 0 := by simpa using h
    subst this
    simp [beB_zero]
  | k + 1, n, h => by
    by_cases h0 : n = 0
    · subst h0; simp [beB_zero]
    · rw [beB_pos_len h0]
      have := beB_le k (n / 256) (by rw [Nat.pow_succ] at h; exact Nat.div_lt_of_lt_mul (by omega))
      omega
theorem beB_le8 {n : Nat} (h : n < 18446744073709551616) : (beB n).length ≤ 8 := beB_le 8 n (by simpa using h)
theorem beB_at : ∀ (n i : Nat), i < (beB n).length → (beB n)[(beB n).length - 1 - i]? = some (UInt8.ofNat (n / 256 ^ i % 256)) := by
  intro n
  induction n using Nat.strongRecOn with
  | _ n ih =>
    intro i hi
    by_cases h0 : n = 0
    · subst h0; simp [beB_zero] at hi
    · have hl := beB_pos_len h0
      rw [beB_pos h0] at hi ⊢
      rw [List.length_append, List.length_singleton] at hi ⊢
      rcases i with _ | i
      · rw [List.getElem?_append_right (by omega)]
        simp
      · rw [List.getElem?_append_left (by omega)]
        have h := ih (n / 256) (by omega) i (by omega)
        rw [show (beB (n / 256)).length + 1 - 1 - (i + 1) = (beB (n / 256)).length - 1 - i by omega, h, Nat.div_div_eq_div_mul, Nat.pow_succ, Nat.mul_comm]
theorem beB_take {n j : Nat} (h : j < (beB n).length) : (beB n).take (j + 1) = (beB n).take j ++ [UInt8.ofNat (n / 256 ^ ((beB n).length - 1 - j) % 256)] := by
  have h2 := beB_at n ((beB n).length - 1 - j) (by omega)
  rw [show (beB n).length - 1 - ((beB n).length - 1 - j) = j by omega] at h2
  rw [List.take_add_one, h2]
  rfl
theorem beB_byte (m i : Nat) : ((m : Int) / 2 ^ (8 * i) % 256).toNat = m / 256 ^ i % 256 := by
  have e : ((m : Int) / 2 ^ (8 * i) % 256) = ((m / 2 ^ (8 * i) % 256 : Nat) : Int) := by simp
  rw [e, Nat.pow_mul]
  rfl
theorem numB_le {n : Nat} (h : n < 18446744073709551616) : (numB n).length ≤ 9 := by have := beB_le8 h; simp [numB]; omega
theorem numI_le (n : Int) : (numI n).length ≤ 9 := numB_le (by omega)

/-! ### A script's bytes -/
def flagB (b : Bool) : Bytes := numI (if b then 1 else 0)
def textB (s : Bytes) : Bytes := numI s.length ++ s
def placeB (r : Ref) : Bytes := numI r.col ++ numI r.row
def cornB (r : Rct) : Bytes := numI r.c1 ++ numI r.r1 ++ numI r.c2 ++ numI r.r2
def setsB (r : Rts) : Bytes := numI r.rd ++ numI r.wr ++ numI r.ow
def entB (x : Ent) : Bytes := placeB x.at_ ++ textB x.input
def rulB (x : Rul) : Bytes := cornB x.rect ++ setsB x.rights
def grtB (x : Grt) : Bytes := cornB x.rect ++ numI x.fns ++ numI x.to_ ++ numI x.by_ ++ flagB x.revoked
def evtB (x : Evt) : Bytes := numI x.step ++ numI x.user ++ numI x.kind ++ cornB x.rect ++ flagB x.done_ ++ numI x.to_
def rlsB (x : Rls) : Bytes := numI x.step ++ placeB x.at_ ++ numI x.node ++ numI x.fn ++ cornB x.rect ++ numI x.grant ++ numI x.to_
def oprF (x : Opr) : List (Bool × Bytes) :=
  [(decide (x.user ≠ 0), numI x.user), (decide (x.rect ≠ ⟨0, 0, 0, 0⟩), cornB x.rect), (decide (x.input ≠ []), textB x.input), (decide (x.rights ≠ ⟨0, 0, 0⟩), setsB x.rights),
   (decide (x.fns ≠ 0), numI x.fns), (decide (x.to_ ≠ 0), numI x.to_), (decide (x.index ≠ 0), numI x.index)]
def maskN : List (Bool × Bytes) → Int
  | [] => 0
  | (b, _) :: l => (if b then 1 else 0) + 2 * maskN l
def oprB (x : Opr) : Bytes := numI x.kind ++ numI (maskN (oprF x)) ++ (oprF x).flatMap fun p => if p.1 then p.2 else []
def listB {α : Type} (f : α → Bytes) (l : List α) : Bytes := numI l.length ++ l.flatMap f
def scpB (s : Scp) : Bytes :=
  numI s.book.users ++ listB entB s.book.entries ++ listB rulB s.book.rules ++ listB grtB s.book.grants ++ listB evtB s.book.log ++ listB rlsB s.book.releases ++ numI s.book.step ++ listB oprB s.ops

end Go.Proofs.YtamcgggmfghljaaGreatDoor

namespace Go.Proofs.YtamcgggmfghljaaGreatDoor
open Go.RowKit

set_option maxRecDepth 100000 in
set_option maxHeartbeats 2000000 in
theorem num_int (v : Value) (l : Bytes) (n : Int) (w : World) (h : Out w v l) (hl : l.length ≤ 100000000000) :
    Calls Tryz.prog 84 #[v, .int .i64 n] w fun e w' => ∃ v', e = .returned v' ∧ Out w' v' (l ++ numI n) ∧ OutTo w v w' v' := by
  obtain ⟨i0, hi0, hz0, hz1, hz2⟩ := info_parts (show (Tryz.prog.info? 5).map (fun i => (i.zero, i.size, i.bytes)) = some (some (.int .u8 0), 1, 1) by kernel_rfl)
  obtain ⟨m, hm, hm2⟩ : ∃ m : Nat, IntKind.u64.wrap n = (m : Int) ∧ m < 18446744073709551616 := ⟨(n % 18446744073709551616).toNat, by rw [IntKind.wrap_u64]; omega, by omega⟩
  have hN : Hid (numI n = numB m) := by
    unfold Hid numI
    rw [← IntKind.wrap_u64, hm]
    rfl
  have h8 := beB_le8 hm2
  have H0 := Lib.hid h
  clear h
  go_enter Tryz.func84, Tryz.ntmps84
  go_wp2
  go_loop [6, 7] (fun s x => ∃ k y : Nat, s = .int .i64 k ∧ x = .int .u64 y ∧ (beB m).length = k + (beB y).length) (fun _ x => (intOf x).toNat)
  case atStart => exact ⟨0, m, rfl, rfl, by simp⟩
  case round =>
    obtain ⟨k, y, rfl, rfl, hk⟩ := hrel
    by_cases hy : 0 < y
    · have hk2 := beB_pos_len (n := y) (by omega)
      have HK := Lib.hid hk
      go_wp2
      exact ⟨⟨k + 1, y / 256, rfl, rfl, by omega⟩, by simp [intOf]; omega⟩
    · obtain rfl : y = 0 := by omega
      rw [beB_zero] at hk
      have hk1 : k = (beB m).length := by simpa using hk.symm
      have HK := Lib.hid hk1
      have e1 : l ++ [UInt8.ofNat (k : Int).toNat] = l ++ [UInt8.ofNat (beB m).length] := by rw [hk1]; rfl
      have E1 := Lib.hid e1
      have hk9 : k ≤ 8 := by omega
      clear hk hk1 e1
      go_wp2_with (at_builtin; refine wpList_push rfl _ _ 59 rfl i0 rfl hi0 hz0 hz1 hz2 v l rfl (H0.out.alloc _) w.heap.size k rfl (by omega) (by omega) (World.cell?_alloc_at _ _ _ _ rfl) (by omega) ?_; intro v1 w1 o1 t1)
      have T1 := Lib.hid (((OutTo.refl w v).alloc _).trans t1)
      rw [E1.out] at o1
      have O1 := Lib.hid o1
      clear t1 o1
      go_wp2
      go_loopw [0, 8] (fun u i wr => ∃ j : Nat, j ≤ k ∧ i = .int .i64 ((k : Int) - 1 - j) ∧ Out wr u (l ++ UInt8.ofNat (beB m).length :: (beB m).take j) ∧ OutTo w v wr u) (fun _ i _ => (intOf i + 1).toNat)
      case atStart => exact ⟨0, by omega, by simp, by simpa using O1.out, T1.out⟩
      case round =>
        obtain ⟨j, hj, rfl, oj, tj⟩ := hrel
        have OJ := Lib.hid oj
        have TJ := Lib.hid tj
        clear oj tj
        by_cases hlt : j < k
        · have b0 : (0 : Int) ≤ (k : Int) - 1 - j := by omega
          have hb := beB_byte m (k - 1 - j)
          rw [HK.out] at hb
          have ht := beB_take (n := m) (j := j) (by rw [← HK.out]; omega)
          rw [← hb, ← HK.out] at ht
          have HT := Lib.hid ht
          clear hb ht
          go_wp2_with (at_builtin; refine wpList_push rfl _ _ 59 rfl i0 rfl hi0 hz0 hz1 hz2 u0 _ rfl (OJ.out.alloc _) wr.heap.size ((m : Int) / 2 ^ (8 * (k - 1 - j)) % 256) rfl (by omega) (by omega) (World.cell?_alloc_at _ _ _ _ rfl) (by simp; omega) ?_; intro v2 w2 o2 t2)
          have T2 := Lib.hid (TJ.out.trans (((OutTo.refl wr u0).alloc _).trans t2))
          have O2 := Lib.hid o2
          clear t2 o2
          go_wp2
          refine ⟨⟨j + 1, by omega, by go_num, ?_, T2.out⟩, by simp [intOf]; omega⟩
          rw [HT.out]
          simpa using O2.out
        · go_wp2
          go_ret
          have hjk : j = (beB m).length := by rw [← HK.out]; omega
          refine ⟨_, rfl, ?_, TJ.out⟩
          have := OJ.out
          rw [hjk, List.take_length] at this
          rw [hN.out]
          exact this

set_option maxRecDepth 100000 in
set_option maxHeartbeats 2000000 in
theorem num_u64 (v : Value) (l : Bytes) (n : Int) (w : World) (hn0 : 0 ≤ n) (hn1 : n < 18446744073709551616) (h : Out w v l) (hl : l.length ≤ 100000000000) :
    Calls Tryz.prog 96 #[v, .int .u64 n] w fun e w' => ∃ v', e = .returned v' ∧ Out w' v' (l ++ numI n) ∧ OutTo w v w' v' := by
  obtain ⟨i0, hi0, hz0, hz1, hz2⟩ := info_parts (show (Tryz.prog.info? 5).map (fun i => (i.zero, i.size, i.bytes)) = some (some (.int .u8 0), 1, 1) by kernel_rfl)
  obtain ⟨m, rfl⟩ : ∃ m : Nat, n = (m : Int) := ⟨n.toNat, by omega⟩
  have hm2 : m < 18446744073709551616 := by omega
  have hN : Hid (numI (m : Int) = numB m) := by
    unfold Hid numI
    congr 1
    omega
  clear hn0 hn1
  have h8 := beB_le8 hm2
  have H0 := Lib.hid h
  clear h
  go_enter Tryz.func96, Tryz.ntmps96
  go_wp2
  go_loop [6, 7] (fun s x => ∃ k y : Nat, s = .int .i64 k ∧ x = .int .u64 y ∧ (beB m).length = k + (beB y).length) (fun _ x => (intOf x).toNat)
  case atStart => exact ⟨0, m, rfl, rfl, by simp⟩
  case round =>
    obtain ⟨k, y, rfl, rfl, hk⟩ := hrel
    by_cases hy : 0 < y
    · have hk2 := beB_pos_len (n := y) (by omega)
      have HK := Lib.hid hk
      go_wp2
      exact ⟨⟨k + 1, y / 256, rfl, rfl, by omega⟩, by simp [intOf]; omega⟩
    · obtain rfl : y = 0 := by omega
      rw [beB_zero] at hk
      have hk1 : k = (beB m).length := by simpa using hk.symm
      have HK := Lib.hid hk1
      have e1 : l ++ [UInt8.ofNat (k : Int).toNat] = l ++ [UInt8.ofNat (beB m).length] := by rw [hk1]; rfl
      have E1 := Lib.hid e1
      have hk9 : k ≤ 8 := by omega
      clear hk hk1 e1
      go_wp2_with (at_builtin; refine wpList_push rfl _ _ 59 rfl i0 rfl hi0 hz0 hz1 hz2 v l rfl (H0.out.alloc _) w.heap.size k rfl (by omega) (by omega) (World.cell?_alloc_at _ _ _ _ rfl) (by omega) ?_; intro v1 w1 o1 t1)
      have T1 := Lib.hid (((OutTo.refl w v).alloc _).trans t1)
      rw [E1.out] at o1
      have O1 := Lib.hid o1
      clear t1 o1
      go_wp2
      go_loopw [0, 8] (fun u i wr => ∃ j : Nat, j ≤ k ∧ i = .int .i64 ((k : Int) - 1 - j) ∧ Out wr u (l ++ UInt8.ofNat (beB m).length :: (beB m).take j) ∧ OutTo w v wr u) (fun _ i _ => (intOf i + 1).toNat)
      case atStart => exact ⟨0, by omega, by simp, by simpa using O1.out, T1.out⟩
      case round =>
        obtain ⟨j, hj, rfl, oj, tj⟩ := hrel
        have OJ := Lib.hid oj
        have TJ := Lib.hid tj
        clear oj tj
        by_cases hlt : j < k
        · have b0 : (0 : Int) ≤ (k : Int) - 1 - j := by omega
          have hb := beB_byte m (k - 1 - j)
          rw [HK.out] at hb
          have ht := beB_take (n := m) (j := j) (by rw [← HK.out]; omega)
          rw [← hb, ← HK.out] at ht
          have HT := Lib.hid ht
          clear hb ht
          go_wp2_with (at_builtin; refine wpList_push rfl _ _ 59 rfl i0 rfl hi0 hz0 hz1 hz2 u0 _ rfl (OJ.out.alloc _) wr.heap.size ((m : Int) / 2 ^ (8 * (k - 1 - j)) % 256) rfl (by omega) (by omega) (World.cell?_alloc_at _ _ _ _ rfl) (by simp; omega) ?_; intro v2 w2 o2 t2)
          have T2 := Lib.hid (TJ.out.trans (((OutTo.refl wr u0).alloc _).trans t2))
          have O2 := Lib.hid o2
          clear t2 o2
          go_wp2
          refine ⟨⟨j + 1, by omega, by go_num, ?_, T2.out⟩, by simp [intOf]; omega⟩
          rw [HT.out]
          simpa using O2.out
        · go_wp2
          go_ret
          have hjk : j = (beB m).length := by rw [← HK.out]; omega
          refine ⟨_, rfl, ?_, TJ.out⟩
          have := OJ.out
          rw [hjk, List.take_length] at this
          rw [hN.out]
          exact this

set_option maxRecDepth 100000 in
set_option maxHeartbeats 2000000 in
theorem num_u8 (v : Value) (l : Bytes) (n : Int) (w : World) (h : Out w v l) (hl : l.length ≤ 100000000000) :
    Calls Tryz.prog 97 #[v, .int .u8 n] w fun e w' => ∃ v', e = .returned v' ∧ Out w' v' (l ++ numI n) ∧ OutTo w v w' v' := by
  obtain ⟨i0, hi0, hz0, hz1, hz2⟩ := info_parts (show (Tryz.prog.info? 5).map (fun i => (i.zero, i.size, i.bytes)) = some (some (.int .u8 0), 1, 1) by kernel_rfl)
  obtain ⟨m, hm, hm2⟩ : ∃ m : Nat, IntKind.u64.wrap n = (m : Int) ∧ m < 18446744073709551616 := ⟨(n % 18446744073709551616).toNat, by rw [IntKind.wrap_u64]; omega, by omega⟩
  have hN : Hid (numI n = numB m) := by
    unfold Hid numI
    rw [← IntKind.wrap_u64, hm]
    rfl
  have h8 := beB_le8 hm2
  have H0 := Lib.hid h
  clear h
  go_enter Tryz.func97, Tryz.ntmps97
  go_wp2
  go_loop [6, 7] (fun s x => ∃ k y : Nat, s = .int .i64 k ∧ x = .int .u64 y ∧ (beB m).length = k + (beB y).length) (fun _ x => (intOf x).toNat)
  case atStart => exact ⟨0, m, rfl, rfl, by simp⟩
  case round =>
    obtain ⟨k, y, rfl, rfl, hk⟩ := hrel
    by_cases hy : 0 < y
    · have hk2 := beB_pos_len (n := y) (by omega)
      have HK := Lib.hid hk
      go_wp2
      exact ⟨⟨k + 1, y / 256, rfl, rfl, by omega⟩, by simp [intOf]; omega⟩
    · obtain rfl : y = 0 := by omega
      rw [beB_zero] at hk
      have hk1 : k = (beB m).length := by simpa using hk.symm
      have HK := Lib.hid hk1
      have e1 : l ++ [UInt8.ofNat (k : Int).toNat] = l ++ [UInt8.ofNat (beB m).length] := by rw [hk1]; rfl
      have E1 := Lib.hid e1
      have hk9 : k ≤ 8 := by omega
      clear hk hk1 e1
      go_wp2_with (at_builtin; refine wpList_push rfl _ _ 59 rfl i0 rfl hi0 hz0 hz1 hz2 v l rfl (H0.out.alloc _) w.heap.size k rfl (by omega) (by omega) (World.cell?_alloc_at _ _ _ _ rfl) (by omega) ?_; intro v1 w1 o1 t1)
      have T1 := Lib.hid (((OutTo.refl w v).alloc _).trans t1)
      rw [E1.out] at o1
      have O1 := Lib.hid o1
      clear t1 o1
      go_wp2
      go_loopw [0, 8] (fun u i wr => ∃ j : Nat, j ≤ k ∧ i = .int .i64 ((k : Int) - 1 - j) ∧ Out wr u (l ++ UInt8.ofNat (beB m).length :: (beB m).take j) ∧ OutTo w v wr u) (fun _ i _ => (intOf i + 1).toNat)
      case atStart => exact ⟨0, by omega, by simp, by simpa using O1.out, T1.out⟩
      case round =>
        obtain ⟨j, hj, rfl, oj, tj⟩ := hrel
        have OJ := Lib.hid oj
        have TJ := Lib.hid tj
        clear oj tj
        by_cases hlt : j < k
        · have b0 : (0 : Int) ≤ (k : Int) - 1 - j := by omega
          have hb := beB_byte m (k - 1 - j)
          rw [HK.out] at hb
          have ht := beB_take (n := m) (j := j) (by rw [← HK.out]; omega)
          rw [← hb, ← HK.out] at ht
          have HT := Lib.hid ht
          clear hb ht
          go_wp2_with (at_builtin; refine wpList_push rfl _ _ 59 rfl i0 rfl hi0 hz0 hz1 hz2 u0 _ rfl (OJ.out.alloc _) wr.heap.size ((m : Int) / 2 ^ (8 * (k - 1 - j)) % 256) rfl (by omega) (by omega) (World.cell?_alloc_at _ _ _ _ rfl) (by simp; omega) ?_; intro v2 w2 o2 t2)
          have T2 := Lib.hid (TJ.out.trans (((OutTo.refl wr u0).alloc _).trans t2))
          have O2 := Lib.hid o2
          clear t2 o2
          go_wp2
          refine ⟨⟨j + 1, by omega, by go_num, ?_, T2.out⟩, by simp [intOf]; omega⟩
          rw [HT.out]
          simpa using O2.out
        · go_wp2
          go_ret
          have hjk : j = (beB m).length := by rw [← HK.out]; omega
          refine ⟨_, rfl, ?_, TJ.out⟩
          have := OJ.out
          rw [hjk, List.take_length] at this
          rw [hN.out]
          exact this

end Go.Proofs.YtamcgggmfghljaaGreatDoor

namespace Go.Proofs.YtamcgggmfghljaaGreatDoor
open Go.RowKit

theorem take_flat_le {α : Type} (f : α → Bytes) : ∀ (xs : List α) (k : Nat), ((xs.take k).flatMap f).length ≤ (xs.flatMap f).length
  | [], k => by simp
  | x :: xs, 0 => by simp
  | x :: xs, k + 1 => by
    have := take_flat_le f xs k
    rw [List.take_succ_cons, List.flatMap_cons, List.flatMap_cons, List.length_append, List.length_append]
    omega
/-- What a closure that writes an element does. -/
def Writes {α : Type} (c : α → List Value) (f : α → Bytes) (K : Nat) (x : α) : Prop :=
  ∀ (v : Value) (l : Bytes) (w : World), Out w v l → l.length ≤ 100000000 → Calls Tryz.prog K #[v, .agg (c x).toArray] w fun e w' => ∃ v', e = .returned v' ∧ Out w' v' (l ++ f x) ∧ OutTo w v w' v'

set_option maxRecDepth 100000 in
set_option maxHeartbeats 4000000 in
theorem list_ent (v sv : Value) (l : Bytes) (xs : List Ent) (B : Nat) (w : World) (h : Out w v l) (hB : B ≤ w.heap.size) (hv : ∀ k, v.ownBlock = some k → B ≤ k) (hs : Sls cEnt w B sv xs)
    (hg : ∀ x ∈ xs, Writes cEnt entB 86 x) (hl : l.length + (listB entB xs).length ≤ 100000000) :
    Calls Tryz.prog 85 #[v, sv, .func (.func 86) #[] #[]] w fun e w' => ∃ v', e = .returned v' ∧ Out w' v' (l ++ listB entB xs) ∧ OutTo w v w' v' := by
  obtain ⟨A, cap, rfl, hc, hm, hr⟩ := id hs
  have H := Lib.hid h
  have HS := Lib.hid hs
  have HG := Lib.hid hg
  clear h hs hr hg
  unfold maxLen at hm
  have n1 := numI_le xs.length
  have hl2 : l.length + (numI xs.length).length + (xs.flatMap entB).length ≤ 100000000 := by simpa [listB, Nat.add_assoc] using hl
  have HL := Lib.hid hl2
  clear hl
  go_enter Tryz.func85, Tryz.ntmps85
  go_wp2_with fail
  refine (num_int _ _ _ _ H.out (by omega)).mono ?_
  rintro e w1 ⟨v1, rfl, o1, t1⟩
  have O1 := Lib.hid o1
  have T1 := Lib.hid t1
  clear o1 t1 hl2
  go_wp2_with fail
  go_loopw [0, 15] (fun u i wr => ∃ k : Nat, k ≤ xs.length ∧ i = .int .i64 k ∧ Out wr u (l ++ numI xs.length ++ (xs.take k).flatMap entB) ∧ OutTo w v wr u) (fun _ i _ => xs.length - (intOf i).toNat)
  case atStart => exact ⟨0, by omega, rfl, by simpa using O1.out, T1.out⟩
  case round =>
    obtain ⟨k, hk, rfl, oo, tt⟩ := hrel
    have OO := Lib.hid oo
    have TT := Lib.hid tt
    clear oo
    by_cases hlt : k < xs.length
    · have hx : xs[k]? = some xs[k] := List.getElem?_eq_getElem hlt
      have HW := Lib.hid (HG.out _ (List.getElem_mem hlt))
      obtain ⟨b, o, rfl, hb, r⟩ := (HS.out.below (tt.old hB hv)).get 3 cEnt_len hx
      have htk : xs.take (k + 1) = xs.take k ++ [xs[k]] := by rw [List.take_succ_eq_append_getElem hlt]
      have HT := Lib.hid htk
      have hlk : (l ++ numI xs.length ++ (xs.take k).flatMap entB).length ≤ 100000000 := by
        have h1 := take_flat_le entB xs k
        have h2 := HL.out
        rw [List.length_append, List.length_append]
        omega
      have HK := Lib.hid hlk
      clear hx htk tt hlk
      generalize xs[k] = x at *
      have r0 : wr.cell? ⟨b, o + k * 3, none⟩ = some (.int .i64 x.at_.col) := r 0 _ rfl
      have r1 : wr.cell? ⟨b, o + k * 3 + 1, none⟩ = some (.int .i64 x.at_.row) := r 1 _ rfl
      have r2 : wr.cell? ⟨b, o + k * 3 + 2, none⟩ = some (str x.input) := r 2 _ rfl
      have hi0 : (0 : Int) ≤ (k : Int) := Int.natCast_nonneg _
      have hi1 : (k : Int) < (xs.length : Int) := by omega
      clear r
      go_wp2_with fail
      refine (HW.out _ _ _ (OO.out.alloc _) HK.out).mono ?_
      rintro e w2 ⟨v2, rfl, o2, t2⟩
      have O2 := Lib.hid o2
      have T2 := Lib.hid ((TT.out.alloc _).trans t2)
      clear o2 t2
      go_wp2
      refine ⟨⟨k + 1, by omega, by go_num, ?_, T2.out⟩, by simp [intOf]; omega⟩
      rw [HT.out]
      simpa using O2.out
    · go_wp2
      go_ret
      obtain rfl : k = xs.length := by omega
      exact ⟨_, rfl, by have := OO.out; rw [List.take_length] at this; simpa [listB] using this, TT.out⟩

set_option maxRecDepth 100000 in
set_option maxHeartbeats 4000000 in
theorem list_rul (v sv : Value) (l : Bytes) (xs : List Rul) (B : Nat) (w : World) (h : Out w v l) (hB : B ≤ w.heap.size) (hv : ∀ k, v.ownBlock = some k → B ≤ k) (hs : Sls cRul w B sv xs)
    (hg : ∀ x ∈ xs, Writes cRul rulB 90 x) (hl : l.length + (listB rulB xs).length ≤ 100000000) :
    Calls Tryz.prog 89 #[v, sv, .func (.func 90) #[] #[]] w fun e w' => ∃ v', e = .returned v' ∧ Out w' v' (l ++ listB rulB xs) ∧ OutTo w v w' v' := by
  obtain ⟨A, cap, rfl, hc, hm, hr⟩ := id hs
  have H := Lib.hid h
  have HS := Lib.hid hs
  have HG := Lib.hid hg
  clear h hs hr hg
  unfold maxLen at hm
  have n1 := numI_le xs.length
  have hl2 : l.length + (numI xs.length).length + (xs.flatMap rulB).length ≤ 100000000 := by simpa [listB, Nat.add_assoc] using hl
  have HL := Lib.hid hl2
  clear hl
  go_enter Tryz.func89, Tryz.ntmps89
  go_wp2_with fail
  refine (num_int _ _ _ _ H.out (by omega)).mono ?_
  rintro e w1 ⟨v1, rfl, o1, t1⟩
  have O1 := Lib.hid o1
  have T1 := Lib.hid t1
  clear o1 t1 hl2
  go_wp2_with fail
  go_loopw [0, 15] (fun u i wr => ∃ k : Nat, k ≤ xs.length ∧ i = .int .i64 k ∧ Out wr u (l ++ numI xs.length ++ (xs.take k).flatMap rulB) ∧ OutTo w v wr u) (fun _ i _ => xs.length - (intOf i).toNat)
  case atStart => exact ⟨0, by omega, rfl, by simpa using O1.out, T1.out⟩
  case round =>
    obtain ⟨k, hk, rfl, oo, tt⟩ := hrel
    have OO := Lib.hid oo
    have TT := Lib.hid tt
    clear oo
    by_cases hlt : k < xs.length
    · have hx : xs[k]? = some xs[k] := List.getElem?_eq_getElem hlt
      have HW := Lib.hid (HG.out _ (List.getElem_mem hlt))
      obtain ⟨b, o, rfl, hb, r⟩ := (HS.out.below (tt.old hB hv)).get 7 cRul_len hx
      have htk : xs.take (k + 1) = xs.take k ++ [xs[k]] := by rw [List.take_succ_eq_append_getElem hlt]
      have HT := Lib.hid htk
      have hlk : (l ++ numI xs.length ++ (xs.take k).flatMap rulB).length ≤ 100000000 := by
        have h1 := take_flat_le rulB xs k
        have h2 := HL.out
        rw [List.length_append, List.length_append]
        omega
      have HK := Lib.hid hlk
      clear hx htk tt hlk
      generalize xs[k] = x at *
      have r0 : wr.cell? ⟨b, o + k * 7, none⟩ = some (.int .i64 x.rect.c1) := r 0 _ rfl
      have r1 : wr.cell? ⟨b, o + k * 7 + 1, none⟩ = some (.int .i64 x.rect.r1) := r 1 _ rfl
      have r2 : wr.cell? ⟨b, o + k * 7 + 2, none⟩ = some (.int .i64 x.rect.c2) := r 2 _ rfl
      have r3 : wr.cell? ⟨b, o + k * 7 + 3, none⟩ = some (.int .i64 x.rect.r2) := r 3 _ rfl
      have r4 : wr.cell? ⟨b, o + k * 7 + 4, none⟩ = some (.int .u64 x.rights.rd) := r 4 _ rfl
      have r5 : wr.cell? ⟨b, o + k * 7 + 5, none⟩ = some (.int .u64 x.rights.wr) := r 5 _ rfl
      have r6 : wr.cell? ⟨b, o + k * 7 + 6, none⟩ = some (.int .u64 x.rights.ow) := r 6 _ rfl
      have hi0 : (0 : Int) ≤ (k : Int) := Int.natCast_nonneg _
      have hi1 : (k : Int) < (xs.length : Int) := by omega
      clear r
      go_wp2_with fail
      refine (HW.out _ _ _ (OO.out.alloc _) HK.out).mono ?_
      rintro e w2 ⟨v2, rfl, o2, t2⟩
      have O2 := Lib.hid o2
      have T2 := Lib.hid ((TT.out.alloc _).trans t2)
      clear o2 t2
      go_wp2
      refine ⟨⟨k + 1, by omega, by go_num, ?_, T2.out⟩, by simp [intOf]; omega⟩
      rw [HT.out]
      simpa using O2.out
    · go_wp2
      go_ret
      obtain rfl : k = xs.length := by omega
      exact ⟨_, rfl, by have := OO.out; rw [List.take_length] at this; simpa [listB] using this, TT.out⟩

set_option maxRecDepth 100000 in
set_option maxHeartbeats 4000000 in
theorem list_grt (v sv : Value) (l : Bytes) (xs : List Grt) (B : Nat) (w : World) (h : Out w v l) (hB : B ≤ w.heap.size) (hv : ∀ k, v.ownBlock = some k → B ≤ k) (hs : Sls cGrt w B sv xs)
    (hg : ∀ x ∈ xs, Writes cGrt grtB 94 x) (hl : l.length + (listB grtB xs).length ≤ 100000000) :
    Calls Tryz.prog 93 #[v, sv, .func (.func 94) #[] #[]] w fun e w' => ∃ v', e = .returned v' ∧ Out w' v' (l ++ listB grtB xs) ∧ OutTo w v w' v' := by
  obtain ⟨A, cap, rfl, hc, hm, hr⟩ := id hs
  have H := Lib.hid h
  have HS := Lib.hid hs
  have HG := Lib.hid hg
  clear h hs hr hg
  unfold maxLen at hm
  have n1 := numI_le xs.length
  have hl2 : l.length + (numI xs.length).length + (xs.flatMap grtB).length ≤ 100000000 := by simpa [listB, Nat.add_assoc] using hl
  have HL := Lib.hid hl2
  clear hl
  go_enter Tryz.func93, Tryz.ntmps93
  go_wp2_with fail
  refine (num_int _ _ _ _ H.out (by omega)).mono ?_
  rintro e w1 ⟨v1, rfl, o1, t1⟩
  have O1 := Lib.hid o1
  have T1 := Lib.hid t1
  clear o1 t1 hl2
  go_wp2_with fail
  go_loopw [0, 15] (fun u i wr => ∃ k : Nat, k ≤ xs.length ∧ i = .int .i64 k ∧ Out wr u (l ++ numI xs.length ++ (xs.take k).flatMap grtB) ∧ OutTo w v wr u) (fun _ i _ => xs.length - (intOf i).toNat)
  case atStart => exact ⟨0, by omega, rfl, by simpa using O1.out, T1.out⟩
  case round =>
    obtain ⟨k, hk, rfl, oo, tt⟩ := hrel
    have OO := Lib.hid oo
    have TT := Lib.hid tt
    clear oo
    by_cases hlt : k < xs.length
    · have hx : xs[k]? = some xs[k] := List.getElem?_eq_getElem hlt
      have HW := Lib.hid (HG.out _ (List.getElem_mem hlt))
      obtain ⟨b, o, rfl, hb, r⟩ := (HS.out.below (tt.old hB hv)).get 8 cGrt_len hx
      have htk : xs.take (k + 1) = xs.take k ++ [xs[k]] := by rw [List.take_succ_eq_append_getElem hlt]
      have HT := Lib.hid htk
      have hlk : (l ++ numI xs.length ++ (xs.take k).flatMap grtB).length ≤ 100000000 := by
        have h1 := take_flat_le grtB xs k
        have h2 := HL.out
        rw [List.length_append, List.length_append]
        omega
      have HK := Lib.hid hlk
      clear hx htk tt hlk
      generalize xs[k] = x at *
      have r0 : wr.cell? ⟨b, o + k * 8, none⟩ = some (.int .i64 x.rect.c1) := r 0 _ rfl
      have r1 : wr.cell? ⟨b, o + k * 8 + 1, none⟩ = some (.int .i64 x.rect.r1) := r 1 _ rfl
      have r2 : wr.cell? ⟨b, o + k * 8 + 2, none⟩ = some (.int .i64 x.rect.c2) := r 2 _ rfl
      have r3 : wr.cell? ⟨b, o + k * 8 + 3, none⟩ = some (.int .i64 x.rect.r2) := r 3 _ rfl
      have r4 : wr.cell? ⟨b, o + k * 8 + 4, none⟩ = some (.int .u8 x.fns) := r 4 _ rfl
      have r5 : wr.cell? ⟨b, o + k * 8 + 5, none⟩ = some (.int .u64 x.to_) := r 5 _ rfl
      have r6 : wr.cell? ⟨b, o + k * 8 + 6, none⟩ = some (.int .i64 x.by_) := r 6 _ rfl
      have r7 : wr.cell? ⟨b, o + k * 8 + 7, none⟩ = some (.bool x.revoked) := r 7 _ rfl
      have hi0 : (0 : Int) ≤ (k : Int) := Int.natCast_nonneg _
      have hi1 : (k : Int) < (xs.length : Int) := by omega
      clear r
      go_wp2_with fail
      refine (HW.out _ _ _ (OO.out.alloc _) HK.out).mono ?_
      rintro e w2 ⟨v2, rfl, o2, t2⟩
      have O2 := Lib.hid o2
      have T2 := Lib.hid ((TT.out.alloc _).trans t2)
      clear o2 t2
      go_wp2
      refine ⟨⟨k + 1, by omega, by go_num, ?_, T2.out⟩, by simp [intOf]; omega⟩
      rw [HT.out]
      simpa using O2.out
    · go_wp2
      go_ret
      obtain rfl : k = xs.length := by omega
      exact ⟨_, rfl, by have := OO.out; rw [List.take_length] at this; simpa [listB] using this, TT.out⟩

set_option maxRecDepth 100000 in
set_option maxHeartbeats 4000000 in
theorem list_evt (v sv : Value) (l : Bytes) (xs : List Evt) (B : Nat) (w : World) (h : Out w v l) (hB : B ≤ w.heap.size) (hv : ∀ k, v.ownBlock = some k → B ≤ k) (hs : Sls cEvt w B sv xs)
    (hg : ∀ x ∈ xs, Writes cEvt evtB 99 x) (hl : l.length + (listB evtB xs).length ≤ 100000000) :
    Calls Tryz.prog 98 #[v, sv, .func (.func 99) #[] #[]] w fun e w' => ∃ v', e = .returned v' ∧ Out w' v' (l ++ listB evtB xs) ∧ OutTo w v w' v' := by
  obtain ⟨A, cap, rfl, hc, hm, hr⟩ := id hs
  have H := Lib.hid h
  have HS := Lib.hid hs
  have HG := Lib.hid hg
  clear h hs hr hg
  unfold maxLen at hm
  have n1 := numI_le xs.length
  have hl2 : l.length + (numI xs.length).length + (xs.flatMap evtB).length ≤ 100000000 := by simpa [listB, Nat.add_assoc] using hl
  have HL := Lib.hid hl2
  clear hl
  go_enter Tryz.func98, Tryz.ntmps98
  go_wp2_with fail
  refine (num_int _ _ _ _ H.out (by omega)).mono ?_
  rintro e w1 ⟨v1, rfl, o1, t1⟩
  have O1 := Lib.hid o1
  have T1 := Lib.hid t1
  clear o1 t1 hl2
  go_wp2_with fail
  go_loopw [0, 15] (fun u i wr => ∃ k : Nat, k ≤ xs.length ∧ i = .int .i64 k ∧ Out wr u (l ++ numI xs.length ++ (xs.take k).flatMap evtB) ∧ OutTo w v wr u) (fun _ i _ => xs.length - (intOf i).toNat)
  case atStart => exact ⟨0, by omega, rfl, by simpa using O1.out, T1.out⟩
  case round =>
    obtain ⟨k, hk, rfl, oo, tt⟩ := hrel
    have OO := Lib.hid oo
    have TT := Lib.hid tt
    clear oo
    by_cases hlt : k < xs.length
    · have hx : xs[k]? = some xs[k] := List.getElem?_eq_getElem hlt
      have HW := Lib.hid (HG.out _ (List.getElem_mem hlt))
      obtain ⟨b, o, rfl, hb, r⟩ := (HS.out.below (tt.old hB hv)).get 9 cEvt_len hx
      have htk : xs.take (k + 1) = xs.take k ++ [xs[k]] := by rw [List.take_succ_eq_append_getElem hlt]
      have HT := Lib.hid htk
      have hlk : (l ++ numI xs.length ++ (xs.take k).flatMap evtB).length ≤ 100000000 := by
        have h1 := take_flat_le evtB xs k
        have h2 := HL.out
        rw [List.length_append, List.length_append]
        omega
      have HK := Lib.hid hlk
      clear hx htk tt hlk
      generalize xs[k] = x at *
      have r0 : wr.cell? ⟨b, o + k * 9, none⟩ = some (.int .i64 x.step) := r 0 _ rfl
      have r1 : wr.cell? ⟨b, o + k * 9 + 1, none⟩ = some (.int .i64 x.user) := r 1 _ rfl
      have r2 : wr.cell? ⟨b, o + k * 9 + 2, none⟩ = some (.int .u8 x.kind) := r 2 _ rfl
      have r3 : wr.cell? ⟨b, o + k * 9 + 3, none⟩ = some (.int .i64 x.rect.c1) := r 3 _ rfl
      have r4 : wr.cell? ⟨b, o + k * 9 + 4, none⟩ = some (.int .i64 x.rect.r1) := r 4 _ rfl
      have r5 : wr.cell? ⟨b, o + k * 9 + 5, none⟩ = some (.int .i64 x.rect.c2) := r 5 _ rfl
      have r6 : wr.cell? ⟨b, o + k * 9 + 6, none⟩ = some (.int .i64 x.rect.r2) := r 6 _ rfl
      have r7 : wr.cell? ⟨b, o + k * 9 + 7, none⟩ = some (.bool x.done_) := r 7 _ rfl
      have r8 : wr.cell? ⟨b, o + k * 9 + 8, none⟩ = some (.int .u64 x.to_) := r 8 _ rfl
      have hi0 : (0 : Int) ≤ (k : Int) := Int.natCast_nonneg _
      have hi1 : (k : Int) < (xs.length : Int) := by omega
      clear r
      go_wp2_with fail
      refine (HW.out _ _ _ (OO.out.alloc _) HK.out).mono ?_
      rintro e w2 ⟨v2, rfl, o2, t2⟩
      have O2 := Lib.hid o2
      have T2 := Lib.hid ((TT.out.alloc _).trans t2)
      clear o2 t2
      go_wp2
      refine ⟨⟨k + 1, by omega, by go_num, ?_, T2.out⟩, by simp [intOf]; omega⟩
      rw [HT.out]
      simpa using O2.out
    · go_wp2
      go_ret
      obtain rfl : k = xs.length := by omega
      exact ⟨_, rfl, by have := OO.out; rw [List.take_length] at this; simpa [listB] using this, TT.out⟩

set_option maxRecDepth 100000 in
set_option maxHeartbeats 4000000 in
theorem list_rls (v sv : Value) (l : Bytes) (xs : List Rls) (B : Nat) (w : World) (h : Out w v l) (hB : B ≤ w.heap.size) (hv : ∀ k, v.ownBlock = some k → B ≤ k) (hs : Sls cRls w B sv xs)
    (hg : ∀ x ∈ xs, Writes cRls rlsB 101 x) (hl : l.length + (listB rlsB xs).length ≤ 100000000) :
    Calls Tryz.prog 100 #[v, sv, .func (.func 101) #[] #[]] w fun e w' => ∃ v', e = .returned v' ∧ Out w' v' (l ++ listB rlsB xs) ∧ OutTo w v w' v' := by
  obtain ⟨A, cap, rfl, hc, hm, hr⟩ := id hs
  have H := Lib.hid h
  have HS := Lib.hid hs
  have HG := Lib.hid hg
  clear h hs hr hg
  unfold maxLen at hm
  have n1 := numI_le xs.length
  have hl2 : l.length + (numI xs.length).length + (xs.flatMap rlsB).length ≤ 100000000 := by simpa [listB, Nat.add_assoc] using hl
  have HL := Lib.hid hl2
  clear hl
  go_enter Tryz.func100, Tryz.ntmps100
  go_wp2_with fail
  refine (num_int _ _ _ _ H.out (by omega)).mono ?_
  rintro e w1 ⟨v1, rfl, o1, t1⟩
  have O1 := Lib.hid o1
  have T1 := Lib.hid t1
  clear o1 t1 hl2
  go_wp2_with fail
  go_loopw [0, 15] (fun u i wr => ∃ k : Nat, k ≤ xs.length ∧ i = .int .i64 k ∧ Out wr u (l ++ numI xs.length ++ (xs.take k).flatMap rlsB) ∧ OutTo w v wr u) (fun _ i _ => xs.length - (intOf i).toNat)
  case atStart => exact ⟨0, by omega, rfl, by simpa using O1.out, T1.out⟩
  case round =>
    obtain ⟨k, hk, rfl, oo, tt⟩ := hrel
    have OO := Lib.hid oo
    have TT := Lib.hid tt
    clear oo
    by_cases hlt : k < xs.length
    · have hx : xs[k]? = some xs[k] := List.getElem?_eq_getElem hlt
      have HW := Lib.hid (HG.out _ (List.getElem_mem hlt))
      obtain ⟨b, o, rfl, hb, r⟩ := (HS.out.below (tt.old hB hv)).get 11 cRls_len hx
      have htk : xs.take (k + 1) = xs.take k ++ [xs[k]] := by rw [List.take_succ_eq_append_getElem hlt]
      have HT := Lib.hid htk
      have hlk : (l ++ numI xs.length ++ (xs.take k).flatMap rlsB).length ≤ 100000000 := by
        have h1 := take_flat_le rlsB xs k
        have h2 := HL.out
        rw [List.length_append, List.length_append]
        omega
      have HK := Lib.hid hlk
      clear hx htk tt hlk
      generalize xs[k] = x at *
      have r0 : wr.cell? ⟨b, o + k * 11, none⟩ = some (.int .i64 x.step) := r 0 _ rfl
      have r1 : wr.cell? ⟨b, o + k * 11 + 1, none⟩ = some (.int .i64 x.at_.col) := r 1 _ rfl
      have r2 : wr.cell? ⟨b, o + k * 11 + 2, none⟩ = some (.int .i64 x.at_.row) := r 2 _ rfl
      have r3 : wr.cell? ⟨b, o + k * 11 + 3, none⟩ = some (.int .i64 x.node) := r 3 _ rfl
      have r4 : wr.cell? ⟨b, o + k * 11 + 4, none⟩ = some (.int .u8 x.fn) := r 4 _ rfl
      have r5 : wr.cell? ⟨b, o + k * 11 + 5, none⟩ = some (.int .i64 x.rect.c1) := r 5 _ rfl
      have r6 : wr.cell? ⟨b, o + k * 11 + 6, none⟩ = some (.int .i64 x.rect.r1) := r 6 _ rfl
      have r7 : wr.cell? ⟨b, o + k * 11 + 7, none⟩ = some (.int .i64 x.rect.c2) := r 7 _ rfl
      have r8 : wr.cell? ⟨b, o + k * 11 + 8, none⟩ = some (.int .i64 x.rect.r2) := r 8 _ rfl
      have r9 : wr.cell? ⟨b, o + k * 11 + 9, none⟩ = some (.int .i64 x.grant) := r 9 _ rfl
      have r10 : wr.cell? ⟨b, o + k * 11 + 10, none⟩ = some (.int .u64 x.to_) := r 10 _ rfl
      have hi0 : (0 : Int) ≤ (k : Int) := Int.natCast_nonneg _
      have hi1 : (k : Int) < (xs.length : Int) := by omega
      clear r
      go_wp2_with fail
      refine (HW.out _ _ _ (OO.out.alloc _) HK.out).mono ?_
      rintro e w2 ⟨v2, rfl, o2, t2⟩
      have O2 := Lib.hid o2
      have T2 := Lib.hid ((TT.out.alloc _).trans t2)
      clear o2 t2
      go_wp2
      refine ⟨⟨k + 1, by omega, by go_num, ?_, T2.out⟩, by simp [intOf]; omega⟩
      rw [HT.out]
      simpa using O2.out
    · go_wp2
      go_ret
      obtain rfl : k = xs.length := by omega
      exact ⟨_, rfl, by have := OO.out; rw [List.take_length] at this; simpa [listB] using this, TT.out⟩

set_option maxRecDepth 100000 in
set_option maxHeartbeats 4000000 in
theorem list_opr (v sv : Value) (l : Bytes) (xs : List Opr) (B : Nat) (w : World) (h : Out w v l) (hB : B ≤ w.heap.size) (hv : ∀ k, v.ownBlock = some k → B ≤ k) (hs : Sls cOpr w B sv xs)
    (hg : ∀ x ∈ xs, Writes cOpr oprB 103 x) (hl : l.length + (listB oprB xs).length ≤ 100000000) :
    Calls Tryz.prog 102 #[v, sv, .func (.func 103) #[] #[]] w fun e w' => ∃ v', e = .returned v' ∧ Out w' v' (l ++ listB oprB xs) ∧ OutTo w v w' v' := by
  obtain ⟨A, cap, rfl, hc, hm, hr⟩ := id hs
  have H := Lib.hid h
  have HS := Lib.hid hs
  have HG := Lib.hid hg
  clear h hs hr hg
  unfold maxLen at hm
  have n1 := numI_le xs.length
  have hl2 : l.length + (numI xs.length).length + (xs.flatMap oprB).length ≤ 100000000 := by simpa [listB, Nat.add_assoc] using hl
  have HL := Lib.hid hl2
  clear hl
  go_enter Tryz.func102, Tryz.ntmps102
  go_wp2_with fail
  refine (num_int _ _ _ _ H.out (by omega)).mono ?_
  rintro e w1 ⟨v1, rfl, o1, t1⟩
  have O1 := Lib.hid o1
  have T1 := Lib.hid t1
  clear o1 t1 hl2
  go_wp2_with fail
  go_loopw [0, 15] (fun u i wr => ∃ k : Nat, k ≤ xs.length ∧ i = .int .i64 k ∧ Out wr u (l ++ numI xs.length ++ (xs.take k).flatMap oprB) ∧ OutTo w v wr u) (fun _ i _ => xs.length - (intOf i).toNat)
  case atStart => exact ⟨0, by omega, rfl, by simpa using O1.out, T1.out⟩
  case round =>
    obtain ⟨k, hk, rfl, oo, tt⟩ := hrel
    have OO := Lib.hid oo
    have TT := Lib.hid tt
    clear oo
    by_cases hlt : k < xs.length
    · have hx : xs[k]? = some xs[k] := List.getElem?_eq_getElem hlt
      have HW := Lib.hid (HG.out _ (List.getElem_mem hlt))
      obtain ⟨b, o, rfl, hb, r⟩ := (HS.out.below (tt.old hB hv)).get 13 cOpr_len hx
      have htk : xs.take (k + 1) = xs.take k ++ [xs[k]] := by rw [List.take_succ_eq_append_getElem hlt]
      have HT := Lib.hid htk
      have hlk : (l ++ numI xs.length ++ (xs.take k).flatMap oprB).length ≤ 100000000 := by
        have h1 := take_flat_le oprB xs k
        have h2 := HL.out
        rw [List.length_append, List.length_append]
        omega
      have HK := Lib.hid hlk
      clear hx htk tt hlk
      generalize xs[k] = x at *
      have r0 : wr.cell? ⟨b, o + k * 13, none⟩ = some (.int .u8 x.kind) := r 0 _ rfl
      have r1 : wr.cell? ⟨b, o + k * 13 + 1, none⟩ = some (.int .i64 x.user) := r 1 _ rfl
      have r2 : wr.cell? ⟨b, o + k * 13 + 2, none⟩ = some (.int .i64 x.rect.c1) := r 2 _ rfl
      have r3 : wr.cell? ⟨b, o + k * 13 + 3, none⟩ = some (.int .i64 x.rect.r1) := r 3 _ rfl
      have r4 : wr.cell? ⟨b, o + k * 13 + 4, none⟩ = some (.int .i64 x.rect.c2) := r 4 _ rfl
      have r5 : wr.cell? ⟨b, o + k * 13 + 5, none⟩ = some (.int .i64 x.rect.r2) := r 5 _ rfl
      have r6 : wr.cell? ⟨b, o + k * 13 + 6, none⟩ = some (str x.input) := r 6 _ rfl
      have r7 : wr.cell? ⟨b, o + k * 13 + 7, none⟩ = some (.int .u64 x.rights.rd) := r 7 _ rfl
      have r8 : wr.cell? ⟨b, o + k * 13 + 8, none⟩ = some (.int .u64 x.rights.wr) := r 8 _ rfl
      have r9 : wr.cell? ⟨b, o + k * 13 + 9, none⟩ = some (.int .u64 x.rights.ow) := r 9 _ rfl
      have r10 : wr.cell? ⟨b, o + k * 13 + 10, none⟩ = some (.int .u8 x.fns) := r 10 _ rfl
      have r11 : wr.cell? ⟨b, o + k * 13 + 11, none⟩ = some (.int .u64 x.to_) := r 11 _ rfl
      have r12 : wr.cell? ⟨b, o + k * 13 + 12, none⟩ = some (.int .i64 x.index) := r 12 _ rfl
      have hi0 : (0 : Int) ≤ (k : Int) := Int.natCast_nonneg _
      have hi1 : (k : Int) < (xs.length : Int) := by omega
      clear r
      go_wp2_with fail
      refine (HW.out _ _ _ (OO.out.alloc _) HK.out).mono ?_
      rintro e w2 ⟨v2, rfl, o2, t2⟩
      have O2 := Lib.hid o2
      have T2 := Lib.hid ((TT.out.alloc _).trans t2)
      clear o2 t2
      go_wp2
      refine ⟨⟨k + 1, by omega, by go_num, ?_, T2.out⟩, by simp [intOf]; omega⟩
      rw [HT.out]
      simpa using O2.out
    · go_wp2
      go_ret
      obtain rfl : k = xs.length := by omega
      exact ⟨_, rfl, by have := OO.out; rw [List.take_length] at this; simpa [listB] using this, TT.out⟩

end Go.Proofs.YtamcgggmfghljaaGreatDoor
