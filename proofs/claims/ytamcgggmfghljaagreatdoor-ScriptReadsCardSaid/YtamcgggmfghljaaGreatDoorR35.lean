/- Layer 18 (program): the set of all users; a user in a set. · Layer 19 (program): rules checked. · Layers 21, 30 (program): no grants, no logs: checked. · Layers 31, 41 (program): a book of entries and rules alone, checked. · Layer 41 (program): a bool's bytes, a string's. · Layer 41 (program): an address's, rights' bytes (printed by tools/gen_enc.py). · Layer 41 (program): a range's bytes. -/
import Derived.Laws.ShiftsVarLaws
import Derived.Deep.RegionHeld3
import Derived.Deep.QuietTactic
import Derived.BigQuiet
import Derived.Test.YtamcgggmfghljaaGreatDoorR2
import Derived.Test.YtamcgggmfghljaaGreatDoorR13
import Derived.Test.YtamcgggmfghljaaGreatDoorR3
import Derived.Test.YtamcgggmfghljaaGreatDoorR6
import Derived.Test.YtamcgggmfghljaaGreatDoorR28
namespace Go.Proofs.YtamcgggmfghljaaGreatDoor
open Go.RowKit

/-- The set of the users from 0 to n - 1. -/
def allI (n : Int) : Int := 2 ^ n.toNat - 1
def hasI (s u : Int) : Bool := decide (0 ≤ u) && decide (u < 64) && decide (s / 2 ^ u.toNat % 2 = 1)
theorem pow_bd (n : Int) (h1 : n ≤ 64) : (1 : Int) ≤ 2 ^ n.toNat ∧ (2 : Int) ^ n.toNat ≤ 18446744073709551616 := by
  have a : (2 : Nat) ^ n.toNat ≤ 2 ^ 64 := Nat.pow_le_pow_right (by decide) (by omega)
  have b : 1 ≤ (2 : Nat) ^ n.toNat := Nat.one_le_two_pow
  have e : (2 : Int) ^ n.toNat = ((2 ^ n.toNat : Nat) : Int) := by simp
  rw [e]
  omega
theorem all_wrap (n : Int) (h1 : n ≤ 64) : IntKind.u64.wrap (IntKind.u64.wrap (2 ^ n.toNat) - 1) = allI n := by
  have h := pow_bd n h1
  rw [IntKind.wrap_u64, IntKind.wrap_u64]
  unfold allI
  omega
theorem allI_bd (n : Int) (h1 : n ≤ 64) : 0 ≤ allI n ∧ allI n < 18446744073709551616 := by
  have h := pow_bd n h1
  unfold allI
  omega
theorem bit_odd (x : Int) (h0 : 0 ≤ x) (h1 : x < 18446744073709551616) : (bits .and .u64 x 1 == 1) = decide (x % 2 = 1) := by
  rw [u64_and x 1 h0 h1 (by decide) (by decide), show (1 : Int).toNat = 1 from rfl, nat_mask1]
  by_cases h : x % 2 = 1
  · have : ((x.toNat % 2 : Nat) : Int) = 1 := by omega
    simp [this, h]
  · have : ((x.toNat % 2 : Nat) : Int) = 0 := by omega
    simp [this, h]
theorem shr_bd (s : Int) (k : Nat) (h0 : 0 ≤ s) (h1 : s < 18446744073709551616) : 0 ≤ s / 2 ^ k ∧ s / 2 ^ k < 18446744073709551616 := by
  have hp : (0 : Int) < 2 ^ k := Int.pow_pos (by decide)
  exact ⟨Int.ediv_nonneg h0 (Int.le_of_lt hp), Int.lt_of_le_of_lt (Int.ediv_le_self _ h0) h1⟩
theorem ret_bool' {a b : Bool} (h : a = b) : Ending.returned (.bool a) = .returned (.bool b) := by rw [h]

set_option maxRecDepth 100000 in
set_option maxHeartbeats 2000000 in
theorem all_no (n : Int) (w : World) (h : n < 0 ∨ 64 < n) :
    Calls Tryz.prog 170 #[.int .i64 n] w fun e w' => e = .returned (.tuple #[.int .u64 0, .int .i64 3]) ∧ w = w' := by
  by_cases h1 : n < 0
  all_goals
    go_enter Tryz.func170, Tryz.ntmps170
    go_wp2
    go_ret2
    exact ⟨rfl, rfl⟩

set_option maxRecDepth 100000 in
set_option maxHeartbeats 2000000 in
theorem all_yes (n : Int) (w : World) (h0 : 0 ≤ n) (h1 : n ≤ 64) :
    Calls Tryz.prog 170 #[.int .i64 n] w fun e w' => e = .returned (.tuple #[.int .u64 (allI n), .int .i64 0]) ∧ w = w' := by
  have H := Lib.hid (all_wrap n h1)
  go_enter Tryz.func170, Tryz.ntmps170
  go_wp2
  go_ret2
  exact ⟨by rw [H.out]; rfl, rfl⟩

set_option maxRecDepth 100000 in
set_option maxHeartbeats 2000000 in
theorem has_any (s u : Int) (w : World) (s0 : 0 ≤ s) (s1 : s < 18446744073709551616) :
    Calls Tryz.prog 173 #[.int .u64 s, .int .i64 u] w fun e w' => e = .returned (.bool (hasI s u)) ∧ w = w' := by
  have hb := shr_bd s u.toNat s0 s1
  have H := Lib.hid (bit_odd _ hb.1 hb.2)
  clear hb s0 s1
  by_cases h0 : 0 ≤ u
  · by_cases h1 : u < 64
    · have HH := Lib.hid (show hasI s u = decide (s / 2 ^ u.toNat % 2 = 1) by simp [hasI, h0, h1])
      go_enter Tryz.func173, Tryz.ntmps173
      go_wp2
      go_ret
      exact ⟨ret_bool' (by rw [HH.out, H.out]), rfl⟩
    · have HH := Lib.hid (show hasI s u = false by simp [hasI, h1])
      go_enter Tryz.func173, Tryz.ntmps173
      go_wp2
      go_ret
      exact ⟨ret_bool' (by rw [HH.out]), rfl⟩
  · have HH := Lib.hid (show hasI s u = false by simp [hasI, h0])
    go_enter Tryz.func173, Tryz.ntmps173
    go_wp2
    go_ret
    exact ⟨ret_bool' (by rw [HH.out]), rfl⟩

end Go.Proofs.YtamcgggmfghljaaGreatDoor

namespace Go.Proofs.YtamcgggmfghljaaGreatDoor
open Go.RowKit

/-- A rule's error among users. -/
def rulE (u : Int) (x : Rul) : Int :=
  if rctE x.rect ≠ 0 then 3 else if bits .andNot .u64 (bits .or .u64 (bits .or .u64 x.rights.rd x.rights.wr) x.rights.ow) (allI u) ≠ 0 then 2 else 0
def firstE {α : Type} (f : α → Int) : List α → Int
  | [] => 0
  | x :: l => if f x ≠ 0 then f x else firstE f l
def aclE (u : Int) (l : List Rul) : Int :=
  if u < 1 ∨ 64 < u ∨ l = [] then 2 else if 64 < l.length then 5 else if (l.head?.map (·.rect)) ≠ some ⟨1, 1, 1024, 1024⟩ then 2 else firstE (rulE u) l

theorem firstE_drop {α : Type} (f : α → Int) {l : List α} {k : Nat} {x : α} (h : l[k]? = some x) : firstE f (l.drop k) = if f x ≠ 0 then f x else firstE f (l.drop (k + 1)) := by
  have hk := (List.getElem?_eq_some_iff.1 h).1
  rw [List.drop_eq_getElem_cons hk]
  have : l[k] = x := by rw [List.getElem?_eq_getElem hk] at h; simpa using h
  rw [this]
  rfl

set_option maxRecDepth 100000 in
set_option maxHeartbeats 2000000 in
theorem neq_rct (x y : Rct) (w : World) : (binOp .neq 43 (.agg (cRct x).toArray) (.agg (cRct y).toArray)).run Tryz.prog w = .ok (.bool (!decide (x = y))) w := by
  obtain ⟨a, b, c, d⟩ := x
  obtain ⟨a', b', c', d'⟩ := y
  simp [go_sem, cRct]
  by_cases q0 : a = a'
  · by_cases q1 : b = b'
    · by_cases q2 : c = c'
      · by_cases q3 : d = d'
        · simp [q0, q1, q2, q3]
        · simp [q0, q1, q2, q3]
      · simp [q0, q1, q2]
    · simp [q0, q1]
  · simp [q0]

set_option maxRecDepth 100000 in
set_option maxHeartbeats 4000000 in
theorem acl_check (u : Int) (sv : Value) (l : List Rul) (B : Nat) (w : World) (hB : B ≤ w.heap.size) (hs : Sls cRul w B sv l) :
    Calls Tryz.prog 111 #[.int .i64 u, sv] w fun e w' => ∃ i, e = .returned (.tuple #[.int .i64 i, .int .i64 (aclE u l)]) ∧ Below w.heap.size w w' := by
  obtain ⟨A, cap, rfl, hc, hm, hr⟩ := id hs
  have HS := Lib.hid hs
  clear hs hr
  unfold maxLen at hm
  by_cases hu : u < 0 ∨ 64 < u
  · have HE := Lib.hid (show aclE u l = 2 by unfold aclE; rw [if_pos (by omega)])
    go_enter Tryz.func111, Tryz.ntmps111
    go_wp2_with fail
    refine (all_no u _ hu).mono ?_
    rintro e w1 ⟨rfl, rfl⟩
    go_wp2
    go_ret2
    exact ⟨_, by rw [HE.out]; rfl, by go_grown⟩
  · skip
    go_enter Tryz.func111, Tryz.ntmps111
    go_wp2_with fail
    refine (all_yes u _ (by omega) (by omega)).mono ?_
    rintro e w1 ⟨rfl, rfl⟩
    by_cases h0 : u = 0
    · subst h0
      have HE := Lib.hid (show aclE 0 l = 2 by unfold aclE; rw [if_pos (by omega)])
      go_wp2
      go_ret2
      exact ⟨_, by rw [HE.out]; rfl, by go_grown⟩
    · have u0 : (u == 0) = false := by simpa using h0
      by_cases hl0 : l.length = 0
      · have l0 : ((l.length : Int) == 0) = true := by simp [hl0]
        have HE := Lib.hid (show aclE u l = 2 by unfold aclE; rw [if_pos (.inr (.inr (List.eq_nil_of_length_eq_zero hl0)))])
        clear hl0
        go_wp2
        go_ret2
        exact ⟨_, by rw [HE.out]; rfl, by go_grown⟩
      · have l0 : ((l.length : Int) == 0) = false := by simpa using hl0
        have hne : l ≠ [] := fun e => hl0 (by rw [e]; rfl)
        by_cases h64 : 64 < l.length
        · have HE := Lib.hid (show aclE u l = 5 by unfold aclE; rw [if_neg (by simp [hne]; omega), if_pos h64])
          clear hne hl0
          go_wp2
          go_ret2
          exact ⟨_, by rw [HE.out]; rfl, by go_grown⟩
        · have hx : l[0]? = some (l[0]'(by omega)) := List.getElem?_eq_getElem (by omega)
          obtain ⟨b, o, rfl, hb, r⟩ := HS.out.get 7 cRul_len hx
          have HE := Lib.hid (show aclE u l = if (l[0]'(by omega)).rect ≠ ⟨1, 1, 1024, 1024⟩ then 2 else firstE (rulE u) l by
            unfold aclE
            rw [if_neg (by simp [hne]; omega), if_neg h64, List.head?_eq_getElem?, hx]
            simp)
          generalize l[0]'(by omega) = x at *
          have r0 : w.cell? ⟨b, o, none⟩ = some (.int .i64 x.rect.c1) := by simpa using r 0 _ rfl
          have r1 : w.cell? ⟨b, o + 1, none⟩ = some (.int .i64 x.rect.r1) := by simpa using r 1 _ rfl
          have r2 : w.cell? ⟨b, o + 2, none⟩ = some (.int .i64 x.rect.c2) := by simpa using r 2 _ rfl
          have r3 : w.cell? ⟨b, o + 3, none⟩ = some (.int .i64 x.rect.r2) := by simpa using r 3 _ rfl
          have hn : ∀ W, (binOp .neq 43 (.agg #[.int .i64 x.rect.c1, .int .i64 x.rect.r1, .int .i64 x.rect.c2, .int .i64 x.rect.r2]) (.agg #[.int .i64 1, .int .i64 1, .int .i64 1024, .int .i64 1024])).run Tryz.prog W = .ok (.bool (!decide (x.rect = ⟨1, 1, 1024, 1024⟩))) W := fun W => neq_rct x.rect ⟨1, 1, 1024, 1024⟩ W
          have hi0 : (0 : Int) < (l.length : Int) := by omega
          have hi1 : 0 < l.length := by omega
          clear hx r hne hl0
          have hbl := block_lt_of_cell r0
          by_cases hxs : x.rect = ⟨1, 1, 1024, 1024⟩
          · have hd : decide (x.rect = ⟨1, 1, 1024, 1024⟩) = true := by simpa using hxs
            rw [hd] at hn
            have HX := Lib.hid hxs
            clear hd hxs
            go_wp2
            go_region_held3 (fun W : World => W.cell? ⟨b, o, none⟩ = some (.int .i64 x.rect.c1) ∧ W.cell? ⟨b, o + 1, none⟩ = some (.int .i64 x.rect.r1) ∧ W.cell? ⟨b, o + 2, none⟩ = some (.int .i64 x.rect.c2) ∧ W.cell? ⟨b, o + 3, none⟩ = some (.int .i64 x.rect.r2))
              (first
               | exact ⟨r0, r1, r2, r3⟩
               | exact ⟨(hb1.cell hbl).trans r0, (hb1.cell hbl).trans r1, (hb1.cell hbl).trans r2, (hb1.cell hbl).trans r3⟩)
              (first
               | (go_at_call 171; refine (acl_sheet _).mono ?_; rintro e w1 ⟨rfl, hb1⟩))
            go_wp2
            have HB1 := Lib.hid ((Below.refl w.heap.size w).drew.trans hb1)
            clear r0 r1 r2 r3 hn hi0 hi1 hb1
            go_loopw [39] (fun i wr => ∃ k : Nat, k ≤ l.length ∧ i = .int .i64 k ∧ Below w.heap.size w wr ∧ firstE (rulE u) l = firstE (rulE u) (l.drop k)) (fun i _ => l.length - (intOf i).toNat)
            case atStart => exact ⟨0, by omega, rfl, HB1.out, by simp⟩
            case round =>
              obtain ⟨k, hk, rfl, hbw, hfe⟩ := hrel
              have HF := Lib.hid hfe
              have HBW := Lib.hid hbw
              clear hfe
              by_cases hlt : k < l.length
              · have hy : l[k]? = some l[k] := List.getElem?_eq_getElem hlt
                obtain ⟨b2, o2, hA, hb2, r⟩ := (HS.out.below (hbw.mono hB)).get 7 cRul_len hy
                have HD := Lib.hid (firstE_drop (rulE u) hy)
                generalize l[k] = y at *
                obtain ⟨rfl, rfl⟩ : b = b2 ∧ o = o2 := by simpa using hA
                have r0 : wr.cell? ⟨b, o + k * 7, none⟩ = some (.int .i64 y.rect.c1) := r 0 _ rfl
                have r1 : wr.cell? ⟨b, o + k * 7 + 1, none⟩ = some (.int .i64 y.rect.r1) := r 1 _ rfl
                have r2 : wr.cell? ⟨b, o + k * 7 + 2, none⟩ = some (.int .i64 y.rect.c2) := r 2 _ rfl
                have r3 : wr.cell? ⟨b, o + k * 7 + 3, none⟩ = some (.int .i64 y.rect.r2) := r 3 _ rfl
                have r4 : wr.cell? ⟨b, o + k * 7 + 4, none⟩ = some (.int .u64 y.rights.rd) := r 4 _ rfl
                have r5 : wr.cell? ⟨b, o + k * 7 + 5, none⟩ = some (.int .u64 y.rights.wr) := r 5 _ rfl
                have r6 : wr.cell? ⟨b, o + k * 7 + 6, none⟩ = some (.int .u64 y.rights.ow) := r 6 _ rfl
                have hi0 : (0 : Int) ≤ (k : Int) := Int.natCast_nonneg _
                have hi1 : (k : Int) < (l.length : Int) := by omega
                clear r hy hA hbw
                go_wp2_with fail
                refine (rect_check _ _ _ _ _).mono ?_
                rintro e w3 ⟨rfl, hb3⟩
                have q4 : w3.cell? ⟨wr.heap.size, 4, none⟩ = some (.int .u64 y.rights.rd) := (hb3.cell (p := ⟨wr.heap.size, 4, none⟩) (by simp)).trans (by go_simp)
                have q5 : w3.cell? ⟨wr.heap.size, 5, none⟩ = some (.int .u64 y.rights.wr) := (hb3.cell (p := ⟨wr.heap.size, 5, none⟩) (by simp)).trans (by go_simp)
                have q6 : w3.cell? ⟨wr.heap.size, 6, none⟩ = some (.int .u64 y.rights.ow) := (hb3.cell (p := ⟨wr.heap.size, 6, none⟩) (by simp)).trans (by go_simp)
                have HB3 := Lib.hid (Below.trans (HBW.out.alloc HBW.out.size _) (hb3.mono (by have := HBW.out.size; simp; omega)))
                clear hb3 r0 r1 r2 r3 r4 r5 r6
                by_cases hre : rctE ⟨y.rect.c1, y.rect.r1, y.rect.c2, y.rect.r2⟩ = 0
                · rw [hre]
                  by_cases hbt : bits .andNot .u64 (bits .or .u64 (bits .or .u64 y.rights.rd y.rights.wr) y.rights.ow) (allI u) = 0
                  · have HY := Lib.hid (show rulE u y = 0 by unfold rulE; rw [if_neg (by simpa using hre), if_neg (by simpa using hbt)])
                    have t1 : (bits .andNot .u64 (bits .or .u64 (bits .or .u64 y.rights.rd y.rights.wr) y.rights.ow) (allI u) != 0) = false := by simpa using hbt
                    clear hbt hre
                    go_wp2
                    exact ⟨⟨k + 1, by omega, by go_num, HB3.out, by rw [HF.out, HD.out, HY.out]; rfl⟩, by simp [intOf]; omega⟩
                  · have HY := Lib.hid (show rulE u y = 2 by unfold rulE; rw [if_neg (by simpa using hre), if_pos (by simpa using hbt)])
                    have t1 : (bits .andNot .u64 (bits .or .u64 (bits .or .u64 y.rights.rd y.rights.wr) y.rights.ow) (allI u) != 0) = true := by simpa using hbt
                    clear hbt hre
                    go_wp2
                    go_ret2
                    refine ⟨k, ?_, HB3.out⟩
                    rw [HE.out, if_neg (by simpa using HX.out), HF.out, HD.out, HY.out]
                    rfl
                · have HY := Lib.hid (show rulE u y = 3 by unfold rulE; rw [if_pos (by simpa using hre)])
                  have t1 : (rctE ⟨y.rect.c1, y.rect.r1, y.rect.c2, y.rect.r2⟩ != 0) = true := by simpa using hre
                  clear hre
                  go_wp2
                  go_ret2
                  refine ⟨k, ?_, HB3.out⟩
                  rw [HE.out, if_neg (by simpa using HX.out), HF.out, HD.out, HY.out]
                  rfl
              · go_wp2
                go_ret2
                refine ⟨0, ?_, HBW.out⟩
                rw [HE.out, if_neg (by simpa using HX.out), HF.out, List.drop_eq_nil_of_le (by omega)]
                rfl
          · have hd : decide (x.rect = ⟨1, 1, 1024, 1024⟩) = false := by simpa using hxs
            rw [hd] at hn
            have HX := Lib.hid hxs
            clear hd hxs
            go_wp2
            go_region_held3 (fun W : World => W.cell? ⟨b, o, none⟩ = some (.int .i64 x.rect.c1) ∧ W.cell? ⟨b, o + 1, none⟩ = some (.int .i64 x.rect.r1) ∧ W.cell? ⟨b, o + 2, none⟩ = some (.int .i64 x.rect.c2) ∧ W.cell? ⟨b, o + 3, none⟩ = some (.int .i64 x.rect.r2))
              (first
               | exact ⟨r0, r1, r2, r3⟩
               | exact ⟨(hb1.cell hbl).trans r0, (hb1.cell hbl).trans r1, (hb1.cell hbl).trans r2, (hb1.cell hbl).trans r3⟩)
              (first
               | (go_at_call 171; refine (acl_sheet _).mono ?_; rintro e w1 ⟨rfl, hb1⟩))
            go_wp2
            go_ret2
            exact ⟨_, by rw [HE.out, if_pos HX.out]; rfl, (Below.refl w.heap.size w).drew.trans hb1⟩

end Go.Proofs.YtamcgggmfghljaaGreatDoor

namespace Go.Proofs.YtamcgggmfghljaaGreatDoor
open Go.RowKit

set_option maxRecDepth 100000 in
set_option maxHeartbeats 4000000 in
theorem grant_nil (u : Int) (A : Option Addr) (cap : Nat) (w : World) (h0 : 1 ≤ u) (h1 : u ≤ 64) :
    Calls Tryz.prog 112 #[.int .i64 u, .slice A 0 cap] w fun e w' => e = .returned (.tuple #[.int .i64 0, .int .i64 0]) ∧ Below w.heap.size w w' := by
  have u0 : (u == 0) = false := by simp; omega
  go_enter Tryz.func112, Tryz.ntmps112
  go_wp2_with fail
  refine (all_yes u _ (by omega) (by omega)).mono ?_
  rintro e w1 ⟨rfl, rfl⟩
  go_wp2
  refine wp_loop_rounds 1 ?_
  rw [rounds_succ]
  go_wp2
  go_ret2
  exact ⟨rfl, by go_grown⟩

set_option maxRecDepth 100000 in
set_option maxHeartbeats 4000000 in
theorem audit_nil (u : Int) (A A' : Option Addr) (cap cap' : Nat) (w : World) (h0 : 1 ≤ u) (h1 : u ≤ 64) :
    Calls Tryz.prog 113 #[.int .i64 u, .slice A 0 cap, .slice A' 0 cap'] w fun e w' => e = .returned (.int .i64 0) ∧ Below w.heap.size w w' := by
  have u0 : (u == 0) = false := by simp; omega
  go_enter Tryz.func113, Tryz.ntmps113
  go_wp2_with fail
  refine (all_yes u _ (by omega) (by omega)).mono ?_
  rintro e w1 ⟨rfl, rfl⟩
  go_wp2
  refine wp_loop_rounds 1 ?_
  rw [rounds_succ]
  go_wp2
  refine wp_loop_rounds 1 ?_
  rw [rounds_succ]
  go_wp2
  go_ret
  exact ⟨rfl, by go_grown⟩

end Go.Proofs.YtamcgggmfghljaaGreatDoor

namespace Go.Proofs.YtamcgggmfghljaaGreatDoor
open Go.RowKit

set_option maxRecDepth 100000 in
set_option maxHeartbeats 4000000 in
theorem book_check (b : Bok) (e r g l x : Value) (B : Nat) (w : World) (hB : B ≤ w.heap.size) (hb : RdBok w B b e r g l x) (u0 : 1 ≤ b.users) (u1 : b.users ≤ 64) (hr : aclE b.users b.rules = 0) (hg : b.grants = []) (hl : b.log = []) (hx : b.releases = []) (s0 : 0 ≤ b.step) (s1 : b.step ≤ 1099511627776)
    (he : ∀ W, Below w.heap.size w W → Calls Tryz.prog 110 #[e] W fun u w' => ∃ i, u = .returned (.tuple #[.int .i64 i, .int .i64 0]) ∧ Below W.heap.size W w') :
    Calls Tryz.prog 31 #[vBok b e r g l x] w fun u w' => u = .returned (.int .i64 0) ∧ Below w.heap.size w w' := by
  obtain ⟨Ae, ce, rfl, _⟩ := id hb.ents
  obtain ⟨Ar, cr, rfl, _⟩ := id hb.ruls
  obtain ⟨Ag, cg, rfl, _⟩ := id hb.grts
  obtain ⟨Al, cl, rfl, _⟩ := id hb.evts
  obtain ⟨Ax, cx, rfl, _⟩ := id hb.rlss
  have HB := Lib.hid hb
  have HE := Lib.hid he
  have HR := Lib.hid hr
  clear hb he hr
  rw [hg, hl, hx]
  simp only [List.length_nil]
  have U0 := Lib.hid u0
  have U1 := Lib.hid u1
  clear hg hl hx
  go_enter Tryz.func31, Tryz.ntmps31
  go_wp2_with fail
  refine (HE.out _ ((Below.refl w.heap.size w).alloc (Nat.le_refl _) _)).mono ?_
  rintro e w1 ⟨i1, rfl, hb1⟩
  have p1_0 : w1.cell? ⟨w.heap.size, 0, none⟩ = some (.int .i64 b.users) := (hb1.cell (p := ⟨w.heap.size, 0, none⟩) (by first | (simp; done) | omega)).trans (by go_simp)
  have p1_1 : w1.cell? ⟨w.heap.size, 1, none⟩ = some (.slice Ae b.entries.length ce) := (hb1.cell (p := ⟨w.heap.size, 1, none⟩) (by first | (simp; done) | omega)).trans (by go_simp)
  have p1_2 : w1.cell? ⟨w.heap.size, 2, none⟩ = some (.slice Ar b.rules.length cr) := (hb1.cell (p := ⟨w.heap.size, 2, none⟩) (by first | (simp; done) | omega)).trans (by go_simp)
  have p1_3 : w1.cell? ⟨w.heap.size, 3, none⟩ = some (.slice Ag 0 cg) := (hb1.cell (p := ⟨w.heap.size, 3, none⟩) (by first | (simp; done) | omega)).trans (by go_simp)
  have p1_4 : w1.cell? ⟨w.heap.size, 4, none⟩ = some (.slice Al 0 cl) := (hb1.cell (p := ⟨w.heap.size, 4, none⟩) (by first | (simp; done) | omega)).trans (by go_simp)
  have p1_5 : w1.cell? ⟨w.heap.size, 5, none⟩ = some (.slice Ax 0 cx) := (hb1.cell (p := ⟨w.heap.size, 5, none⟩) (by first | (simp; done) | omega)).trans (by go_simp)
  have p1_6 : w1.cell? ⟨w.heap.size, 6, none⟩ = some (.int .i64 b.step) := (hb1.cell (p := ⟨w.heap.size, 6, none⟩) (by first | (simp; done) | omega)).trans (by go_simp)
  have B1 : Below w.heap.size w w1 := ((Below.refl w.heap.size w).alloc (Nat.le_refl _) _).trans (hb1.mono (by simp))
  have hz1 : w.heap.size < w1.heap.size := by have := hb1.size; simp at this; omega
  go_wp2_with fail
  refine (acl_check _ _ _ B _ (by have := B1.size; omega) (HB.out.ruls.below (B1.mono hB))).mono ?_
  rintro e w2 ⟨i2, rfl, hb2⟩
  rw [HR.out]
  have p2_0 : w2.cell? ⟨w.heap.size, 0, none⟩ = some (.int .i64 b.users) := (hb2.cell (p := ⟨w.heap.size, 0, none⟩) (by first | (simp; done) | omega)).trans p1_0
  have p2_1 : w2.cell? ⟨w.heap.size, 1, none⟩ = some (.slice Ae b.entries.length ce) := (hb2.cell (p := ⟨w.heap.size, 1, none⟩) (by first | (simp; done) | omega)).trans p1_1
  have p2_2 : w2.cell? ⟨w.heap.size, 2, none⟩ = some (.slice Ar b.rules.length cr) := (hb2.cell (p := ⟨w.heap.size, 2, none⟩) (by first | (simp; done) | omega)).trans p1_2
  have p2_3 : w2.cell? ⟨w.heap.size, 3, none⟩ = some (.slice Ag 0 cg) := (hb2.cell (p := ⟨w.heap.size, 3, none⟩) (by first | (simp; done) | omega)).trans p1_3
  have p2_4 : w2.cell? ⟨w.heap.size, 4, none⟩ = some (.slice Al 0 cl) := (hb2.cell (p := ⟨w.heap.size, 4, none⟩) (by first | (simp; done) | omega)).trans p1_4
  have p2_5 : w2.cell? ⟨w.heap.size, 5, none⟩ = some (.slice Ax 0 cx) := (hb2.cell (p := ⟨w.heap.size, 5, none⟩) (by first | (simp; done) | omega)).trans p1_5
  have p2_6 : w2.cell? ⟨w.heap.size, 6, none⟩ = some (.int .i64 b.step) := (hb2.cell (p := ⟨w.heap.size, 6, none⟩) (by first | (simp; done) | omega)).trans p1_6
  have B2 : Below w.heap.size w w2 := B1.trans (hb2.mono B1.size)
  have hz2 : w.heap.size < w2.heap.size := by have := hb2.size; omega
  clear p1_0 p1_1 p1_2 p1_3 p1_4 p1_5 p1_6 hb1
  go_wp2_with fail
  refine (grant_nil _ _ _ _ U0.out U1.out).mono ?_
  rintro e w3 ⟨rfl, hb3⟩
  have p3_0 : w3.cell? ⟨w.heap.size, 0, none⟩ = some (.int .i64 b.users) := (hb3.cell (p := ⟨w.heap.size, 0, none⟩) (by first | (simp; done) | omega)).trans p2_0
  have p3_1 : w3.cell? ⟨w.heap.size, 1, none⟩ = some (.slice Ae b.entries.length ce) := (hb3.cell (p := ⟨w.heap.size, 1, none⟩) (by first | (simp; done) | omega)).trans p2_1
  have p3_2 : w3.cell? ⟨w.heap.size, 2, none⟩ = some (.slice Ar b.rules.length cr) := (hb3.cell (p := ⟨w.heap.size, 2, none⟩) (by first | (simp; done) | omega)).trans p2_2
  have p3_3 : w3.cell? ⟨w.heap.size, 3, none⟩ = some (.slice Ag 0 cg) := (hb3.cell (p := ⟨w.heap.size, 3, none⟩) (by first | (simp; done) | omega)).trans p2_3
  have p3_4 : w3.cell? ⟨w.heap.size, 4, none⟩ = some (.slice Al 0 cl) := (hb3.cell (p := ⟨w.heap.size, 4, none⟩) (by first | (simp; done) | omega)).trans p2_4
  have p3_5 : w3.cell? ⟨w.heap.size, 5, none⟩ = some (.slice Ax 0 cx) := (hb3.cell (p := ⟨w.heap.size, 5, none⟩) (by first | (simp; done) | omega)).trans p2_5
  have p3_6 : w3.cell? ⟨w.heap.size, 6, none⟩ = some (.int .i64 b.step) := (hb3.cell (p := ⟨w.heap.size, 6, none⟩) (by first | (simp; done) | omega)).trans p2_6
  have B3 : Below w.heap.size w w3 := B2.trans (hb3.mono B2.size)
  have hz3 : w.heap.size < w3.heap.size := by have := hb3.size; omega
  clear p2_0 p2_1 p2_2 p2_3 p2_4 p2_5 p2_6 hb2
  go_wp2_with fail
  refine (audit_nil _ _ _ _ _ _ U0.out U1.out).mono ?_
  rintro e w4 ⟨rfl, hb4⟩
  have p4_0 : w4.cell? ⟨w.heap.size, 0, none⟩ = some (.int .i64 b.users) := (hb4.cell (p := ⟨w.heap.size, 0, none⟩) (by first | (simp; done) | omega)).trans p3_0
  have p4_1 : w4.cell? ⟨w.heap.size, 1, none⟩ = some (.slice Ae b.entries.length ce) := (hb4.cell (p := ⟨w.heap.size, 1, none⟩) (by first | (simp; done) | omega)).trans p3_1
  have p4_2 : w4.cell? ⟨w.heap.size, 2, none⟩ = some (.slice Ar b.rules.length cr) := (hb4.cell (p := ⟨w.heap.size, 2, none⟩) (by first | (simp; done) | omega)).trans p3_2
  have p4_3 : w4.cell? ⟨w.heap.size, 3, none⟩ = some (.slice Ag 0 cg) := (hb4.cell (p := ⟨w.heap.size, 3, none⟩) (by first | (simp; done) | omega)).trans p3_3
  have p4_4 : w4.cell? ⟨w.heap.size, 4, none⟩ = some (.slice Al 0 cl) := (hb4.cell (p := ⟨w.heap.size, 4, none⟩) (by first | (simp; done) | omega)).trans p3_4
  have p4_5 : w4.cell? ⟨w.heap.size, 5, none⟩ = some (.slice Ax 0 cx) := (hb4.cell (p := ⟨w.heap.size, 5, none⟩) (by first | (simp; done) | omega)).trans p3_5
  have p4_6 : w4.cell? ⟨w.heap.size, 6, none⟩ = some (.int .i64 b.step) := (hb4.cell (p := ⟨w.heap.size, 6, none⟩) (by first | (simp; done) | omega)).trans p3_6
  have B4 : Below w.heap.size w w4 := B3.trans (hb4.mono B3.size)
  have hz4 : w.heap.size < w4.heap.size := by have := hb4.size; omega
  clear p3_0 p3_1 p3_2 p3_3 p3_4 p3_5 p3_6 hb3
  go_wp2
  go_quiet (fail)
  go_wp2
  go_quiet (fail)
  go_wp2
  go_ret
  exact ⟨rfl, Below.drewN_ (Below.drewN_ B4 _) _⟩

end Go.Proofs.YtamcgggmfghljaaGreatDoor

namespace Go.Proofs.YtamcgggmfghljaaGreatDoor
open Go.RowKit

set_option maxRecDepth 100000 in
set_option maxHeartbeats 2000000 in
theorem flag_any (v : Value) (l : Bytes) (b : Bool) (w : World) (h : Out w v l) (hl : l.length ≤ 100000000000) :
    Calls Tryz.prog 95 #[v, .bool b] w fun e w' => ∃ v', e = .returned v' ∧ Out w' v' (l ++ flagB b) ∧ OutTo w v w' v' := by
  have H := Lib.hid h
  clear h
  cases b
  all_goals
    go_enter Tryz.func95, Tryz.ntmps95
    go_wp2_with fail
    refine (num_int v l _ _ H.out hl).mono ?_
    rintro e w1 ⟨v1, rfl, o1, t1⟩
    have O1 := Lib.hid o1
    have T1 := Lib.hid t1
    clear o1 t1
    go_wp2
    go_ret
    exact ⟨_, rfl, O1.out, T1.out⟩

set_option maxRecDepth 100000 in
set_option maxHeartbeats 2000000 in
theorem text_any (v : Value) (l s : Bytes) (w : World) (h : Out w v l) (hs : s.length ≤ 1000000000) (hl : l.length ≤ 10000000000) :
    Calls Tryz.prog 87 #[v, str s] w fun e w' => ∃ v', e = .returned v' ∧ Out w' v' (l ++ textB s) ∧ OutTo w v w' v' := by
  obtain ⟨i0, hi0, hz0, hz1, hz2⟩ := info_parts (show (Tryz.prog.info? 5).map (fun i => (i.zero, i.size, i.bytes)) = some (some (.int .u8 0), 1, 1) by kernel_rfl)
  have H := Lib.hid h
  clear h
  have n1 := numI_le s.length
  go_enter Tryz.func87, Tryz.ntmps87
  go_wp2_with fail
  refine (num_int v l _ _ H.out (by omega)).mono ?_
  rintro e w1 ⟨v1, rfl, o1, t1⟩
  have O1 := Lib.hid o1
  have T1 := Lib.hid t1
  clear o1 t1
  go_wp2_with (at_builtin; refine wpList_push_str rfl _ _ 59 9 rfl i0 rfl rfl hi0 hz0 hz1 hz2 v1 _ s rfl O1.out rfl (by simp; omega) (by omega) ?_; intro v2 w2 o2 t2)
  have O2 := Lib.hid o2
  have T2 := Lib.hid (T1.out.trans t2)
  clear o2 t2
  go_wp2
  go_ret
  exact ⟨_, rfl, by simpa [textB] using O2.out, T2.out⟩

end Go.Proofs.YtamcgggmfghljaaGreatDoor

namespace Go.Proofs.YtamcgggmfghljaaGreatDoor
open Go.RowKit

set_option maxRecDepth 100000 in
set_option maxHeartbeats 4000000 in
theorem place_any (v : Value) (l : Bytes) (c r : Int) (w : World)  (h : Out w v l) (hl : l.length ≤ 1000000000) :
    Calls Tryz.prog 88 #[v, .agg #[.int .i64 c, .int .i64 r]] w fun e w' => ∃ v', e = .returned v' ∧ Out w' v' (l ++ placeB ⟨c, r⟩) ∧ OutTo w v w' v' := by
  have hv : v.ownBlock ≠ some w.heap.size := fun e => by have := h.lt _ e; omega
  have kk : Blk (w.alloc (.cells #[.int .i64 c, .int .i64 r] 56)).drew w.heap.size 56 #[.int .i64 c, .int .i64 r] := (Blk.new _ _ _).drew
  have TT := ((OutTo.refl w v).alloc (.cells #[.int .i64 c, .int .i64 r] 56)).drew
  have oo := (h.alloc (.cells #[.int .i64 c, .int .i64 r] 56)).drew
  clear h
  have n1 := numI_le c
  have n2 := numI_le r
  go_enter Tryz.func88, Tryz.ntmps88
  go_wp2_with fail
  go_region_held3 (fun W : World => W.cell? ⟨w.heap.size, 0, none⟩ = some (.int .i64 c) ∧ W.cell? ⟨w.heap.size, 1, none⟩ = some (.int .i64 r))
    (first
     | exact ⟨kk.cell 0, kk.cell 1⟩)
    (first
     | (go_at_call 84; refine (num_int _ _ _ _ oo (by first | omega | (simp; done) | (simp; omega))).mono ?_; rintro e w1 ⟨v1, rfl, oo, tt⟩; have hv' := tt.ne kk.lt hv; have kk := kk.outTo tt hv; have hv := hv'; have TT := TT.trans tt; clear tt hv'))
  have OO := Lib.hid oo
  have TT := Lib.hid TT
  go_wp2
  go_ret
  exact ⟨_, rfl, by simpa [placeB] using OO.out, TT.out⟩

set_option maxRecDepth 100000 in
set_option maxHeartbeats 4000000 in
theorem sets_any (v : Value) (l : Bytes) (a b c : Int) (w : World) (a0 : 0 ≤ a) (a1 : a < 18446744073709551616) (b0 : 0 ≤ b) (b1 : b < 18446744073709551616) (c0 : 0 ≤ c) (c1 : c < 18446744073709551616) (h : Out w v l) (hl : l.length ≤ 1000000000) :
    Calls Tryz.prog 91 #[v, .agg #[.int .u64 a, .int .u64 b, .int .u64 c]] w fun e w' => ∃ v', e = .returned v' ∧ Out w' v' (l ++ setsB ⟨a, b, c⟩) ∧ OutTo w v w' v' := by
  have hv : v.ownBlock ≠ some w.heap.size := fun e => by have := h.lt _ e; omega
  have kk : Blk (w.alloc (.cells #[.int .u64 a, .int .u64 b, .int .u64 c] 46)).drew w.heap.size 46 #[.int .u64 a, .int .u64 b, .int .u64 c] := (Blk.new _ _ _).drew
  have TT := ((OutTo.refl w v).alloc (.cells #[.int .u64 a, .int .u64 b, .int .u64 c] 46)).drew
  have oo := (h.alloc (.cells #[.int .u64 a, .int .u64 b, .int .u64 c] 46)).drew
  clear h
  have n1 := numI_le a
  have n2 := numI_le b
  have n3 := numI_le c
  go_enter Tryz.func91, Tryz.ntmps91
  go_wp2_with fail
  go_region_held3 (fun W : World => W.cell? ⟨w.heap.size, 0, none⟩ = some (.int .u64 a) ∧ W.cell? ⟨w.heap.size, 1, none⟩ = some (.int .u64 b) ∧ W.cell? ⟨w.heap.size, 2, none⟩ = some (.int .u64 c))
    (first
     | exact ⟨kk.cell 0, kk.cell 1, kk.cell 2⟩)
    (first
     | (go_at_call 96; refine (num_u64 _ _ _ _ (by assumption) (by assumption)  oo (by first | omega | (simp; done) | (simp; omega))).mono ?_; rintro e w1 ⟨v1, rfl, oo, tt⟩; have hv' := tt.ne kk.lt hv; have kk := kk.outTo tt hv; have hv := hv'; have TT := TT.trans tt; clear tt hv'))
  have OO := Lib.hid oo
  have TT := Lib.hid TT
  go_wp2
  go_ret
  exact ⟨_, rfl, by simpa [setsB] using OO.out, TT.out⟩

end Go.Proofs.YtamcgggmfghljaaGreatDoor

namespace Go.Proofs.YtamcgggmfghljaaGreatDoor
open Go.RowKit

set_option maxRecDepth 100000 in
set_option maxHeartbeats 4000000 in
theorem corners_any (v : Value) (l : Bytes) (a b c d : Int) (w : World) (h : Out w v l) (hl : l.length ≤ 1000000000) :
    Calls Tryz.prog 92 #[v, .agg #[.int .i64 a, .int .i64 b, .int .i64 c, .int .i64 d]] w fun e w' => ∃ v', e = .returned v' ∧ Out w' v' (l ++ cornB ⟨a, b, c, d⟩) ∧ OutTo w v w' v' := by
  have H := Lib.hid h
  clear h
  have n1 := numI_le a
  have n2 := numI_le b
  have n3 := numI_le c
  have n4 := numI_le d
  go_enter Tryz.func92, Tryz.ntmps92
  go_wp2_with fail
  have hv : v.ownBlock ≠ some (w.heap.size + 1) := fun e => by have := H.out.lt _ e; omega
  have KK := Lib.hid (show Blk ((w.alloc (.cells #[.int .i64 a, .int .i64 b, .int .i64 c, .int .i64 d] 43)).alloc (.cells #[.int .i64 a, .int .i64 b, .int .i64 c, .int .i64 d] 3)) (w.heap.size + 1) 3 #[.int .i64 a, .int .i64 b, .int .i64 c, .int .i64 d] by have := Blk.new (w.alloc (.cells #[.int .i64 a, .int .i64 b, .int .i64 c, .int .i64 d] 43)) 3 #[.int .i64 a, .int .i64 b, .int .i64 c, .int .i64 d]; simpa using this)
  have hlen : ∀ k, (([a, b, c, d].take k).flatMap numI).length ≤ 36 := by
    intro k
    rcases k with _ | _ | _ | _ | _ | k <;> simp <;> omega
  have HL := Lib.hid hlen
  clear n1 n2 n3 n4 hlen
  go_loopw [0, 17] (fun u i wr => ∃ k : Nat, k ≤ 4 ∧ i = .int .i64 k ∧ Out wr u (l ++ ([a, b, c, d].take k).flatMap numI) ∧ OutTo w v wr u ∧ Blk wr (w.heap.size + 1) 3 #[.int .i64 a, .int .i64 b, .int .i64 c, .int .i64 d] ∧ u.ownBlock ≠ some (w.heap.size + 1)) (fun _ i _ => 4 - (intOf i).toNat)
  case atStart => exact ⟨0, by omega, rfl, by simpa using (H.out.alloc _).alloc _, ((OutTo.refl w v).alloc _).alloc _, KK.out, hv⟩
  case round =>
    obtain ⟨k, hk, rfl, oo, tt, kk, hu⟩ := hrel
    have OO := Lib.hid oo
    have TT := Lib.hid tt
    have KK := Lib.hid kk
    have hl2 := HL.out k
    clear oo tt
    by_cases hlt : k < 4
    · obtain ⟨x, hx, hc, hs⟩ : ∃ x, [a, b, c, d][k]? = some x ∧ (∀ W, Blk W (w.heap.size + 1) 3 #[.int .i64 a, .int .i64 b, .int .i64 c, .int .i64 d] → W.cell? ⟨w.heap.size + 1, k, none⟩ = some (.int .i64 x)) ∧ [a, b, c, d].take (k + 1) = [a, b, c, d].take k ++ [x] := by
        have e : k = 0 ∨ k = 1 ∨ k = 2 ∨ k = 3 := by omega
        rcases e with rfl | rfl | rfl | rfl
        · exact ⟨a, rfl, fun W hW => hW.cell 0, rfl⟩
        · exact ⟨b, rfl, fun W hW => hW.cell 1, rfl⟩
        · exact ⟨c, rfl, fun W hW => hW.cell 2, rfl⟩
        · exact ⟨d, rfl, fun W hW => hW.cell 3, rfl⟩
      have hcw := hc wr kk
      have HS := Lib.hid hs
      have hi0 : (0 : Int) ≤ (k : Int) := by omega
      have hi1 : (k : Int) < 4 := by omega
      have hg := kk.lt
      clear hc hs hx kk
      go_wp2_with fail
      refine (num_int _ _ _ _ OO.out (by rw [List.length_append]; omega)).mono ?_
      rintro e w1 ⟨v1, rfl, o1, t1⟩
      have O1 := Lib.hid o1
      have T1 := Lib.hid (TT.out.trans t1)
      have K1 := Lib.hid (KK.out.outTo t1 hu)
      have hu1 := t1.ne hg hu
      clear o1 t1
      go_wp2
      refine ⟨⟨k + 1, by omega, by go_num, ?_, T1.out, K1.out, hu1⟩, by simp [intOf]; omega⟩
      rw [HS.out]
      simpa using O1.out
    · go_wp2
      go_ret
      obtain rfl : k = 4 := by omega
      exact ⟨_, rfl, by simpa [cornB] using OO.out, TT.out⟩

end Go.Proofs.YtamcgggmfghljaaGreatDoor
