/- Layer 3, small ones. · Layer 41: what bytes are taken as: take, spot, crowd, crowds (program and reference). · Layer 41: spot, crowd, crowds, field (program). · Layer 41 (program): an entry put where there is none; the content that is a digit. -/
import Derived.Deep.QuietTactic
import Derived.BigQuiet
import Derived.Test.YtamcgggmfghljaaGreatDoorM12
import Derived.Test.YtamcgggmfghljaaGreatDoorM11
import Derived.Test.YtamcgggmfghljaaGreatDoorM6
namespace Go.Proofs.YtamcgggmfghljaaGreatDoor
open Go.RowKit

set_option maxHeartbeats 400000 in
theorem rect_one (c r : Int) (w : World) :
    Calls Tryz.prog 123 #[.agg #[.int .i64 c, .int .i64 r]] w fun e w' => e = .returned (.agg #[.int .i64 c, .int .i64 r, .int .i64 c, .int .i64 r]) ∧ Below w.heap.size w w' := by
  go_enter Tryz.func123, Tryz.ntmps123
  go_wp2
  go_returns
  exact ⟨rfl, by go_grown⟩
set_option maxHeartbeats 400000 in
theorem r03_one (c r : Int) (w : World) :
    Calls Tryz.prog 49 #[.agg #[.int .i64 c, .int .i64 r]] w fun e w' => e = .returned (.agg #[.int .i64 c, .int .i64 r, .int .i64 c, .int .i64 r]) ∧ Below w.heap.size w w' := by
  go_enter Tryz.func49, Tryz.ntmps49
  go_wp2
  go_returns
  exact ⟨rfl, by go_grown⟩
set_option maxHeartbeats 400000 in
theorem r31_one (c r : Int) (w : World) :
    Calls Tryz.prog 136 #[.agg #[.int .i64 c, .int .i64 r]] w fun e w' => e = .returned (.agg #[.int .i64 c, .int .i64 r, .int .i64 c, .int .i64 r]) ∧ Below w.heap.size w w' := by
  go_enter Tryz.func136, Tryz.ntmps136
  go_wp2
  go_returns
  exact ⟨rfl, by go_grown⟩
/-- An address in a range. -/
def hasB (x : Rct) (a : Ref) : Bool := decide (x.c1 ≤ a.col) && decide (a.col ≤ x.c2) && decide (x.r1 ≤ a.row) && decide (a.row ≤ x.r2)
set_option maxHeartbeats 1000000 in
theorem r19_has (a b c d x y : Int) (w : World) :
    Calls Tryz.prog 135 #[.agg #[.int .i64 a, .int .i64 b, .int .i64 c, .int .i64 d], .agg #[.int .i64 x, .int .i64 y]] w fun e w' => e = .returned (.bool (hasB ⟨a, b, c, d⟩ ⟨x, y⟩)) ∧ Below w.heap.size w w' := by
  rcases chain4 (a ≤ x) (x ≤ c) (b ≤ y) (y ≤ d) with ⟨h1, h2, h3, h4⟩ | h1 | ⟨h1, h2⟩ | ⟨h1, h2, h3⟩ | ⟨h1, h2, h3, h4⟩
  all_goals
    go_enter Tryz.func135, Tryz.ntmps135
    go_wp2
    go_ret
    exact ⟨by simp [hasB, *]; try omega, by go_grown⟩
set_option maxHeartbeats 400000 in
theorem r03_from (a b c d : Int) (w : World) :
    Calls Tryz.prog 189 #[.agg #[.int .i64 a, .int .i64 b, .int .i64 c, .int .i64 d]] w fun e w' => e = .returned (.agg #[.int .i64 a, .int .i64 b]) ∧ Below w.heap.size w w' := by
  go_enter Tryz.func189, Tryz.ntmps189
  go_wp2
  go_returns
  exact ⟨rfl, by go_grown⟩
set_option maxHeartbeats 400000 in
theorem r03_to (a b c d : Int) (w : World) :
    Calls Tryz.prog 190 #[.agg #[.int .i64 a, .int .i64 b, .int .i64 c, .int .i64 d]] w fun e w' => e = .returned (.agg #[.int .i64 c, .int .i64 d]) ∧ Below w.heap.size w w' := by
  go_enter Tryz.func190, Tryz.ntmps190
  go_wp2
  go_returns
  exact ⟨rfl, by go_grown⟩
set_option maxHeartbeats 400000 in
theorem acl_sheet (w : World) :
    Calls Tryz.prog 171 #[] w fun e w' => e = .returned (.agg #[.int .i64 1, .int .i64 1, .int .i64 1024, .int .i64 1024]) ∧ Below w.heap.size w w' := by
  go_enter Tryz.func171, Tryz.ntmps171
  go_wp2
  go_returns
  exact ⟨rfl, by go_grown⟩
set_option maxHeartbeats 400000 in
theorem r19_sheet (w : World) :
    Calls Tryz.prog 176 #[] w fun e w' => e = .returned (.agg #[.int .i64 1, .int .i64 1, .int .i64 1024, .int .i64 1024]) ∧ Below w.heap.size w w' := by
  go_enter Tryz.func176, Tryz.ntmps176
  go_wp2
  go_returns
  exact ⟨rfl, by go_grown⟩

end Go.Proofs.YtamcgggmfghljaaGreatDoor

namespace Go.Proofs.YtamcgggmfghljaaGreatDoor
open Go.RowKit

theorem bytes_tail (c : UInt8) (t : Bytes) : (⟨(c :: t).toArray⟩ : ByteArray).extract 1 (t.length + 1) = ⟨t.toArray⟩ := by
  apply ByteArray.ext
  simp
theorem take_num (c : UInt8) (t : Bytes) (n : Int) : (wrap64 ((⟨(c :: t).toArray⟩ : ByteArray)[0]'(by show 0 < ((c :: t).toArray).size; simp)).toNat).tmod n = (take n (c :: t)).1 := by
  have e : ((⟨(c :: t).toArray⟩ : ByteArray)[0]'(by show 0 < ((c :: t).toArray).size; simp)) = c := rfl
  rw [e]
  have hc : c.toNat < 256 := c.toNat_lt
  have hw : wrap64 (c.toNat : Int) = (c.toNat : Int) := by unfold wrap64; omega
  rw [hw]
  show _ = ((c.toNat : Int) % n)
  exact Int.tmod_eq_emod_of_nonneg (by omega)

set_option maxHeartbeats 400000 in
theorem take_any (g : Nat) (s : Bytes) (n : Int) (w : World) (h0 : 0 < n) (hg : Blk w g 74 #[str s]) :
    Calls Tryz.prog 35 #[.pointer (some ⟨g, 0, none⟩), .int .i64 n] w fun e w' => e = .returned (.int .i64 (take n s).1) ∧ Blk w' g 74 #[str (take n s).2] ∧ Chg (fun k => k = g) w w' := by
  have HG := Lib.hid hg
  cases s with
  | nil =>
    have hc : w.cell? ⟨g, 0, none⟩ = some (str []) := hg.cell 0
    clear hg
    go_enter Tryz.func35, Tryz.ntmps35
    go_wp2
    go_ret
    exact ⟨rfl, HG.out, Chg.refl _ _⟩
  | cons c t =>
    have hc : w.cell? ⟨g, 0, none⟩ = some (str (c :: t)) := hg.cell 0
    have hf : w.frozen? ⟨g, 0, none⟩ = false := hg.frozen 0
    clear hg
    go_enter Tryz.func35, Tryz.ntmps35
    go_wp2
    go_ret
    refine ⟨ret_int (take_num c t n), ?_, ?_⟩
    · rw [bytes_tail]
      exact HG.out.set_ 0 (str t)
    · exact (Chg.refl (fun k => k = g) _).setCell (p := ⟨g, 0, none⟩) (.inl rfl) _

set_option maxHeartbeats 400000 in
theorem rtake_any (g : Nat) (s : Bytes) (n : Int) (w : World) (h0 : 0 < n) (hg : Blk w g 90 #[str s]) :
    Calls Tryz.prog 43 #[.pointer (some ⟨g, 0, none⟩), .int .i64 n] w fun e w' => e = .returned (.int .i64 (take n s).1) ∧ Blk w' g 90 #[str (take n s).2] ∧ Chg (fun k => k = g) w w' := by
  have HG := Lib.hid hg
  cases s with
  | nil =>
    have hc : w.cell? ⟨g, 0, none⟩ = some (str []) := hg.cell 0
    clear hg
    go_enter Tryz.func43, Tryz.ntmps43
    go_wp2
    go_ret
    exact ⟨rfl, HG.out, Chg.refl _ _⟩
  | cons c t =>
    have hc : w.cell? ⟨g, 0, none⟩ = some (str (c :: t)) := hg.cell 0
    have hf : w.frozen? ⟨g, 0, none⟩ = false := hg.frozen 0
    clear hg
    go_enter Tryz.func43, Tryz.ntmps43
    go_wp2
    go_ret
    refine ⟨ret_int (take_num c t n), ?_, ?_⟩
    · rw [bytes_tail]
      exact HG.out.set_ 0 (str t)
    · exact (Chg.refl (fun k => k = g) _).setCell (p := ⟨g, 0, none⟩) (.inl rfl) _

end Go.Proofs.YtamcgggmfghljaaGreatDoor

namespace Go.Proofs.YtamcgggmfghljaaGreatDoor
open Go.RowKit

set_option maxHeartbeats 400000 in
theorem spot_any (g : Nat) (s : Bytes) (w : World) (k0 : Blk w g 74 #[str s]) :
    Calls Tryz.prog 38 #[.pointer (some ⟨g, 0, none⟩)] w fun e w' => e = .returned (.agg #[.int .i64 (spot s).1.col, .int .i64 (spot s).1.row]) ∧ Blk w' g 74 #[str (spot s).2] ∧ Chg (fun k => k = g) w w' := by
  have hg := k0.lt
  have b1 := take_bd 3 (by decide) s
  have b2 := take_bd 4 (by decide) (take 3 s).2
  have K0 := Lib.hid k0
  clear k0
  go_enter Tryz.func38, Tryz.ntmps38
  go_wp2_with fail
  refine (take_any g s 3 _ (by decide) (by have k0 := K0.out; exact (by repeat' (first | with_reducible exact k0 | with_reducible refine Blk.drew ?_ | with_reducible refine Blk.alloc ?_ _ | with_reducible refine Blk.far ?_ ?_ _ | (simp; done) | (simp; omega) | omega | exact k0)))).mono ?_
  rintro e w1 ⟨rfl, k1, hd1⟩
  have hz1 := hd1.size
  try simp at hz1
  have hD1 : Chg (fun k => k = g) w w1 := Chg.trans (by repeat' (first | with_reducible exact Chg.refl _ _ | with_reducible assumption | with_reducible refine Chg.alloc ?_ _ | with_reducible refine Chg.drew ?_ | with_reducible refine Chg.setCell ?_ (.inr ?_) _ | (simp; done) | (simp; omega) | omega)) (hd1.mono (fun k hk hs => hs))
  have hc1_0 : ∀ o, w1.cell? ⟨w.heap.size, o, none⟩ = _ := fun o => hd1.cell (p := ⟨w.heap.size, o, none⟩) (by first | (simp; done) | (simp; omega) | omega) (by first | omega | (simp; omega))
  have hl1_0 : w.heap.size < w1.heap.size := by omega
  have hm1_0 : w.heap.size ≤ w1.heap.size := by omega
  have hn1_0 : w.heap.size ≤ w1.heap.size + 1 := by omega
  have ho1_0 : w.heap.size ≤ w1.heap.size + 1 + 1 := by omega
  have hf1_0 : ∀ o, w1.frozen? ⟨w.heap.size, o, none⟩ = _ := fun o => hd1.frozen (p := ⟨w.heap.size, o, none⟩) (by first | (simp; done) | (simp; omega) | omega) (by first | omega | (simp; omega))
  go_wp2_with fail
  refine (take_any g _ 4 _ (by decide) (by repeat' (first | with_reducible exact k1 | with_reducible refine Blk.drew ?_ | with_reducible refine Blk.alloc ?_ _ | with_reducible refine Blk.far ?_ ?_ _ | (simp; done) | (simp; omega) | omega | exact k1))).mono ?_
  rintro e w2 ⟨rfl, k2, hd2⟩
  have hz2 := hd2.size
  try simp at hz2
  have hD2 : Chg (fun k => k = g) w w2 := Chg.trans (by repeat' (first | with_reducible exact Chg.refl _ _ | with_reducible assumption | with_reducible refine Chg.alloc ?_ _ | with_reducible refine Chg.drew ?_ | with_reducible refine Chg.setCell ?_ (.inr ?_) _ | (simp; done) | (simp; omega) | omega)) (hd2.mono (fun k hk hs => hs))
  have hc2_0 : ∀ o, w2.cell? ⟨w.heap.size, o, none⟩ = _ := fun o => hd2.cell (p := ⟨w.heap.size, o, none⟩) (by first | (simp; done) | (simp; omega) | omega) (by first | omega | (simp; omega))
  have hl2_0 : w.heap.size < w2.heap.size := by omega
  have hm2_0 : w.heap.size ≤ w2.heap.size := by omega
  have hn2_0 : w.heap.size ≤ w2.heap.size + 1 := by omega
  have ho2_0 : w.heap.size ≤ w2.heap.size + 1 + 1 := by omega
  have hf2_0 : ∀ o, w2.frozen? ⟨w.heap.size, o, none⟩ = _ := fun o => hd2.frozen (p := ⟨w.heap.size, o, none⟩) (by first | (simp; done) | (simp; omega) | omega) (by first | omega | (simp; omega))
  go_wp2
  refine bodyPost_ret (v := .agg #[.int .i64 (1 + (take 3 s).1), .int .i64 (1 + (take 4 (take 3 s).2).1)]) (by simp (maxDischargeDepth := 9) [results, Tryz.results38, go_sem, hc1_0, hc2_0]) rfl ?_
  exact ⟨rfl, (by repeat' (first | with_reducible exact k2 | with_reducible refine Blk.drew ?_ | with_reducible refine Blk.alloc ?_ _ | with_reducible refine Blk.far ?_ ?_ _ | (simp; done) | (simp; omega) | omega | exact k2)), (by repeat' (first | with_reducible exact Chg.refl _ _ | with_reducible assumption | with_reducible refine Chg.alloc ?_ _ | with_reducible refine Chg.drew ?_ | with_reducible refine Chg.setCell ?_ (.inr ?_) _ | (simp; done) | (simp; omega) | omega))⟩

/-- The set that a byte is taken as. -/
theorem shl_users (u : Nat) (hu : u ≤ 4) : wrap64 (2 ^ u) = 2 ^ u := by
  have h : u = 0 ∨ u = 1 ∨ u = 2 ∨ u = 3 ∨ u = 4 := by omega
  rcases h with rfl | rfl | rfl | rfl | rfl <;> simp [wrap64]
theorem pow_users (u : Nat) (hu : u ≤ 4) : (0 : Int) < 2 ^ u ∧ (2 : Int) ^ u ≤ 16 := by
  have h : u = 0 ∨ u = 1 ∨ u = 2 ∨ u = 3 ∨ u = 4 := by omega
  rcases h with rfl | rfl | rfl | rfl | rfl <;> simp

set_option maxHeartbeats 400000 in
theorem crowd_any (g : Nat) (s : Bytes) (u : Nat) (w : World) (hu : (u : Int) ≤ 4) (k0 : Blk w g 74 #[str s]) :
    Calls Tryz.prog 41 #[.pointer (some ⟨g, 0, none⟩), .int .i64 u] w fun e w' => e = .returned (.int .u64 (crowd u s).1) ∧ Blk w' g 74 #[str (crowd u s).2] ∧ Chg (fun k => k = g) w w' := by
  have hp := pow_users u (by omega)
  have hb := take_bd (2 ^ u) hp.1 s
  have HT := Lib.hid (take_any g s (2 ^ u) w hp.1 k0)
  clear k0
  go_enter Tryz.func41, Tryz.ntmps41
  go_wp2_with fail
  refine HT.out.mono ?_
  rintro e w1 ⟨rfl, k1, hd1⟩
  go_wp2
  go_ret
  exact ⟨rfl, k1, hd1⟩

set_option maxHeartbeats 400000 in
theorem crowds_any (g : Nat) (s : Bytes) (u : Nat) (w : World) (hu : (u : Int) ≤ 4) (k0 : Blk w g 74 #[str s]) :
    Calls Tryz.prog 36 #[.pointer (some ⟨g, 0, none⟩), .int .i64 u] w fun e w' =>
      e = .returned (.agg #[.int .u64 (crowds u s).1.rd, .int .u64 (crowds u s).1.wr, .int .u64 (crowds u s).1.ow]) ∧ Blk w' g 74 #[str (crowds u s).2] ∧ Chg (fun k => k = g) w w' := by
  have hg := k0.lt
  have K0 := Lib.hid k0
  clear k0
  go_enter Tryz.func36, Tryz.ntmps36
  go_wp2_with fail
  refine (crowd_any g s u _ hu (by have k0 := K0.out; exact (by repeat' (first | with_reducible exact k0 | with_reducible refine Blk.drew ?_ | with_reducible refine Blk.alloc ?_ _ | with_reducible refine Blk.far ?_ ?_ _ | (simp; done) | (simp; omega) | omega | exact k0)))).mono ?_
  rintro e w1 ⟨rfl, k1, hd1⟩
  have hz1 := hd1.size
  try simp at hz1
  have hD1 : Chg (fun k => k = g) w w1 := Chg.trans (by repeat' (first | with_reducible exact Chg.refl _ _ | with_reducible assumption | with_reducible refine Chg.alloc ?_ _ | with_reducible refine Chg.drew ?_ | with_reducible refine Chg.setCell ?_ (.inr ?_) _ | (simp; done) | (simp; omega) | omega)) (hd1.mono (fun k hk hs => hs))
  have hc1_0 : ∀ o, w1.cell? ⟨w.heap.size, o, none⟩ = _ := fun o => hd1.cell (p := ⟨w.heap.size, o, none⟩) (by first | (simp; done) | (simp; omega) | omega) (by first | omega | (simp; omega))
  have hl1_0 : w.heap.size < w1.heap.size := by omega
  have hm1_0 : w.heap.size ≤ w1.heap.size := by omega
  have hn1_0 : w.heap.size ≤ w1.heap.size + 1 := by omega
  have ho1_0 : w.heap.size ≤ w1.heap.size + 1 + 1 := by omega
  have hf1_0 : ∀ o, w1.frozen? ⟨w.heap.size, o, none⟩ = _ := fun o => hd1.frozen (p := ⟨w.heap.size, o, none⟩) (by first | (simp; done) | (simp; omega) | omega) (by first | omega | (simp; omega))
  go_wp2_with fail
  refine (crowd_any g _ u _ hu (by repeat' (first | with_reducible exact k1 | with_reducible refine Blk.drew ?_ | with_reducible refine Blk.alloc ?_ _ | with_reducible refine Blk.far ?_ ?_ _ | (simp; done) | (simp; omega) | omega | exact k1))).mono ?_
  rintro e w2 ⟨rfl, k2, hd2⟩
  have hz2 := hd2.size
  try simp at hz2
  have hD2 : Chg (fun k => k = g) w w2 := Chg.trans (by repeat' (first | with_reducible exact Chg.refl _ _ | with_reducible assumption | with_reducible refine Chg.alloc ?_ _ | with_reducible refine Chg.drew ?_ | with_reducible refine Chg.setCell ?_ (.inr ?_) _ | (simp; done) | (simp; omega) | omega)) (hd2.mono (fun k hk hs => hs))
  have hc2_0 : ∀ o, w2.cell? ⟨w.heap.size, o, none⟩ = _ := fun o => hd2.cell (p := ⟨w.heap.size, o, none⟩) (by first | (simp; done) | (simp; omega) | omega) (by first | omega | (simp; omega))
  have hl2_0 : w.heap.size < w2.heap.size := by omega
  have hm2_0 : w.heap.size ≤ w2.heap.size := by omega
  have hn2_0 : w.heap.size ≤ w2.heap.size + 1 := by omega
  have ho2_0 : w.heap.size ≤ w2.heap.size + 1 + 1 := by omega
  have hf2_0 : ∀ o, w2.frozen? ⟨w.heap.size, o, none⟩ = _ := fun o => hd2.frozen (p := ⟨w.heap.size, o, none⟩) (by first | (simp; done) | (simp; omega) | omega) (by first | omega | (simp; omega))
  go_wp2_with fail
  refine (crowd_any g _ u _ hu (by repeat' (first | with_reducible exact k2 | with_reducible refine Blk.drew ?_ | with_reducible refine Blk.alloc ?_ _ | with_reducible refine Blk.far ?_ ?_ _ | (simp; done) | (simp; omega) | omega | exact k2))).mono ?_
  rintro e w3 ⟨rfl, k3, hd3⟩
  have hz3 := hd3.size
  try simp at hz3
  have hD3 : Chg (fun k => k = g) w w3 := Chg.trans (by repeat' (first | with_reducible exact Chg.refl _ _ | with_reducible assumption | with_reducible refine Chg.alloc ?_ _ | with_reducible refine Chg.drew ?_ | with_reducible refine Chg.setCell ?_ (.inr ?_) _ | (simp; done) | (simp; omega) | omega)) (hd3.mono (fun k hk hs => hs))
  have hc3_0 : ∀ o, w3.cell? ⟨w.heap.size, o, none⟩ = _ := fun o => hd3.cell (p := ⟨w.heap.size, o, none⟩) (by first | (simp; done) | (simp; omega) | omega) (by first | omega | (simp; omega))
  have hl3_0 : w.heap.size < w3.heap.size := by omega
  have hm3_0 : w.heap.size ≤ w3.heap.size := by omega
  have hn3_0 : w.heap.size ≤ w3.heap.size + 1 := by omega
  have ho3_0 : w.heap.size ≤ w3.heap.size + 1 + 1 := by omega
  have hf3_0 : ∀ o, w3.frozen? ⟨w.heap.size, o, none⟩ = _ := fun o => hd3.frozen (p := ⟨w.heap.size, o, none⟩) (by first | (simp; done) | (simp; omega) | omega) (by first | omega | (simp; omega))
  go_wp2
  refine bodyPost_ret (v := .agg #[.int .u64 (crowd u s).1, .int .u64 (crowd u (crowd u s).2).1, .int .u64 (crowd u (crowd u (crowd u s).2).2).1]) (by simp (maxDischargeDepth := 9) [results, Tryz.results36, go_sem, hc1_0, hc2_0, hc3_0]) rfl ?_
  exact ⟨rfl, (by repeat' (first | with_reducible exact k3 | with_reducible refine Blk.drew ?_ | with_reducible refine Blk.alloc ?_ _ | with_reducible refine Blk.far ?_ ?_ _ | (simp; done) | (simp; omega) | omega | exact k3)), (by repeat' (first | with_reducible exact Chg.refl _ _ | with_reducible assumption | with_reducible refine Chg.alloc ?_ _ | with_reducible refine Chg.drew ?_ | with_reducible refine Chg.setCell ?_ (.inr ?_) _ | (simp; done) | (simp; omega) | omega))⟩

end Go.Proofs.YtamcgggmfghljaaGreatDoor

namespace Go.Proofs.YtamcgggmfghljaaGreatDoor
open Go.RowKit

set_option maxRecDepth 100000 in
set_option maxHeartbeats 4000000 in
theorem content_1 (g : Nat) (s : Bytes) (w : World) (h1 : (take 12 s).1 = 1) (k0 : Blk w g 74 #[str s]) :
    Calls Tryz.prog 40 #[.pointer (some ⟨g, 0, none⟩)] w fun e w' =>
      e = .returned (str [dig (take 10 (take 12 s).2).1.toNat]) ∧ Blk w' g 74 #[str (take 10 (take 12 s).2).2] ∧ Chg (fun k => k = g) w w' := by
  have hg := k0.lt
  have K0 := Lib.hid k0
  have H1 := Lib.hid h1
  clear k0 h1
  go_enter Tryz.func40, Tryz.ntmps40
  go_wp2_with fail
  refine (take_any g s 12 _ (by decide) K0.out).mono ?_
  rintro e w1 ⟨rfl, k1, hd1⟩
  rw [H1.out]
  go_wp2_with fail
  refine (take_any g _ 10 _ (by decide) k1).mono ?_
  rintro e w2 ⟨rfl, k2, hd2⟩
  obtain ⟨n, hn, hn2⟩ : ∃ n : Nat, (take 10 (take 12 s).2).1 = (n : Int) ∧ n < 10 := by
    have := take_bd 10 (by decide) (take 12 s).2
    exact ⟨(take 10 (take 12 s).2).1.toNat, by omega, by omega⟩
  rw [hn]
  have HN := Lib.hid hn
  have K2 := Lib.hid k2
  have HD := Lib.hid (hd1.trans hd2)
  clear hn k1 k2 hd1 hd2
  go_wp2_with fail
  refine (itoa_small n hn2 _).mono ?_
  rintro e w3 ⟨rfl, rfl⟩
  go_wp2
  go_ret
  exact ⟨by rw [HN.out]; rfl, K2.out, HD.out⟩

set_option maxRecDepth 100000 in
set_option maxHeartbeats 4000000 in
theorem indexfunc_nil (cap : Nat) (A : Option Addr) (f : Value) (w : World) :
    Calls Tryz.prog 124 #[.slice A 0 cap, f] w fun e w' => e = .returned (.int .i64 (-1)) ∧ w = w' := by
  go_enter Tryz.func124, Tryz.ntmps124
  go_wp2
  refine wp_loop_rounds 1 ?_
  rw [rounds_succ]
  go_wp2
  go_ret
  exact ⟨rfl, rfl⟩

/-- A slice over one element. -/
theorem Sls.one {α : Type} {c : α → List Value} {w : World} {g : Nat} {t : TypeId} {cs : Array Value} {x : α} (h : Blk w g t cs) (hx : cs = (c x).toArray) : Sls c w w.heap.size (.slice (some ⟨g, 0, none⟩) 1 1) [x] :=
  ⟨_, 1, rfl, by simp, by simp [maxLen], fun _ => ⟨g, 0, rfl, h.lt, h.range fun j v hv => by
    rw [Nat.zero_add, hx]
    simpa using hv⟩⟩

set_option maxRecDepth 100000 in
set_option maxHeartbeats 4000000 in
theorem insert_nil (x : Ent) (sv : Value) (w : World) (hs : Sls cEnt w w.heap.size sv [x]) :
    Calls Tryz.prog 128 #[.slice none 0 0, .int .i64 0, sv] w fun e w' => ∃ v, e = .returned v ∧ SlsN cEnt w.heap.size w' v [x] ∧ Below w.heap.size w w' := by
  obtain ⟨A, cap, rfl, hc, hm, hr⟩ := id hs
  obtain ⟨i0, hi0, hz0, hz1, hz2⟩ := info_parts (show (Tryz.prog.info? 58).map (fun i => (i.zero, i.size, i.bytes)) = some (some (.agg #[.int .i64 0, .int .i64 0, .string ⟨#[]⟩]), 3, 32) by kernel_rfl)
  have HS := Lib.hid hs
  clear hs hr
  simp only [List.length_singleton]
  have HS2 := Lib.hid (show Sls cEnt w w.heap.size (.slice A 1 cap) [x] from HS.out)
  go_enter Tryz.func128, Tryz.ntmps128
  go_wp2_with (first
    | (at_builtin
       refine wpList_copy cEnt rfl _ _ 22 rfl 58 i0 _ 3 32 rfl hi0 hz0 hz1 hz2 rfl (by omega) rfl w.heap.size _ [x] rfl HS2.out cEnt_len cEnt_one (by simp) ?_
       intro v1 w1 hs1 hb1))
  go_ret
  exact ⟨v1, rfl, hs1, hb1⟩

set_option maxRecDepth 100000 in
set_option maxHeartbeats 4000000 in
theorem put_nil (x : Ent) (w : World) (h : x.input ≠ []) :
    Calls Tryz.prog 39 #[.slice none 0 0, .agg #[.int .i64 x.at_.col, .int .i64 x.at_.row, str x.input]] w fun e w' => ∃ v, e = .returned v ∧ SlsN cEnt w.heap.size w' v [x] ∧ Below w.heap.size w w' := by
  go_enter Tryz.func39, Tryz.ntmps39
  go_wp2_with fail
  refine (indexfunc_nil 0 none _ _).mono ?_
  rintro e w1 ⟨rfl, rfl⟩
  go_wp2_with fail
  go_quiet (fail)
  have h0 : (x.input == ([] : List UInt8)) = false := by simpa using h
  have HH := Lib.hid h
  clear h
  go_wp2_with fail
  have kk : Blk (((w.alloc (.cells #[.int .i64 x.at_.col, .int .i64 x.at_.row, str x.input] 58)).drewN nq).alloc (.cells #[.int .i64 x.at_.col, .int .i64 x.at_.row, str x.input] 58)) (w.heap.size + 1) 58 #[.int .i64 x.at_.col, .int .i64 x.at_.row, str x.input] := by
    have := Blk.new ((w.alloc (.cells #[.int .i64 x.at_.col, .int .i64 x.at_.row, str x.input] 58)).drewN nq) 58 #[.int .i64 x.at_.col, .int .i64 x.at_.row, str x.input]
    simpa using this
  refine (insert_nil x _ _ (Sls.one kk rfl)).mono ?_
  rintro e w2 ⟨v, rfl, hs, hb⟩
  have HS := Lib.hid hs
  have HB := Lib.hid (show Below w.heap.size w w2 from Below.next (Below.alloc (Below.drewN_ ((Below.refl w.heap.size w).alloc (Nat.le_refl _) _) nq) (by simp) _) hb (by simp; omega))
  obtain ⟨A, cap, rfl, _⟩ := id hs.1
  clear hs hb kk
  go_wp2
  go_ret
  exact ⟨_, rfl, HS.out.older (by simp; omega), HB.out⟩

end Go.Proofs.YtamcgggmfghljaaGreatDoor
