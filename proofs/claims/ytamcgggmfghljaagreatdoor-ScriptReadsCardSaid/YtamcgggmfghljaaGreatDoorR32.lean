/- Layer 11 (program): the entry "9". -/
import Derived.WalkMore
import Derived.Test.YtamcgggmfghljaaGreatDoorR31
import Derived.Test.YtamcgggmfghljaaGreatDoorR3
namespace Go.Proofs.YtamcgggmfghljaaGreatDoor
open Go.RowKit

theorem first_9 : ((⟨#[57]⟩ : ByteArray).extract 0 1).toList = [57] := by
  rw [ByteArray.toList_eq]
  rfl
set_option maxRecDepth 100000 in
set_option maxHeartbeats 4000000 in
theorem prefix_9 (p : UInt8) (w : World) (hp : p ≠ 57) :
    Calls Tryz.prog 195 #[str [57], str [p]] w fun u w' => u = .returned (.tuple #[str [57], .bool false]) ∧ Below w.heap.size w w' := by
  have hx : (((⟨#[57]⟩ : ByteArray).extract 0 1).toList == [p]) = false := by
    rw [first_9, beq_eq_false_iff_ne]
    intro e
    exact hp (by simpa using e.symm)
  clear hp
  go_enter Tryz.func195, Tryz.ntmps195
  go_wp2
  go_ret2
  exact ⟨rfl, by go_grown⟩

/-- What a try does at "9". -/
def TryOk (K : Nat) : Prop := ∀ (W : World) (g : Nat), W.cell? ⟨g, 0, none⟩ = some (str [57]) → g < W.heap.size → Words W →
  Calls Tryz.prog K #[.pointer (some ⟨g, 0, none⟩)] W fun u w' => ∃ (k n : Int) (s : Bytes) (b : Bool), u = .returned (.tuple #[.agg #[.int .u8 k, .int .i64 n, str s], .bool b]) ∧ Below W.heap.size W w'
set_option maxRecDepth 100000 in
set_option maxHeartbeats 4000000 in
theorem make_any (n : Int) (w : World) (h : n ≠ -9223372036854775808) :
    Calls Tryz.prog 221 #[.int .i64 n] w fun u w' => u = .returned (.agg #[.int .u8 1, .int .i64 n, str []]) ∧ Below w.heap.size w w' := by
  have h1 : (n == -9223372036854775808) = false := by simpa using h
  clear h
  go_enter Tryz.func221, Tryz.ntmps221
  go_wp2
  refine bodyPost_ret (v := .agg #[.int .u8 1, .int .i64 n, str []]) (by simp (maxDischargeDepth := 9) [results, Tryz.results221, go_sem]) rfl ?_
  exact ⟨rfl, by go_grown⟩

set_option maxRecDepth 100000 in
set_option maxHeartbeats 4000000 in
theorem fail_any (n : Int) (w : World) :
    Calls Tryz.prog 218 #[.int .i64 n] w fun u w' => ∃ m : Int, u = .returned (.agg #[.int .u8 4, .int .i64 m, str []]) ∧ Below w.heap.size w w' := by
  by_cases h1 : n < 1
  · skip
    go_enter Tryz.func218, Tryz.ntmps218
    go_wp2
    refine bodyPost_ret (v := .agg #[.int .u8 4, .int .i64 2, str []]) (by simp (maxDischargeDepth := 9) [results, Tryz.results218, go_sem]) rfl ?_
    exact ⟨_, rfl, by go_grown⟩
  · by_cases h2 : 7 < n
    · skip
      go_enter Tryz.func218, Tryz.ntmps218
      go_wp2
      refine bodyPost_ret (v := .agg #[.int .u8 4, .int .i64 2, str []]) (by simp (maxDischargeDepth := 9) [results, Tryz.results218, go_sem]) rfl ?_
      exact ⟨⟨_, rfl⟩, by go_grown⟩
    · skip
      go_enter Tryz.func218, Tryz.ntmps218
      go_wp2
      refine bodyPost_ret (v := .agg #[.int .u8 4, .int .i64 n, str []]) (by simp (maxDischargeDepth := 9) [results, Tryz.results218, go_sem]) rfl ?_
      exact ⟨⟨_, rfl⟩, by go_grown⟩

set_option maxRecDepth 100000 in
set_option maxHeartbeats 4000000 in
theorem try_1 : TryOk 212 := by
  intro w g hc hg hw
  clear hw
  have h0 : ([57] == ([] : List UInt8)) = false := rfl
  go_enter Tryz.func212, Tryz.ntmps212
  go_wp2
  go_region
  all_goals
    go_wp2
    refine bodyPost_ret (v := .tuple #[.agg #[.int .u8 0, .int .i64 0, str []], .bool false]) (by simp (maxDischargeDepth := 9) [results, Tryz.results212, go_sem]) rfl ?_
    exact ⟨_, _, _, _, rfl, by go_grown⟩

set_option maxRecDepth 100000 in
set_option maxHeartbeats 4000000 in
theorem try_2 : TryOk 213 := by
  intro w g hc hg hw
  clear hw
  go_enter Tryz.func213, Tryz.ntmps213
  go_wp2_with fail
  refine (prefix_9 _ _ (by decide)).mono ?_
  rintro e w1 ⟨rfl, hb1⟩
  have hz1 := hb1.size
  try simp at hz1
  have hB1 : Below w.heap.size w w1 := Below.next (by go_grown) hb1 (by first | (simp; done) | (simp; omega) | omega)
  have hc1_0 : ∀ o, w1.cell? ⟨w.heap.size, o, none⟩ = _ := fun o => hb1.cell (p := ⟨w.heap.size, o, none⟩) (by first | (simp; done) | (simp; omega) | omega)
  have hl1_0 : w.heap.size < w1.heap.size := by omega
  have hm1_0 : w.heap.size ≤ w1.heap.size := by omega
  have hn1_0 : w.heap.size ≤ w1.heap.size + 1 := by omega
  have ho1_0 : w.heap.size ≤ w1.heap.size + 1 + 1 := by omega
  have hf1_0 : ∀ o, w1.frozen? ⟨w.heap.size, o, none⟩ = _ := fun o => hb1.frozen (p := ⟨w.heap.size, o, none⟩) (by first | (simp; done) | (simp; omega) | omega)
  go_wp2
  refine bodyPost_ret (v := .tuple #[.agg #[.int .u8 3, .int .i64 0, str [57]], .bool false]) (by simp (maxDischargeDepth := 9) [results, Tryz.results213, go_sem, hc1_0]) rfl ?_
  exact ⟨_, _, _, _, rfl, by go_grown⟩

set_option maxRecDepth 100000 in
set_option maxHeartbeats 4000000 in
theorem try_3 : TryOk 214 := by
  intro w g hc hg hw
  clear hw
  obtain ⟨k, m, hk⟩ := boolV_form [57]
  have HK := Lib.hid hk
  clear hk
  go_enter Tryz.func214, Tryz.ntmps214
  go_wp2_with fail
  refine (tobool_any _ _ rfl (by decide)).mono ?_
  rintro e w1 ⟨rfl, hb1⟩
  have hz1 := hb1.size
  try simp at hz1
  have hB1 : Below w.heap.size w w1 := Below.next (by go_grown) hb1 (by first | (simp; done) | (simp; omega) | omega)
  have hc1_0 : ∀ o, w1.cell? ⟨w.heap.size, o, none⟩ = _ := fun o => hb1.cell (p := ⟨w.heap.size, o, none⟩) (by first | (simp; done) | (simp; omega) | omega)
  have hl1_0 : w.heap.size < w1.heap.size := by omega
  have hm1_0 : w.heap.size ≤ w1.heap.size := by omega
  have hn1_0 : w.heap.size ≤ w1.heap.size + 1 := by omega
  have ho1_0 : w.heap.size ≤ w1.heap.size + 1 + 1 := by omega
  have hf1_0 : ∀ o, w1.frozen? ⟨w.heap.size, o, none⟩ = _ := fun o => hb1.frozen (p := ⟨w.heap.size, o, none⟩) (by first | (simp; done) | (simp; omega) | omega)
  rw [HK.out]
  go_wp2
  go_region
  all_goals
    go_wp2
    refine bodyPost_ret (v := .tuple #[.agg #[.int .u8 k, .int .i64 m, str []], .bool (k == 2)]) (by simp (maxDischargeDepth := 9) [results, Tryz.results214, go_sem, hc1_0, hl1_0]) rfl ?_
    exact ⟨_, _, _, _, rfl, by go_grown⟩

set_option maxRecDepth 100000 in
set_option maxHeartbeats 4000000 in
theorem try_4 : TryOk 216 := by
  intro w g hc hg hw
  have HW := Lib.hid hw
  clear hw
  go_enter Tryz.func216, Tryz.ntmps216
  go_wp2_with fail
  refine (code_any [57] _ (by decide) (HW.out.below (by go_grown))).mono ?_
  rintro e w1 ⟨c, m, rfl, hb1⟩
  have hz1 := hb1.size
  simp at hz1
  have hc1 : ∀ o, w1.cell? ⟨w.heap.size, o, none⟩ = _ := fun o => hb1.cell (p := ⟨w.heap.size, o, none⟩) (by simp)
  have hf1 : ∀ o, w1.frozen? ⟨w.heap.size, o, none⟩ = _ := fun o => hb1.frozen (p := ⟨w.heap.size, o, none⟩) (by simp)
  have HB1 := Lib.hid (show Below w.heap.size w w1 from Below.next (by go_grown) hb1 (by simp))
  clear hb1
  go_wp2_with fail
  refine (fail_any c _).mono ?_
  rintro e w2 ⟨q, rfl, hb2⟩
  have hz2 := hb2.size
  have hc2 : ∀ o, w2.cell? ⟨w.heap.size, o, none⟩ = _ := fun o => (hb2.cell (p := ⟨w.heap.size, o, none⟩) (by simp; omega)).trans (hc1 o)
  have hf2 : ∀ o, w2.frozen? ⟨w.heap.size, o, none⟩ = _ := fun o => (hb2.frozen (p := ⟨w.heap.size, o, none⟩) (by simp; omega)).trans (hf1 o)
  have HB2 := Lib.hid (show Below w.heap.size w w2 from Below.next HB1.out hb2 HB1.out.size)
  have hl2 : w.heap.size < w2.heap.size := by omega
  clear hb2 hc1 hf1
  go_wp2
  · skip
    refine bodyPost_ret (v := .tuple #[.agg #[.int .u8 4, .int .i64 q, str []], .bool (decide (c ≤ 5))]) (by simp (maxDischargeDepth := 9) [results, Tryz.results216, go_sem, hc2]) rfl ?_
    exact ⟨_, _, _, _, rfl, Below.setCell (Below.setCell (Below.setCell HB2.out (Nat.le_refl _) _) (Nat.le_refl _) _) (Nat.le_refl _) _⟩
  · skip
    refine bodyPost_ret (v := .tuple #[.agg #[.int .u8 4, .int .i64 q, str []], .bool false]) (by simp (maxDischargeDepth := 9) [results, Tryz.results216, go_sem, hc2]) rfl ?_
    exact ⟨_, _, _, _, rfl, Below.setCell (Below.setCell (Below.setCell HB2.out (Nat.le_refl _) _) (Nat.le_refl _) _) (Nat.le_refl _) _⟩

set_option maxRecDepth 100000 in
set_option maxHeartbeats 4000000 in
theorem try_5 : TryOk 219 := by
  intro w g hc hg hw
  clear hw
  go_enter Tryz.func219, Tryz.ntmps219
  go_wp2_with fail
  refine (parse_9 _).mono ?_
  rintro e w1 ⟨rfl, hb1⟩
  have hz1 := hb1.size
  try simp at hz1
  have hB1 : Below w.heap.size w w1 := Below.next (by go_grown) hb1 (by first | (simp; done) | (simp; omega) | omega)
  have hc1_0 : ∀ o, w1.cell? ⟨w.heap.size, o, none⟩ = _ := fun o => hb1.cell (p := ⟨w.heap.size, o, none⟩) (by first | (simp; done) | (simp; omega) | omega)
  have hl1_0 : w.heap.size < w1.heap.size := by omega
  have hm1_0 : w.heap.size ≤ w1.heap.size := by omega
  have hn1_0 : w.heap.size ≤ w1.heap.size + 1 := by omega
  have ho1_0 : w.heap.size ≤ w1.heap.size + 1 + 1 := by omega
  have hf1_0 : ∀ o, w1.frozen? ⟨w.heap.size, o, none⟩ = _ := fun o => hb1.frozen (p := ⟨w.heap.size, o, none⟩) (by first | (simp; done) | (simp; omega) | omega)
  go_wp2_with fail
  refine (make_any 90000 _ (by decide)).mono ?_
  rintro e w2 ⟨rfl, hb2⟩
  have hz2 := hb2.size
  try simp at hz2
  have hB2 : Below w.heap.size w w2 := Below.next (by go_grown) hb2 (by first | (simp; done) | (simp; omega) | omega)
  have hc2_0 : ∀ o, w2.cell? ⟨w.heap.size, o, none⟩ = _ := fun o => hb2.cell (p := ⟨w.heap.size, o, none⟩) (by first | (simp; done) | (simp; omega) | omega)
  have hl2_0 : w.heap.size < w2.heap.size := by omega
  have hm2_0 : w.heap.size ≤ w2.heap.size := by omega
  have hn2_0 : w.heap.size ≤ w2.heap.size + 1 := by omega
  have ho2_0 : w.heap.size ≤ w2.heap.size + 1 + 1 := by omega
  have hf2_0 : ∀ o, w2.frozen? ⟨w.heap.size, o, none⟩ = _ := fun o => hb2.frozen (p := ⟨w.heap.size, o, none⟩) (by first | (simp; done) | (simp; omega) | omega)
  go_wp2
  refine bodyPost_ret (v := .tuple #[.agg #[.int .u8 1, .int .i64 90000, str []], .bool true]) (by simp (maxDischargeDepth := 9) [results, Tryz.results219, go_sem, hc1_0, hc2_0]) rfl ?_
  exact ⟨_, _, _, _, rfl, by go_grown⟩

end Go.Proofs.YtamcgggmfghljaaGreatDoor
