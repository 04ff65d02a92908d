/- Layer 3: ranges: corners, check, one, has. -/
import Derived.Test.YtamcgggmfghljaaGreatDoorR12
namespace Go.Proofs.YtamcgggmfghljaaGreatDoor
open Go.RowKit

set_option maxHeartbeats 400000 in
theorem rect_corners (a b c d : Int) (w : World) :
    Calls Tryz.prog 198 #[.agg #[.int .i64 a, .int .i64 b, .int .i64 c, .int .i64 d]] w fun e w' => e = .returned (.tuple #[.agg #[.int .i64 a, .int .i64 b], .agg #[.int .i64 c, .int .i64 d]]) ∧ Below w.heap.size w w' := by
  go_enter Tryz.func198, Tryz.ntmps198
  go_wp2
  go_region
  go_wp2
  go_returns
  exact ⟨rfl, by go_grown⟩

/-- Go's error of a range that is not valid. -/
def rctE (x : Rct) : Int := if rctB x then 0 else 3

theorem rctE_no1 {a b c d : Int} (h : validB a b = false) : rctE ⟨a, b, c, d⟩ = 3 := by simp [rctE, rctB, h]
theorem rctE_no2 {a b c d : Int} (h : validB c d = false) : rctE ⟨a, b, c, d⟩ = 3 := by simp [rctE, rctB, h]
theorem rctE_no3 {a b c d : Int} (h : c < a) : rctE ⟨a, b, c, d⟩ = 3 := by simp [rctE, rctB]; omega
theorem rctE_no4 {a b c d : Int} (h : d < b) : rctE ⟨a, b, c, d⟩ = 3 := by simp [rctE, rctB]; omega
theorem rctE_yes {a b c d : Int} (h1 : validB a b = true) (h2 : validB c d = true) (h3 : ¬ c < a) (h4 : ¬ d < b) : rctE ⟨a, b, c, d⟩ = 0 := by simp [rctE, rctB, h1, h2]; omega

set_option maxHeartbeats 1000000 in
theorem rect_check (a b c d : Int) (w : World) :
    Calls Tryz.prog 172 #[.agg #[.int .i64 a, .int .i64 b, .int .i64 c, .int .i64 d]] w fun e w' => e = .returned (.int .i64 (rctE ⟨a, b, c, d⟩)) ∧ Below w.heap.size w w' := by
  go_enter Tryz.func172, Tryz.ntmps172
  go_wp2_with fail
  refine (rect_corners a b c d _).mono ?_
  rintro e w1 ⟨rfl, hb1⟩
  have hz1 := hb1.size
  try simp at hz1
  have hB1 : Below w.heap.size w w1 := Below.next (by go_grown) hb1 (by first | (simp; done) | (simp; omega) | omega)
  have hc1_0 : ∀ o, w1.cell? ⟨w.heap.size, o, none⟩ = _ := fun o => hb1.cell (p := ⟨w.heap.size, o, none⟩) (by first | (simp; done) | (simp; omega) | omega)
  have hl1_0 : w.heap.size < w1.heap.size := by omega
  have hm1_0 : w.heap.size ≤ w1.heap.size := by omega
  have hn1_0 : w.heap.size ≤ w1.heap.size + 1 := by omega
  have ho1_0 : w.heap.size ≤ w1.heap.size + 1 + 1 := by omega
  have hf1_0 : ∀ o, w1.frozen? ⟨w.heap.size, o, none⟩ = _ := fun o => hb1.frozen (p := ⟨w.heap.size, o, none⟩) (by first | (simp; done) | (simp; omega) | omega)
  go_wp2_with fail
  refine (addr_valid a b _).mono ?_
  rintro e w2 ⟨rfl, hb2⟩
  have hz2 := hb2.size
  try simp at hz2
  have hB2 : Below w.heap.size w w2 := Below.next (by go_grown) hb2 (by first | (simp; done) | (simp; omega) | omega)
  have hc2_0 : ∀ o, w2.cell? ⟨w.heap.size, o, none⟩ = _ := fun o => hb2.cell (p := ⟨w.heap.size, o, none⟩) (by first | (simp; done) | (simp; omega) | omega)
  have hl2_0 : w.heap.size < w2.heap.size := by omega
  have hm2_0 : w.heap.size ≤ w2.heap.size := by omega
  have hn2_0 : w.heap.size ≤ w2.heap.size + 1 := by omega
  have ho2_0 : w.heap.size ≤ w2.heap.size + 1 + 1 := by omega
  have hf2_0 : ∀ o, w2.frozen? ⟨w.heap.size, o, none⟩ = _ := fun o => hb2.frozen (p := ⟨w.heap.size, o, none⟩) (by first | (simp; done) | (simp; omega) | omega)
  have hc2_1 : ∀ o, w2.cell? ⟨w1.heap.size, o, none⟩ = _ := fun o => hb2.cell (p := ⟨w1.heap.size, o, none⟩) (by first | (simp; done) | (simp; omega) | omega)
  have hl2_1 : w1.heap.size < w2.heap.size := by omega
  have hm2_1 : w1.heap.size ≤ w2.heap.size := by omega
  have hn2_1 : w1.heap.size ≤ w2.heap.size + 1 := by omega
  have ho2_1 : w1.heap.size ≤ w2.heap.size + 1 + 1 := by omega
  have hf2_1 : ∀ o, w2.frozen? ⟨w1.heap.size, o, none⟩ = _ := fun o => hb2.frozen (p := ⟨w1.heap.size, o, none⟩) (by first | (simp; done) | (simp; omega) | omega)
  have hc2_2 : ∀ o, w2.cell? ⟨w1.heap.size + 1, o, none⟩ = _ := fun o => hb2.cell (p := ⟨w1.heap.size + 1, o, none⟩) (by first | (simp; done) | (simp; omega) | omega)
  have hl2_2 : w1.heap.size + 1 < w2.heap.size := by omega
  have hm2_2 : w1.heap.size + 1 ≤ w2.heap.size := by omega
  have hn2_2 : w1.heap.size + 1 ≤ w2.heap.size + 1 := by omega
  have ho2_2 : w1.heap.size + 1 ≤ w2.heap.size + 1 + 1 := by omega
  have hf2_2 : ∀ o, w2.frozen? ⟨w1.heap.size + 1, o, none⟩ = _ := fun o => hb2.frozen (p := ⟨w1.heap.size + 1, o, none⟩) (by first | (simp; done) | (simp; omega) | omega)
  cases h1 : validB a b
  · have H := Lib.hid (rctE_no1 (c := c) (d := d) h1)
    go_wp2
    go_ret
    exact ⟨by rw [H.out]; rfl, by go_grown⟩
  · skip
    go_wp2_with fail
    refine (addr_valid c d _).mono ?_
    rintro e w3 ⟨rfl, hb3⟩
    have hz3 := hb3.size
    try simp at hz3
    have hB3 : Below w.heap.size w w3 := Below.next (by go_grown) hb3 (by first | (simp; done) | (simp; omega) | omega)
    have hc3_0 : ∀ o, w3.cell? ⟨w.heap.size, o, none⟩ = _ := fun o => hb3.cell (p := ⟨w.heap.size, o, none⟩) (by first | (simp; done) | (simp; omega) | omega)
    have hl3_0 : w.heap.size < w3.heap.size := by omega
    have hm3_0 : w.heap.size ≤ w3.heap.size := by omega
    have hn3_0 : w.heap.size ≤ w3.heap.size + 1 := by omega
    have ho3_0 : w.heap.size ≤ w3.heap.size + 1 + 1 := by omega
    have hf3_0 : ∀ o, w3.frozen? ⟨w.heap.size, o, none⟩ = _ := fun o => hb3.frozen (p := ⟨w.heap.size, o, none⟩) (by first | (simp; done) | (simp; omega) | omega)
    cases h2 : validB c d
    · have H := Lib.hid (rctE_no2 (a := a) (b := b) h2)
      go_wp2
      go_ret
      exact ⟨by rw [H.out]; rfl, by go_grown⟩
    · by_cases h3 : c < a
      · have H := Lib.hid (rctE_no3 (b := b) (d := d) h3)
        go_wp2
        go_ret
        exact ⟨by rw [H.out]; rfl, by go_grown⟩
      · by_cases h4 : d < b
        · have H := Lib.hid (rctE_no4 (a := a) (c := c) h4)
          go_wp2
          go_ret
          exact ⟨by rw [H.out]; rfl, by go_grown⟩
        · have H := Lib.hid (rctE_yes h1 h2 h3 h4)
          go_wp2
          go_ret
          exact ⟨by rw [H.out]; rfl, by go_grown⟩

set_option maxHeartbeats 1000000 in
theorem r03_check (a b c d : Int) (w : World) :
    Calls Tryz.prog 188 #[.agg #[.int .i64 a, .int .i64 b, .int .i64 c, .int .i64 d]] w fun e w' => e = .returned (.int .i64 (rctE ⟨a, b, c, d⟩)) ∧ Below w.heap.size w w' := by
  go_enter Tryz.func188, Tryz.ntmps188
  go_wp2_with fail
  refine (r03_from a b c d _).mono ?_
  rintro e w1 ⟨rfl, hb1⟩
  have hz1 := hb1.size
  try simp at hz1
  have hB1 : Below w.heap.size w w1 := Below.next (by go_grown) hb1 (by first | (simp; done) | (simp; omega) | omega)
  have hc1_0 : ∀ o, w1.cell? ⟨w.heap.size, o, none⟩ = _ := fun o => hb1.cell (p := ⟨w.heap.size, o, none⟩) (by first | (simp; done) | (simp; omega) | omega)
  have hl1_0 : w.heap.size < w1.heap.size := by omega
  have hm1_0 : w.heap.size ≤ w1.heap.size := by omega
  have hn1_0 : w.heap.size ≤ w1.heap.size + 1 := by omega
  have ho1_0 : w.heap.size ≤ w1.heap.size + 1 + 1 := by omega
  have hf1_0 : ∀ o, w1.frozen? ⟨w.heap.size, o, none⟩ = _ := fun o => hb1.frozen (p := ⟨w.heap.size, o, none⟩) (by first | (simp; done) | (simp; omega) | omega)
  go_wp2_with fail
  refine (r02_valid a b _).mono ?_
  rintro e w2 ⟨rfl, hb2⟩
  have hz2 := hb2.size
  try simp at hz2
  have hB2 : Below w.heap.size w w2 := Below.next (by go_grown) hb2 (by first | (simp; done) | (simp; omega) | omega)
  have hc2_0 : ∀ o, w2.cell? ⟨w.heap.size, o, none⟩ = _ := fun o => hb2.cell (p := ⟨w.heap.size, o, none⟩) (by first | (simp; done) | (simp; omega) | omega)
  have hl2_0 : w.heap.size < w2.heap.size := by omega
  have hm2_0 : w.heap.size ≤ w2.heap.size := by omega
  have hn2_0 : w.heap.size ≤ w2.heap.size + 1 := by omega
  have ho2_0 : w.heap.size ≤ w2.heap.size + 1 + 1 := by omega
  have hf2_0 : ∀ o, w2.frozen? ⟨w.heap.size, o, none⟩ = _ := fun o => hb2.frozen (p := ⟨w.heap.size, o, none⟩) (by first | (simp; done) | (simp; omega) | omega)
  cases h1 : validB a b
  · have H := Lib.hid (rctE_no1 (c := c) (d := d) h1)
    go_wp2
    go_ret
    exact ⟨by rw [H.out]; rfl, by go_grown⟩
  · skip
    go_wp2_with fail
    refine (r03_to a b c d _).mono ?_
    rintro e w3 ⟨rfl, hb3⟩
    have hz3 := hb3.size
    try simp at hz3
    have hB3 : Below w.heap.size w w3 := Below.next (by go_grown) hb3 (by first | (simp; done) | (simp; omega) | omega)
    have hc3_0 : ∀ o, w3.cell? ⟨w.heap.size, o, none⟩ = _ := fun o => hb3.cell (p := ⟨w.heap.size, o, none⟩) (by first | (simp; done) | (simp; omega) | omega)
    have hl3_0 : w.heap.size < w3.heap.size := by omega
    have hm3_0 : w.heap.size ≤ w3.heap.size := by omega
    have hn3_0 : w.heap.size ≤ w3.heap.size + 1 := by omega
    have ho3_0 : w.heap.size ≤ w3.heap.size + 1 + 1 := by omega
    have hf3_0 : ∀ o, w3.frozen? ⟨w.heap.size, o, none⟩ = _ := fun o => hb3.frozen (p := ⟨w.heap.size, o, none⟩) (by first | (simp; done) | (simp; omega) | omega)
    go_wp2_with fail
    refine (r02_valid c d _).mono ?_
    rintro e w4 ⟨rfl, hb4⟩
    have hz4 := hb4.size
    try simp at hz4
    have hB4 : Below w.heap.size w w4 := Below.next (by go_grown) hb4 (by first | (simp; done) | (simp; omega) | omega)
    have hc4_0 : ∀ o, w4.cell? ⟨w.heap.size, o, none⟩ = _ := fun o => hb4.cell (p := ⟨w.heap.size, o, none⟩) (by first | (simp; done) | (simp; omega) | omega)
    have hl4_0 : w.heap.size < w4.heap.size := by omega
    have hm4_0 : w.heap.size ≤ w4.heap.size := by omega
    have hn4_0 : w.heap.size ≤ w4.heap.size + 1 := by omega
    have ho4_0 : w.heap.size ≤ w4.heap.size + 1 + 1 := by omega
    have hf4_0 : ∀ o, w4.frozen? ⟨w.heap.size, o, none⟩ = _ := fun o => hb4.frozen (p := ⟨w.heap.size, o, none⟩) (by first | (simp; done) | (simp; omega) | omega)
    cases h2 : validB c d
    · have H := Lib.hid (rctE_no2 (a := a) (b := b) h2)
      go_wp2
      go_ret
      exact ⟨by rw [H.out]; rfl, by go_grown⟩
    · by_cases h3 : c < a
      · have H := Lib.hid (rctE_no3 (b := b) (d := d) h3)
        go_wp2
        go_ret
        exact ⟨by rw [H.out]; rfl, by go_grown⟩
      · by_cases h4 : d < b
        · have H := Lib.hid (rctE_no4 (a := a) (c := c) h4)
          go_wp2
          go_ret
          exact ⟨by rw [H.out]; rfl, by go_grown⟩
        · have H := Lib.hid (rctE_yes h1 h2 h3 h4)
          go_wp2
          go_ret
          exact ⟨by rw [H.out]; rfl, by go_grown⟩

end Go.Proofs.YtamcgggmfghljaaGreatDoor
