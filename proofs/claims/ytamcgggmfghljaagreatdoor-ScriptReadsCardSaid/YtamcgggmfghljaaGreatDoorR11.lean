/- Layers 2 and 3: addresses and ranges: valid, less, corners, check. -/
import Derived.Test.YtamcgggmfghljaaGreatDoorR2
namespace Go.Proofs.YtamcgggmfghljaaGreatDoor
open Go.RowKit

set_option maxHeartbeats 400000 in
theorem addr_valid (c r : Int) (w : World) :
    Calls Tryz.prog 168 #[.agg #[.int .i64 c, .int .i64 r]] w fun e w' => e = .returned (.bool (validB c r)) ∧ Below w.heap.size w w' := by
  rcases chain4 (1 ≤ c) (c ≤ 1024) (1 ≤ r) (r ≤ 1024) with ⟨h1, h2, h3, h4⟩ | h1 | ⟨h1, h2⟩ | ⟨h1, h2, h3⟩ | ⟨h1, h2, h3, h4⟩
  all_goals
    go_enter Tryz.func168, Tryz.ntmps168
    go_wp2
    go_ret
    exact ⟨by simp [validB, *]; try omega, by go_grown⟩
set_option maxHeartbeats 400000 in
theorem r02_valid (c r : Int) (w : World) :
    Calls Tryz.prog 199 #[.agg #[.int .i64 c, .int .i64 r]] w fun e w' => e = .returned (.bool (validB c r)) ∧ Below w.heap.size w w' := by
  rcases chain4 (1 ≤ c) (c ≤ 1024) (1 ≤ r) (r ≤ 1024) with ⟨h1, h2, h3, h4⟩ | h1 | ⟨h1, h2⟩ | ⟨h1, h2, h3⟩ | ⟨h1, h2, h3, h4⟩
  all_goals
    go_enter Tryz.func199, Tryz.ntmps199
    go_wp2
    go_ret
    exact ⟨by simp [validB, *]; try omega, by go_grown⟩
set_option maxHeartbeats 400000 in
theorem r19_address (c r : Int) (w : World) :
    Calls Tryz.prog 204 #[.agg #[.int .i64 c, .int .i64 r]] w fun e w' => e = .returned (.bool (validB c r)) ∧ Below w.heap.size w w' := by
  rcases chain4 (1 ≤ c) (c ≤ 1024) (1 ≤ r) (r ≤ 1024) with ⟨h1, h2, h3, h4⟩ | h1 | ⟨h1, h2⟩ | ⟨h1, h2, h3⟩ | ⟨h1, h2, h3, h4⟩
  all_goals
    go_enter Tryz.func204, Tryz.ntmps204
    go_wp2
    go_ret
    exact ⟨by simp [validB, *]; try omega, by go_grown⟩

theorem less_cases (r r' c c' : Int) : r < r' ∨ (¬ r < r' ∧ (r == r') = true ∧ (c < c' ∨ ¬ c < c')) ∨ (¬ r < r' ∧ (r == r') = false ∧ ¬ r = r') := by
  by_cases h : r < r'
  · exact .inl h
  · by_cases e : r = r'
    · exact .inr (.inl ⟨h, by simp [e], by omega⟩)
    · exact .inr (.inr ⟨h, by simp [e], e⟩)
set_option maxHeartbeats 400000 in
theorem addr_less (c r c' r' : Int) (w : World) :
    Calls Tryz.prog 126 #[.agg #[.int .i64 c, .int .i64 r], .agg #[.int .i64 c', .int .i64 r']] w fun e w' => e = .returned (.bool (lessB ⟨c, r⟩ ⟨c', r'⟩)) ∧ Below w.heap.size w w' := by
  rcases less_cases r r' c c' with h | ⟨h, e, h2 | h2⟩ | ⟨h, e, h2⟩
  all_goals
    go_enter Tryz.func126, Tryz.ntmps126
    go_wp2
    go_ret
    exact ⟨by simp [lessB, *]; try simp_all; try omega, by go_grown⟩
set_option maxHeartbeats 400000 in
theorem r02_less (c r c' r' : Int) (w : World) :
    Calls Tryz.prog 137 #[.agg #[.int .i64 c, .int .i64 r], .agg #[.int .i64 c', .int .i64 r']] w fun e w' => e = .returned (.bool (lessB ⟨c, r⟩ ⟨c', r'⟩)) ∧ Below w.heap.size w w' := by
  rcases less_cases r r' c c' with h | ⟨h, e, h2 | h2⟩ | ⟨h, e, h2⟩
  all_goals
    go_enter Tryz.func137, Tryz.ntmps137
    go_wp2
    go_ret
    exact ⟨by simp [lessB, *]; try simp_all; try omega, by go_grown⟩

end Go.Proofs.YtamcgggmfghljaaGreatDoor
