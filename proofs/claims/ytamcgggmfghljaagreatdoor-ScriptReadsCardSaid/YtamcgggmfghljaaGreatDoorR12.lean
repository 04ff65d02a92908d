/- Layer 3, small ones. -/
import Derived.Test.YtamcgggmfghljaaGreatDoorR11
namespace Go.Proofs.YtamcgggmfghljaaGreatDoor
open Go.RowKit

set_option maxHeartbeats 400000 in
theorem rect_one (c r : Int) (w : World) :
    Calls Tryz.prog 123 #[.agg #[.int .i64 c, .int .i64 r]] w fun e w' => e = .returned (.agg #[.int .i64 c, .int .i64 r, .int .i64 c, .int .i64 r]) ∧ Below w.heap.size w w' := by
  go_enter Tryz.func123, Tryz.ntmps123
  go_wp2
  go_returns
  exact ⟨rfl, by go_grown⟩
set_option maxHeartbeats 400000 in
theorem r03_one (c r : Int) (w : World) :
    Calls Tryz.prog 49 #[.agg #[.int .i64 c, .int .i64 r]] w fun e w' => e = .returned (.agg #[.int .i64 c, .int .i64 r, .int .i64 c, .int .i64 r]) ∧ Below w.heap.size w w' := by
  go_enter Tryz.func49, Tryz.ntmps49
  go_wp2
  go_returns
  exact ⟨rfl, by go_grown⟩
set_option maxHeartbeats 400000 in
theorem r31_one (c r : Int) (w : World) :
    Calls Tryz.prog 136 #[.agg #[.int .i64 c, .int .i64 r]] w fun e w' => e = .returned (.agg #[.int .i64 c, .int .i64 r, .int .i64 c, .int .i64 r]) ∧ Below w.heap.size w w' := by
  go_enter Tryz.func136, Tryz.ntmps136
  go_wp2
  go_returns
  exact ⟨rfl, by go_grown⟩
/-- An address in a range. -/
def hasB (x : Rct) (a : Ref) : Bool := decide (x.c1 ≤ a.col) && decide (a.col ≤ x.c2) && decide (x.r1 ≤ a.row) && decide (a.row ≤ x.r2)
set_option maxHeartbeats 1000000 in
theorem r19_has (a b c d x y : Int) (w : World) :
    Calls Tryz.prog 135 #[.agg #[.int .i64 a, .int .i64 b, .int .i64 c, .int .i64 d], .agg #[.int .i64 x, .int .i64 y]] w fun e w' => e = .returned (.bool (hasB ⟨a, b, c, d⟩ ⟨x, y⟩)) ∧ Below w.heap.size w w' := by
  rcases chain4 (a ≤ x) (x ≤ c) (b ≤ y) (y ≤ d) with ⟨h1, h2, h3, h4⟩ | h1 | ⟨h1, h2⟩ | ⟨h1, h2, h3⟩ | ⟨h1, h2, h3, h4⟩
  all_goals
    go_enter Tryz.func135, Tryz.ntmps135
    go_wp2
    go_ret
    exact ⟨by simp [hasB, *]; try omega, by go_grown⟩
set_option maxHeartbeats 400000 in
theorem r03_from (a b c d : Int) (w : World) :
    Calls Tryz.prog 189 #[.agg #[.int .i64 a, .int .i64 b, .int .i64 c, .int .i64 d]] w fun e w' => e = .returned (.agg #[.int .i64 a, .int .i64 b]) ∧ Below w.heap.size w w' := by
  go_enter Tryz.func189, Tryz.ntmps189
  go_wp2
  go_returns
  exact ⟨rfl, by go_grown⟩
set_option maxHeartbeats 400000 in
theorem r03_to (a b c d : Int) (w : World) :
    Calls Tryz.prog 190 #[.agg #[.int .i64 a, .int .i64 b, .int .i64 c, .int .i64 d]] w fun e w' => e = .returned (.agg #[.int .i64 c, .int .i64 d]) ∧ Below w.heap.size w w' := by
  go_enter Tryz.func190, Tryz.ntmps190
  go_wp2
  go_returns
  exact ⟨rfl, by go_grown⟩
set_option maxHeartbeats 400000 in
theorem acl_sheet (w : World) :
    Calls Tryz.prog 171 #[] w fun e w' => e = .returned (.agg #[.int .i64 1, .int .i64 1, .int .i64 1024, .int .i64 1024]) ∧ Below w.heap.size w w' := by
  go_enter Tryz.func171, Tryz.ntmps171
  go_wp2
  go_returns
  exact ⟨rfl, by go_grown⟩
set_option maxHeartbeats 400000 in
theorem r19_sheet (w : World) :
    Calls Tryz.prog 176 #[] w fun e w' => e = .returned (.agg #[.int .i64 1, .int .i64 1, .int .i64 1024, .int .i64 1024]) ∧ Below w.heap.size w w' := by
  go_enter Tryz.func176, Tryz.ntmps176
  go_wp2
  go_returns
  exact ⟨rfl, by go_grown⟩

end Go.Proofs.YtamcgggmfghljaaGreatDoor
