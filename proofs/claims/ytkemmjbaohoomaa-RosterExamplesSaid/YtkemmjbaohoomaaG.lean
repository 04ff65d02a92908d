/- The fourth law's walk. -/
import Derived.Test.YtkemmjbaohoomaaF
namespace Go.Proofs.Ytkemmjbaohoomaa
open Go.RowKit

def none_ : Nat → Bool := fun _ => false

set_option maxRecDepth 100000 in
set_option maxHeartbeats 1000000 in
theorem examples_any (w : World) : Calls Try.prog 6 #[] w fun e w' => e = .returned (.bool true) ∧ Below w.heap.size w w' := by
  have m1 : Hid (((msk (upd none_ 1 true) 64 : Nat) : Int) = 2) := by unfold Hid; decide +kernel
  have m2 : Hid (((msk (upd (upd (upd none_ 1 true) 0 true) 1 false) 64 : Nat) : Int) = 1) := by unfold Hid; decide +kernel
  have m3 : Hid (((msk (upd none_ 63 true) 64 : Nat) : Int) = 9223372036854775808) := by unfold Hid; decide +kernel
  go_enter Try.func6, Try.ntmps6
  go_wp2_with fail
  refine (new_yes 3 w (by decide) (by decide)).mono ?_
  rintro e w' ⟨rfl, rfl⟩
  have o00 := Own.new 3 (fun _ => false) w
  generalize w.alloc (.cells (ros 3 (fun _ => false)) 45) = w0 at *
  have o0 : Own w.heap.size w.heap.size 3 none_ w w0 := o00
  clear o00
  go_wp2_with fail
  refine (in_ok _ _ 3 _ w w0 o0 (by decide) 1 (by decide) (by rfl)).mono ?_
  rintro e w1 ⟨rfl, o1⟩
  go_wp2_with fail
  refine (in_st _ _ 3 _ w w1 o1 (by decide) 1 (by decide) (by rfl)).mono ?_
  rintro e w2 ⟨rfl, o2⟩
  go_wp2_with fail
  refine (in_out _ _ 3 _ w w2 o2 (by decide) 3 (by decide)).mono ?_
  rintro e w3 ⟨rfl, o3⟩
  go_wp2_with fail
  refine (in_out _ _ 3 _ w w3 o3 (by decide) (-1) (by decide)).mono ?_
  rintro e w4 ⟨rfl, o4⟩
  go_wp2_with fail
  refine (out_st _ _ 3 _ w w4 o4 (by decide) 0 (by decide) (by rfl)).mono ?_
  rintro e w5 ⟨rfl, o5⟩
  go_wp2_with fail
  refine (in_now _ _ 3 _ w w5 o5).mono ?_
  rintro e w6 ⟨rfl, o6⟩
  rw [m1.out]
  go_wp2_with fail
  refine (in_ok _ _ 3 _ w w6 o6 (by decide) 0 (by decide) (by rfl)).mono ?_
  rintro e w7 ⟨rfl, o7⟩
  go_wp2_with fail
  refine (out_ok _ _ 3 _ w w7 o7 (by decide) 1 (by decide) (by rfl)).mono ?_
  rintro e w8 ⟨rfl, o8⟩
  go_wp2_with fail
  refine (in_now _ _ 3 _ w w8 o8).mono ?_
  rintro e w9 ⟨rfl, o9⟩
  rw [m2.out]
  have b9 := o9.bel
  clear o0 o1 o2 o3 o4 o5 o6 o7 o8 o9
  go_wp2_with fail
  refine (new_no 0 w9 (by decide)).mono ?_
  rintro e w' ⟨rfl, rfl⟩
  go_wp2_with fail
  refine (new_no 65 w9 (by decide)).mono ?_
  rintro e w' ⟨rfl, rfl⟩
  go_wp2_with fail
  refine (new_yes 64 w9 (by decide) (by decide)).mono ?_
  rintro e w' ⟨rfl, rfl⟩
  have p00 := Own.new 64 (fun _ => false) w9
  generalize w9.alloc (.cells (ros 64 (fun _ => false)) 45) = v0 at *
  have p0 : Own w9.heap.size w9.heap.size 64 none_ w9 v0 := p00
  clear p00
  go_wp2_with fail
  refine (in_ok _ _ 64 _ w9 v0 p0 (by decide) 63 (by decide) (by rfl)).mono ?_
  rintro e v1 ⟨rfl, p1⟩
  go_wp2_with fail
  refine (in_now _ _ 64 _ w9 v1 p1).mono ?_
  rintro e v2 ⟨rfl, p2⟩
  rw [m3.out]
  have hb : Below w.heap.size w v2 := b9.trans (p2.bel.mono b9.size)
  clear p0 p1 p2 b9
  go_wp2_with (first | (go_at_call 10; refine (login_of (change_nil _ _ _)).mono ?_; rintro e w' ⟨rfl, rfl⟩) | (go_at_call 9; refine (logout_of (change_nil _ _ _)).mono ?_; rintro e w' ⟨rfl, rfl⟩) | (go_at_call 11; refine (in_nil _).mono ?_; rintro e w' ⟨rfl, rfl⟩) | (go_at_call 14; refine (copy_nil _).mono ?_; rintro e w' ⟨rfl, rfl⟩))
  go_ret
  exact ⟨rfl, hb⟩

end Go.Proofs.Ytkemmjbaohoomaa
