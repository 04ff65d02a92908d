/- long: is a script too long for a short statement? -/
import Derived.Test.YtamcgggmfghljaaGreatDoorM9
namespace Go.Proofs.YtamcgggmfghljaaGreatDoor
open Go.RowKit

set_option maxRecDepth 100000 in
set_option maxHeartbeats 4000000 in
theorem long_1 (s : Scp) (e r g l x o : Value) (B : Nat) (w : World) (_hB : B ≤ w.heap.size) (hb : RdScp w B s e r g l x o) (hr : Reach s) (P1 : (160 : Int) < (s.book.entries.length : Int) + (s.book.rules.length : Int) + (s.book.grants.length : Int) + (s.book.log.length : Int) + (s.book.releases.length : Int)) :
    Calls Tryz.prog 9 #[vScp s e r g l x o] w fun u w' => u = .returned (.bool (longS s)) ∧ Below w.heap.size w w' := by
  obtain ⟨Ae, ce, rfl, _⟩ := id hb.book.ents
  obtain ⟨Ar, cr, rfl, _⟩ := id hb.book.ruls
  obtain ⟨Ag, cg, rfl, _⟩ := id hb.book.grts
  obtain ⟨Al, cl, rfl, _⟩ := id hb.book.evts
  obtain ⟨Ax, cx, rfl, _⟩ := id hb.book.rlss
  obtain ⟨Ao, co, rfl, _⟩ := id hb.ops
  obtain ⟨q1, q2, q3, q4⟩ := sum_q hr
  have HR := Lib.hid hr
  have HB := Lib.hid (show RdScp w B s _ _ _ _ _ _ from hb)
  clear hb hr
  have HS := Lib.hid (long_head (head_1 s.ops.length (sum_1 P1)))
  by_cases P2 : (300 : Int) < (s.ops.length : Int)
  · by_cases P3 : (4096 : Int) < (s.ops.length : Int)
    · by_cases P4 : (4101 : Int) < (s.ops.length : Int)
      · skip
        go_enter Tryz.func9, Tryz.ntmps9
        go_wp2
        go_ret
        exact ⟨by rw [HS.out]; rfl, by go_grown⟩
      · skip
        go_enter Tryz.func9, Tryz.ntmps9
        go_wp2
        go_ret
        exact ⟨by rw [HS.out]; rfl, by go_grown⟩
    · skip
      go_enter Tryz.func9, Tryz.ntmps9
      go_wp2
      go_ret
      exact ⟨by rw [HS.out]; rfl, by go_grown⟩
  · skip
    go_enter Tryz.func9, Tryz.ntmps9
    go_wp2
    go_ret
    exact ⟨by rw [HS.out]; rfl, by go_grown⟩

end Go.Proofs.YtamcgggmfghljaaGreatDoor
