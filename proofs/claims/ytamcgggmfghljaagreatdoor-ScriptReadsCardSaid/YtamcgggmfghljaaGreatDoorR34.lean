/- Layer 11 (program): what "9" means; a list of one entry "9", checked. -/
import Derived.Deep.QuietTactic
import Derived.BigQuiet
import Derived.Test.YtamcgggmfghljaaGreatDoorR33
import Derived.Test.YtamcgggmfghljaaGreatDoorR11
import Derived.Test.YtamcgggmfghljaaGreatDoorR3
namespace Go.Proofs.YtamcgggmfghljaaGreatDoor
open Go.RowKit

set_option maxRecDepth 100000 in
set_option maxHeartbeats 4000000 in
theorem of_9 (w : World) (hw : Words w) :
    Calls Tryz.prog 169 #[str [57]] w fun u w' => ∃ (k n : Int) (s : Bytes), u = .returned (.tuple #[.agg #[.bool false, .int .u8 k, .int .i64 n, str s, .slice none 0 0], .int .i64 0, .int .i64 0]) ∧ Below w.heap.size w w' := by
  have hx : (⟨#[57]⟩ : ByteArray).extract 0 1 = ⟨#[57]⟩ := rfl
  have HW := Lib.hid hw
  clear hw
  go_enter Tryz.func169, Tryz.ntmps169
  go_wp2
  refine wp_loop_rounds 2 ?_
  rw [rounds_succ]
  go_wp2_with fail
  refine (glyph_check [57] _ (by decide)).mono ?_
  rintro e w1 ⟨rfl, hb1⟩
  rw [show txtE [57] = 0 from rfl]
  have KB := Lib.hid ((Blk.new w 192 #[.bool false, .int .u8 0, .int .i64 0, str [], .slice none 0 0]).below_ hb1)
  have HB1 := Lib.hid (show Below w.heap.size w w1 from Below.next (by go_grown) hb1 (by simp))
  clear hb1
  go_wp2
  rw [rounds_succ]
  go_wp2_with fail
  refine (prefix_9 61 _ (by decide)).mono ?_
  rintro e w2 ⟨rfl, hb2⟩
  have KB2 := Lib.hid (KB.out.below_ hb2)
  have HB2 := Lib.hid (Below.trans HB1.out (hb2.mono HB1.out.size))
  clear hb2 KB HB1
  go_wp2_with fail
  refine (constant_9 _ (HW.out.below HB2.out)).mono ?_
  rintro e w3 ⟨k, n, s, rfl, hb3⟩
  have KB3 := Lib.hid (KB2.out.below_ hb3)
  have HB3 := Lib.hid (Below.trans HB2.out (hb3.mono HB2.out.size))
  have g0 := KB3.out.cell 0
  have g1 := KB3.out.cell 1
  have g2 := KB3.out.cell 2
  have g3 := KB3.out.cell 3
  have g4 := KB3.out.cell 4
  have fr := KB3.out.frozen
  have lb := KB3.out.lt
  clear hb3 KB2 HB2
  go_wp2
  refine bodyPost_ret (v := .tuple #[.agg #[.bool false, .int .u8 k, .int .i64 n, str s, .slice none 0 0], .int .i64 0, .int .i64 0]) (by simp (maxDischargeDepth := 9) [results, Tryz.results169, go_sem, g0, g1, g2, g3, g4]) rfl ?_
  exact ⟨k, n, s, rfl, Below.setCell (Below.setCell (Below.setCell (Below.setCell (Below.setCell HB3.out (by simp) _) (by simp) _) (by simp) _) (by simp) _) (by simp) _⟩

set_option maxRecDepth 100000 in
set_option maxHeartbeats 4000000 in
theorem entry_check_9 (sv : Value) (c r : Int) (B : Nat) (w : World) (hs : Sls cEnt w B sv [⟨⟨c, r⟩, [57]⟩]) (_hB : B ≤ w.heap.size) (hv : validB c r = true) (hw : Words w) :
    Calls Tryz.prog 110 #[sv] w fun u w' => ∃ i, u = .returned (.tuple #[.int .i64 i, .int .i64 0]) ∧ Below w.heap.size w w' := by
  obtain ⟨A, cap, rfl, hc, hm, hr⟩ := id hs
  obtain ⟨b, o, rfl, hb, r3⟩ := hs.get 3 cEnt_len (i := 0) rfl
  have r0 : w.cell? ⟨b, o, none⟩ = some (.int .i64 c) := by simpa using r3 0 _ rfl
  have r1 : w.cell? ⟨b, o + 1, none⟩ = some (.int .i64 r) := by simpa using r3 1 _ rfl
  have r2 : w.cell? ⟨b, o + 2, none⟩ = some (str [57]) := by simpa using r3 2 _ rfl
  have HW := Lib.hid hw
  have HV := Lib.hid hv
  clear hw hv hs hr r3
  simp only [List.length_singleton]
  go_enter Tryz.func110, Tryz.ntmps110
  go_wp2
  refine wp_loop_rounds 2 ?_
  rw [rounds_succ]
  go_wp2_with fail
  refine (addr_valid c r _).mono ?_
  rintro e w1 ⟨rfl, hb1⟩
  rw [HV.out]
  have KB := Lib.hid ((Blk.new w 58 #[.int .i64 c, .int .i64 r, str [57]]).below_ hb1)
  have HB1 := Lib.hid (show Below w.heap.size w w1 from Below.next (by go_grown) hb1 (by simp))
  have g2 := KB.out.cell 2
  have h0 : ([57] == ([] : List UInt8)) = false := rfl
  clear hb1
  go_wp2_with fail
  go_quiet (fail)
  have g3 : (w1.drewN nq).cell? ⟨w.heap.size, 2, none⟩ = some (str [57]) := g2
  go_wp2_with fail
  refine (of_9 _ (HW.out.below (Below.drewN_ HB1.out _))).mono ?_
  rintro e w2 ⟨k, n, s, rfl, hb2⟩
  have HB2 := Lib.hid (Below.trans (Below.drewN_ HB1.out _) (hb2.mono HB1.out.size))
  clear hb2
  go_wp2
  rw [rounds_succ]
  go_wp2
  go_ret2
  exact ⟨0, rfl, HB2.out.alloc HB2.out.size _⟩

end Go.Proofs.YtamcgggmfghljaaGreatDoor
