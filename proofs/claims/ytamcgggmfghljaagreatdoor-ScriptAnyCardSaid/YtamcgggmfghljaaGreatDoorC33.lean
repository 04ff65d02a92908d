/- Layer 29 (program): Target, Plain and Check of well-formed operations (printed by tools/ge -/
import Derived.Deep.RegionHeld3
import Derived.Deep.MidRow
import Derived.Deep.Cut
import Derived.RegionTactic
import Derived.ChangeAlike
import Derived.BigRegion
import Derived.BigQuiet
import Derived.Deep.QuietTactic
import Derived.Test.YtamcgggmfghljaaGreatDoorC30
set_option maxRecDepth 100000
set_option maxHeartbeats 8000000
namespace Go.Proofs.YtamcgggmfghljaaGreatDoor
open Go.RowKit
theorem target_4 (us c1 r1 c2 r2 : Int) (w : World) :
    Calls Tryz.prog 22 #[.agg #[.int .u8 4, .int .i64 us, .int .i64 c1, .int .i64 r1, .int .i64 c2, .int .i64 r2, str [], .int .u64 0, .int .u64 0, .int .u64 0, .int .u8 0, .int .u64 0, .int .i64 0]] w fun u w' => u = .returned (.tuple #[.agg #[.int .i64 c1, .int .i64 r1, .int .i64 c2, .int .i64 r2], .bool true]) ∧ Below w.heap.size w w' := by
  go_enter Tryz.func22, Tryz.ntmps22
  go_wp2
  refine bodyPost_ret (v := .tuple #[.agg #[.int .i64 c1, .int .i64 r1, .int .i64 c2, .int .i64 r2], .bool true]) (by simp (maxDischargeDepth := 9) [results, Tryz.results22, go_sem]) rfl ?_
  exact ⟨rfl, by go_grown⟩
theorem plain_4 (us c1 r1 c2 r2 : Int) (w : World) :
    Calls Tryz.prog 55 #[.agg #[.int .u8 4, .int .i64 us, .int .i64 c1, .int .i64 r1, .int .i64 c2, .int .i64 r2, str [], .int .u64 0, .int .u64 0, .int .u64 0, .int .u8 0, .int .u64 0, .int .i64 0]] w fun u w' => u = .returned (.agg #[.int .u8 4, .int .i64 us, .int .i64 c1, .int .i64 r1, .int .i64 c2, .int .i64 r2, str [], .int .u64 0, .int .u64 0, .int .u64 0, .int .u8 0, .int .u64 0, .int .i64 0]) ∧ Below w.heap.size w w' := by
  go_enter Tryz.func55, Tryz.ntmps55
  go_upto_region 5 with (fail)
  obtain ⟨V, hV⟩ : ∃ V, ((w.alloc (.cells #[.int .u8 4, .int .i64 us, .int .i64 c1, .int .i64 r1, .int .i64 c2, .int .i64 r2, str [], .int .u64 0, .int .u64 0, .int .u64 0, .int .u8 0, .int .u64 0, .int .i64 0] 48)).alloc (.cells #[.int .u8 0, .int .i64 0, .int .i64 0, .int .i64 0, .int .i64 0, .int .i64 0, str [], .int .u64 0, .int .u64 0, .int .u64 0, .int .u8 0, .int .u64 0, .int .i64 0] 48)).alloc (.cells #[.int .u8 4, .int .i64 us, .int .i64 0, .int .i64 0, .int .i64 0, .int .i64 0, str [], .int .u64 0, .int .u64 0, .int .u64 0, .int .u8 0, .int .u64 0, .int .i64 0] 48) = V := ⟨_, rfl⟩
  have BX := Lib.hid (show Blk V w.heap.size 48 #[.int .u8 4, .int .i64 us, .int .i64 c1, .int .i64 r1, .int .i64 c2, .int .i64 r2, str [], .int .u64 0, .int .u64 0, .int .u64 0, .int .u8 0, .int .u64 0, .int .i64 0] from hV ▸ ((Blk.new w 48 #[.int .u8 4, .int .i64 us, .int .i64 c1, .int .i64 r1, .int .i64 c2, .int .i64 r2, str [], .int .u64 0, .int .u64 0, .int .u64 0, .int .u8 0, .int .u64 0, .int .i64 0]).alloc _).alloc _)
  have BZ := Lib.hid (show Blk V (w.heap.size + 1) 48 #[.int .u8 0, .int .i64 0, .int .i64 0, .int .i64 0, .int .i64 0, .int .i64 0, str [], .int .u64 0, .int .u64 0, .int .u64 0, .int .u8 0, .int .u64 0, .int .i64 0] from hV ▸ (by have h := (Blk.new (w.alloc (.cells #[.int .u8 4, .int .i64 us, .int .i64 c1, .int .i64 r1, .int .i64 c2, .int .i64 r2, str [], .int .u64 0, .int .u64 0, .int .u64 0, .int .u8 0, .int .u64 0, .int .i64 0] 48)) 48 #[.int .u8 0, .int .i64 0, .int .i64 0, .int .i64 0, .int .i64 0, .int .i64 0, str [], .int .u64 0, .int .u64 0, .int .u64 0, .int .u8 0, .int .u64 0, .int .i64 0]).alloc (.cells #[.int .u8 4, .int .i64 us, .int .i64 0, .int .i64 0, .int .i64 0, .int .i64 0, str [], .int .u64 0, .int .u64 0, .int .u64 0, .int .u8 0, .int .u64 0, .int .i64 0] 48); simpa using h))
  have BK := Lib.hid (show Blk V (w.heap.size + 1 + 1) 48 #[.int .u8 4, .int .i64 us, .int .i64 0, .int .i64 0, .int .i64 0, .int .i64 0, str [], .int .u64 0, .int .u64 0, .int .u64 0, .int .u8 0, .int .u64 0, .int .i64 0] from hV ▸ (by have h := Blk.new ((w.alloc (.cells #[.int .u8 4, .int .i64 us, .int .i64 c1, .int .i64 r1, .int .i64 c2, .int .i64 r2, str [], .int .u64 0, .int .u64 0, .int .u64 0, .int .u8 0, .int .u64 0, .int .i64 0] 48)).alloc (.cells #[.int .u8 0, .int .i64 0, .int .i64 0, .int .i64 0, .int .i64 0, .int .i64 0, str [], .int .u64 0, .int .u64 0, .int .u64 0, .int .u8 0, .int .u64 0, .int .i64 0] 48)) 48 #[.int .u8 4, .int .i64 us, .int .i64 0, .int .i64 0, .int .i64 0, .int .i64 0, str [], .int .u64 0, .int .u64 0, .int .u64 0, .int .u8 0, .int .u64 0, .int .i64 0]; simpa using h))
  have HB := Lib.hid (show Below w.heap.size w V from hV ▸ (by go_grown))
  rw [hV]
  clear hV
  have x0 := BX.out.cell 0
  have x1 := BX.out.cell 1
  have x2 := BX.out.cell 2
  have x3 := BX.out.cell 3
  have x4 := BX.out.cell 4
  have x5 := BX.out.cell 5
  have x6 := BX.out.cell 6
  have x7 := BX.out.cell 7
  have x8 := BX.out.cell 8
  have x9 := BX.out.cell 9
  have x10 := BX.out.cell 10
  have x11 := BX.out.cell 11
  have x12 := BX.out.cell 12
  have hlx := BX.out.lt
  go_wp2_with fail
  refine (target_4 us c1 r1 c2 r2 _).mono ?_
  rintro u w1 ⟨rfl, hb1⟩
  clear x0 x1 x2 x3 x4 x5 x6 x7 x8 x9 x10 x11 x12 hlx
  have BX1 := Lib.hid (BX.out.below_ hb1)
  have BZ1 := Lib.hid (BZ.out.below_ hb1)
  have BK1 := Lib.hid (BK.out.below_ hb1)
  have HB1 := Lib.hid (Below.next HB.out hb1 HB.out.size)
  clear BX BZ BK HB hb1
  have k0 := BK1.out.cell 0
  have k1 := BK1.out.cell 1
  have k2 := BK1.out.cell 2
  have k3 := BK1.out.cell 3
  have k4 := BK1.out.cell 4
  have k5 := BK1.out.cell 5
  have k6 := BK1.out.cell 6
  have k7 := BK1.out.cell 7
  have k8 := BK1.out.cell 8
  have k9 := BK1.out.cell 9
  have k10 := BK1.out.cell 10
  have k11 := BK1.out.cell 11
  have k12 := BK1.out.cell 12
  have kf := fun o => BK1.out.frozen o
  have hlk := BK1.out.lt
  go_upto_region 6 with (fail)
  obtain ⟨w2, hV⟩ : ∃ V, (((w1.setCell ⟨w.heap.size + 1 + 1, 2, none⟩ (.int .i64 c1)).setCell ⟨w.heap.size + 1 + 1, 3, none⟩ (.int .i64 r1)).setCell ⟨w.heap.size + 1 + 1, 4, none⟩ (.int .i64 c2)).setCell ⟨w.heap.size + 1 + 1, 5, none⟩ (.int .i64 r2) = V := ⟨_, rfl⟩
  have BK2 := Lib.hid (hV ▸ ((((BK1.out.set_ 2 (.int .i64 c1)).set_ 3 (.int .i64 r1)).set_ 4 (.int .i64 c2)).set_ 5 (.int .i64 r2)))
  have BX2 := Lib.hid (hV ▸ (Blk.far (p := ⟨w.heap.size + 1 + 1, 5, none⟩) (Blk.far (p := ⟨w.heap.size + 1 + 1, 4, none⟩) (Blk.far (p := ⟨w.heap.size + 1 + 1, 3, none⟩) (Blk.far (p := ⟨w.heap.size + 1 + 1, 2, none⟩) BX1.out (by show w.heap.size ≠ w.heap.size + 1 + 1; omega) (.int .i64 c1)) (by show w.heap.size ≠ w.heap.size + 1 + 1; omega) (.int .i64 r1)) (by show w.heap.size ≠ w.heap.size + 1 + 1; omega) (.int .i64 c2)) (by show w.heap.size ≠ w.heap.size + 1 + 1; omega) (.int .i64 r2)))
  have BZ2 := Lib.hid (hV ▸ (Blk.far (p := ⟨w.heap.size + 1 + 1, 5, none⟩) (Blk.far (p := ⟨w.heap.size + 1 + 1, 4, none⟩) (Blk.far (p := ⟨w.heap.size + 1 + 1, 3, none⟩) (Blk.far (p := ⟨w.heap.size + 1 + 1, 2, none⟩) BZ1.out (by show w.heap.size + 1 ≠ w.heap.size + 1 + 1; omega) (.int .i64 c1)) (by show w.heap.size + 1 ≠ w.heap.size + 1 + 1; omega) (.int .i64 r1)) (by show w.heap.size + 1 ≠ w.heap.size + 1 + 1; omega) (.int .i64 c2)) (by show w.heap.size + 1 ≠ w.heap.size + 1 + 1; omega) (.int .i64 r2)))
  have HB2 := Lib.hid (hV ▸ ((((HB1.out.setCell (p := ⟨w.heap.size + 1 + 1, 2, none⟩) (by show w.heap.size ≤ w.heap.size + 1 + 1; omega) (.int .i64 c1)).setCell (p := ⟨w.heap.size + 1 + 1, 3, none⟩) (by show w.heap.size ≤ w.heap.size + 1 + 1; omega) (.int .i64 r1)).setCell (p := ⟨w.heap.size + 1 + 1, 4, none⟩) (by show w.heap.size ≤ w.heap.size + 1 + 1; omega) (.int .i64 c2)).setCell (p := ⟨w.heap.size + 1 + 1, 5, none⟩) (by show w.heap.size ≤ w.heap.size + 1 + 1; omega) (.int .i64 r2)))
  rw [hV]
  clear hV BK1 BX1 BZ1 HB1 kf hlk k0 k1 k2 k3 k4 k5 k6 k7 k8 k9 k10 k11 k12
  have k0 := BK2.out.cell 0
  have k1 := BK2.out.cell 1
  have k2 := BK2.out.cell 2
  have k3 := BK2.out.cell 3
  have k4 := BK2.out.cell 4
  have k5 := BK2.out.cell 5
  have k6 := BK2.out.cell 6
  have k7 := BK2.out.cell 7
  have k8 := BK2.out.cell 8
  have k9 := BK2.out.cell 9
  have k10 := BK2.out.cell 10
  have k11 := BK2.out.cell 11
  have k12 := BK2.out.cell 12
  have z0 := BZ2.out.cell 0
  have z1 := BZ2.out.cell 1
  have z2 := BZ2.out.cell 2
  have z3 := BZ2.out.cell 3
  have z4 := BZ2.out.cell 4
  have z5 := BZ2.out.cell 5
  have z6 := BZ2.out.cell 6
  have z7 := BZ2.out.cell 7
  have z8 := BZ2.out.cell 8
  have z9 := BZ2.out.cell 9
  have z10 := BZ2.out.cell 10
  have z11 := BZ2.out.cell 11
  have z12 := BZ2.out.cell 12
  have zf := fun o => BZ2.out.frozen o
  have hlz := BZ2.out.lt
  have x0 := BX2.out.cell 0
  have hlk := BK2.out.lt
  have hlx := BX2.out.lt
  have ZF := Lib.hid (((((((((((((BZ2.out.set_ 0 (.int .u8 4)).set_ 1 (.int .i64 us)).set_ 2 (.int .i64 c1)).set_ 3 (.int .i64 r1)).set_ 4 (.int .i64 c2)).set_ 5 (.int .i64 r2)).set_ 6 (str [])).set_ 7 (.int .u64 0)).set_ 8 (.int .u64 0)).set_ 9 (.int .u64 0)).set_ 10 (.int .u8 0)).set_ 11 (.int .u64 0)).set_ 12 (.int .i64 0))
  have HF := Lib.hid (((((((((((((HB2.out.setCell (p := ⟨w.heap.size + 1, 0, none⟩) (by show w.heap.size ≤ w.heap.size + 1; omega) (.int .u8 4)).setCell (p := ⟨w.heap.size + 1, 1, none⟩) (by show w.heap.size ≤ w.heap.size + 1; omega) (.int .i64 us)).setCell (p := ⟨w.heap.size + 1, 2, none⟩) (by show w.heap.size ≤ w.heap.size + 1; omega) (.int .i64 c1)).setCell (p := ⟨w.heap.size + 1, 3, none⟩) (by show w.heap.size ≤ w.heap.size + 1; omega) (.int .i64 r1)).setCell (p := ⟨w.heap.size + 1, 4, none⟩) (by show w.heap.size ≤ w.heap.size + 1; omega) (.int .i64 c2)).setCell (p := ⟨w.heap.size + 1, 5, none⟩) (by show w.heap.size ≤ w.heap.size + 1; omega) (.int .i64 r2)).setCell (p := ⟨w.heap.size + 1, 6, none⟩) (by show w.heap.size ≤ w.heap.size + 1; omega) (str [])).setCell (p := ⟨w.heap.size + 1, 7, none⟩) (by show w.heap.size ≤ w.heap.size + 1; omega) (.int .u64 0)).setCell (p := ⟨w.heap.size + 1, 8, none⟩) (by show w.heap.size ≤ w.heap.size + 1; omega) (.int .u64 0)).setCell (p := ⟨w.heap.size + 1, 9, none⟩) (by show w.heap.size ≤ w.heap.size + 1; omega) (.int .u64 0)).setCell (p := ⟨w.heap.size + 1, 10, none⟩) (by show w.heap.size ≤ w.heap.size + 1; omega) (.int .u8 0)).setCell (p := ⟨w.heap.size + 1, 11, none⟩) (by show w.heap.size ≤ w.heap.size + 1; omega) (.int .u64 0)).setCell (p := ⟨w.heap.size + 1, 12, none⟩) (by show w.heap.size ≤ w.heap.size + 1; omega) (.int .i64 0))
  go_wp2
  have d0 := ZF.out.cell 0
  have d1 := ZF.out.cell 1
  have d2 := ZF.out.cell 2
  have d3 := ZF.out.cell 3
  have d4 := ZF.out.cell 4
  have d5 := ZF.out.cell 5
  have d6 := ZF.out.cell 6
  have d7 := ZF.out.cell 7
  have d8 := ZF.out.cell 8
  have d9 := ZF.out.cell 9
  have d10 := ZF.out.cell 10
  have d11 := ZF.out.cell 11
  have d12 := ZF.out.cell 12
  clear k0 k1 k2 k3 k4 k5 k6 k7 k8 k9 k10 k11 k12 z0 z1 z2 z3 z4 z5 z6 z7 z8 z9 z10 z11 z12 zf x0
  refine bodyPost_ret (v := .agg #[.int .u8 4, .int .i64 us, .int .i64 c1, .int .i64 r1, .int .i64 c2, .int .i64 r2, str [], .int .u64 0, .int .u64 0, .int .u64 0, .int .u8 0, .int .u64 0, .int .i64 0]) (by simp (maxDischargeDepth := 9) [results, Tryz.results55, go_sem, d0, d1, d2, d3, d4, d5, d6, d7, d8, d9, d10, d11, d12]) rfl ?_
  exact ⟨rfl, HF.out⟩
theorem opchk_4 (us c1 r1 c2 r2 : Int) (w : World) :
    Calls Tryz.prog 21 #[.agg #[.int .u8 4, .int .i64 us, .int .i64 c1, .int .i64 r1, .int .i64 c2, .int .i64 r2, str [], .int .u64 0, .int .u64 0, .int .u64 0, .int .u8 0, .int .u64 0, .int .i64 0]] w fun u w' => u = .returned (.int .i64 0) ∧ Below w.heap.size w w' := by
  have hne : ∀ W : World, (binOp .neq 48 (.agg #[.int .u8 4, .int .i64 us, .int .i64 c1, .int .i64 r1, .int .i64 c2, .int .i64 r2, str [], .int .u64 0, .int .u64 0, .int .u64 0, .int .u8 0, .int .u64 0, .int .i64 0]) (.agg #[.int .u8 4, .int .i64 us, .int .i64 c1, .int .i64 r1, .int .i64 c2, .int .i64 r2, str [], .int .u64 0, .int .u64 0, .int .u64 0, .int .u8 0, .int .u64 0, .int .i64 0])).run Tryz.prog W = .ok (.bool false) W := fun W => neq_same ⟨4, us, ⟨c1, r1, c2, r2⟩, [], ⟨0, 0, 0⟩, 0, 0, 0⟩ W
  have HC := Lib.hid (plain_4 us c1 r1 c2 r2)
  go_enter Tryz.func21, Tryz.ntmps21
  go_upto_region 1 with (fail)
  refine wp_region_noPanic ?_
  refine wp_region_held_drew (S := fun W : World => Blk W w.heap.size 48 #[.int .u8 4, .int .i64 us, .int .i64 c1, .int .i64 r1, .int .i64 c2, .int .i64 r2, str [], .int .u64 0, .int .u64 0, .int .u64 0, .int .u8 0, .int .u64 0, .int .i64 0] ∧ Below w.heap.size w W) (by kernel_rfl) ⟨Blk.new w _ _, by go_grown⟩ (fun hHeld => ?_)
  refine wpAnyH_take (i := 0) (oi := ⟨some 4, .fieldAddr 48 (.tmp 1) 0, _, _, _, none⟩) (v := .pointer (some ⟨w.heap.size, 0, none⟩)) rfl (by kernel_rfl) (by kernel_rfl) (by kernel_rfl) (fun c d e h => NoPanic.put h) (Or.inl ⟨by rfl, by intro W hW; go_simp⟩) hHeld ?_
  try simp only [Act.put, List.setIfInBounds_toArray, List.set_cons_zero, List.set_cons_succ]
  refine wpAnyH_take (i := 1) (oi := ⟨some 5, .load 5 (.tmp 4), 5, _, _, none⟩) (v := .int .u8 4) rfl (by kernel_rfl) (by kernel_rfl) (by kernel_rfl) (fun c d e h => NoPanic.put h) (Or.inl ⟨by rfl, by intro W hW; have hc : W.cell? ⟨w.heap.size, 0, none⟩ = some (.int .u8 4) := hW.1.cell 0; go_simp⟩) hHeld ?_
  try simp only [Act.put, List.setIfInBounds_toArray, List.set_cons_zero, List.set_cons_succ]
  refine wpAnyH_take (i := 2) (oi := ⟨some 6, .binOp .lss 5 (.tmp 5) (.const (.int .u8 1)) 5, _, _, _, none⟩) (v := .bool false) rfl (by kernel_rfl) (by kernel_rfl) (by kernel_rfl) (fun c d e h => NoPanic.put h) (Or.inl ⟨by rfl, by intro W hW; go_simp⟩) hHeld ?_
  try simp only [Act.put, List.setIfInBounds_toArray, List.set_cons_zero, List.set_cons_succ]
  refine wpAnyH_take (i := 3) (oi := ⟨some 7, .move (.tmp 6), _, _, _, none⟩) (v := .bool false) rfl (by kernel_rfl) (by kernel_rfl) (by kernel_rfl) (fun c d e h => NoPanic.put h) (Or.inl ⟨by rfl, by intro W hW; go_simp⟩) hHeld ?_
  try simp only [Act.put, List.setIfInBounds_toArray, List.set_cons_zero, List.set_cons_succ]
  refine wpAnyH_take (i := 4) (oi := ⟨some 8, .fieldAddr 48 (.tmp 1) 0, _, _, _, some (3, false)⟩) (v := .pointer (some ⟨w.heap.size, 0, none⟩)) rfl (by kernel_rfl) (by kernel_rfl) (by kernel_rfl) (fun c d e h => NoPanic.put h) (Or.inl ⟨by rfl, by intro W hW; go_simp⟩) hHeld ?_
  try simp only [Act.put, List.setIfInBounds_toArray, List.set_cons_zero, List.set_cons_succ]
  refine wpAnyH_take (i := 5) (oi := ⟨some 9, .load 5 (.tmp 8), 5, _, _, some (3, false)⟩) (v := .int .u8 4) rfl (by kernel_rfl) (by kernel_rfl) (by kernel_rfl) (fun c d e h => NoPanic.put h) (Or.inl ⟨by rfl, by intro W hW; have hc : W.cell? ⟨w.heap.size, 0, none⟩ = some (.int .u8 4) := hW.1.cell 0; go_simp⟩) hHeld ?_
  try simp only [Act.put, List.setIfInBounds_toArray, List.set_cons_zero, List.set_cons_succ]
  refine wpAnyH_take (i := 6) (oi := ⟨some 10, .binOp .gtr 5 (.tmp 9) (.const (.int .u8 10)) 5, _, _, _, some (3, false)⟩) (v := .bool false) rfl (by kernel_rfl) (by kernel_rfl) (by kernel_rfl) (fun c d e h => NoPanic.put h) (Or.inl ⟨by rfl, by intro W hW; go_simp⟩) hHeld ?_
  try simp only [Act.put, List.setIfInBounds_toArray, List.set_cons_zero, List.set_cons_succ]
  refine wpAnyH_take (i := 7) (oi := ⟨some 11, .pick (.tmp 7) (.const (.bool true)) (.tmp 10), _, _, _, none⟩) (v := .bool false) rfl (by kernel_rfl) (by kernel_rfl) (by kernel_rfl) (fun c d e h => NoPanic.put h) (Or.inl ⟨by rfl, by intro W hW; go_simp⟩) hHeld ?_
  try simp only [Act.put, List.setIfInBounds_toArray, List.set_cons_zero, List.set_cons_succ]
  refine wpAnyH_take (i := 8) (oi := ⟨some 12, .move (.tmp 11), _, _, _, none⟩) (v := .bool false) rfl (by kernel_rfl) (by kernel_rfl) (by kernel_rfl) (fun c d e h => NoPanic.put h) (Or.inl ⟨by rfl, by intro W hW; go_simp⟩) hHeld ?_
  try simp only [Act.put, List.setIfInBounds_toArray, List.set_cons_zero, List.set_cons_succ]
  refine wpAnyH_take (i := 9) (oi := ⟨some 13, .load 48 (.tmp 1), 48, _, _, some (8, false)⟩) (v := .agg _) rfl (by kernel_rfl) (by kernel_rfl) (by kernel_rfl) (fun c d e h => NoPanic.put h) (yieldsIf_load_mid rfl _ _ rfl (w.heap.size) (0) rfl _ _ (fun W h => h.1.range (l := [.int .u8 4, .int .i64 us, .int .i64 c1, .int .i64 r1, .int .i64 c2, .int .i64 r2, str [], .int .u64 0, .int .u64 0, .int .u64 0, .int .u8 0, .int .u64 0, .int .i64 0]) (o := 0) (by intro j v hj; rw [Nat.zero_add]; exact List.getElem?_toArray.trans hj)) rfl rfl (by kernel_rfl)) hHeld ?_
  try simp only [Act.put, List.setIfInBounds_toArray, List.set_cons_zero, List.set_cons_succ]
  refine wpAnyH_take (i := 10) (oi := ⟨some 14, .load 48 (.tmp 1), 48, _, _, some (8, false)⟩) (v := .agg _) rfl (by kernel_rfl) (by kernel_rfl) (by kernel_rfl) (fun c d e h => NoPanic.put h) (yieldsIf_load_mid rfl _ _ rfl (w.heap.size) (0) rfl _ _ (fun W h => h.1.range (l := [.int .u8 4, .int .i64 us, .int .i64 c1, .int .i64 r1, .int .i64 c2, .int .i64 r2, str [], .int .u64 0, .int .u64 0, .int .u64 0, .int .u8 0, .int .u64 0, .int .i64 0]) (o := 0) (by intro j v hj; rw [Nat.zero_add]; exact List.getElem?_toArray.trans hj)) rfl rfl (by kernel_rfl)) hHeld ?_
  try simp only [Act.put, List.setIfInBounds_toArray, List.set_cons_zero, List.set_cons_succ]
  refine wpAnyH_ready (rs := [11]) (by kernel_rfl) (by simp) ?_
  refine AllReadyH.cons (o := ⟨some 15, .call { callee := .value (.func 55), args := #[.tmp 14], argTypes := #[48] }, _, _, _, some (8, false)⟩) rfl (fun K hK => ?_) AllReadyH.nil
  go_simp
  go_at_call 55
  refine (HC.out _).mono ?_
  rintro u w2 ⟨rfl, hb2⟩
  refine hK.out _ _ (⟨hHeld.1.below_ hb2, Below.next hHeld.2 hb2 hHeld.2.size⟩) (fun hHeld => ?_)
  clear hK K
  try simp only [Act.put, List.setIfInBounds_toArray, List.set_cons_zero, List.set_cons_succ]
  refine wpAnyH_take (i := 12) (oi := ⟨some 16, .binOp .neq 48 (.tmp 13) (.tmp 15) 48, _, _, _, some (8, false)⟩) (v := .bool false) rfl (by kernel_rfl) (by kernel_rfl) (by kernel_rfl) (fun c d e h => NoPanic.put h) (Or.inl ⟨by rfl, by intro W hW; go_simp⟩) hHeld ?_
  try simp only [Act.put, List.setIfInBounds_toArray, List.set_cons_zero, List.set_cons_succ]
  refine wpAnyH_take (i := 13) (oi := ⟨some 17, .pick (.tmp 12) (.const (.bool true)) (.tmp 16), _, _, _, none⟩) (v := .bool false) rfl (by kernel_rfl) (by kernel_rfl) (by kernel_rfl) (fun c d e h => NoPanic.put h) (Or.inl ⟨by rfl, by intro W hW; go_simp⟩) hHeld ?_
  try simp only [Act.put, List.setIfInBounds_toArray, List.set_cons_zero, List.set_cons_succ]
  refine wpAnyH_done (by kernel_rfl) ?_ _
  refine NoPanic.normal ?_
  have kw := hHeld.1
  have hbw := hHeld.2
  have hc0 : w2.cell? ⟨w.heap.size, 0, none⟩ = some (.int .u8 4) := kw.cell 0
  have hc1 : w2.cell? ⟨w.heap.size, 1, none⟩ = some (.int .i64 us) := kw.cell 1
  have hc2 : w2.cell? ⟨w.heap.size, 2, none⟩ = some (.int .i64 c1) := kw.cell 2
  have hc3 : w2.cell? ⟨w.heap.size, 3, none⟩ = some (.int .i64 r1) := kw.cell 3
  have hc4 : w2.cell? ⟨w.heap.size, 4, none⟩ = some (.int .i64 c2) := kw.cell 4
  have hc5 : w2.cell? ⟨w.heap.size, 5, none⟩ = some (.int .i64 r2) := kw.cell 5
  have hc6 : w2.cell? ⟨w.heap.size, 6, none⟩ = some (str []) := kw.cell 6
  have hc7 : w2.cell? ⟨w.heap.size, 7, none⟩ = some (.int .u64 0) := kw.cell 7
  have hc8 : w2.cell? ⟨w.heap.size, 8, none⟩ = some (.int .u64 0) := kw.cell 8
  have hc9 : w2.cell? ⟨w.heap.size, 9, none⟩ = some (.int .u64 0) := kw.cell 9
  have hc10 : w2.cell? ⟨w.heap.size, 10, none⟩ = some (.int .u8 0) := kw.cell 10
  have hc11 : w2.cell? ⟨w.heap.size, 11, none⟩ = some (.int .u64 0) := kw.cell 11
  have hc12 : w2.cell? ⟨w.heap.size, 12, none⟩ = some (.int .i64 0) := kw.cell 12
  have HBW := Lib.hid hbw
  have hlw := kw.lt
  clear kw hbw hHeld hb2
  go_wp2
  all_goals
    go_ret
    exact ⟨rfl, HBW.out⟩
theorem target_5 (us c1 r1 c2 r2 : Int) (w : World) :
    Calls Tryz.prog 22 #[.agg #[.int .u8 5, .int .i64 us, .int .i64 c1, .int .i64 r1, .int .i64 c2, .int .i64 r2, str [], .int .u64 0, .int .u64 0, .int .u64 0, .int .u8 0, .int .u64 0, .int .i64 0]] w fun u w' => u = .returned (.tuple #[.agg #[.int .i64 c1, .int .i64 r1, .int .i64 c2, .int .i64 r2], .bool true]) ∧ Below w.heap.size w w' := by
  go_enter Tryz.func22, Tryz.ntmps22
  go_wp2
  refine bodyPost_ret (v := .tuple #[.agg #[.int .i64 c1, .int .i64 r1, .int .i64 c2, .int .i64 r2], .bool true]) (by simp (maxDischargeDepth := 9) [results, Tryz.results22, go_sem]) rfl ?_
  exact ⟨rfl, by go_grown⟩
theorem plain_5 (us c1 r1 c2 r2 : Int) (w : World) :
    Calls Tryz.prog 55 #[.agg #[.int .u8 5, .int .i64 us, .int .i64 c1, .int .i64 r1, .int .i64 c2, .int .i64 r2, str [], .int .u64 0, .int .u64 0, .int .u64 0, .int .u8 0, .int .u64 0, .int .i64 0]] w fun u w' => u = .returned (.agg #[.int .u8 5, .int .i64 us, .int .i64 c1, .int .i64 r1, .int .i64 c2, .int .i64 r2, str [], .int .u64 0, .int .u64 0, .int .u64 0, .int .u8 0, .int .u64 0, .int .i64 0]) ∧ Below w.heap.size w w' := by
  go_enter Tryz.func55, Tryz.ntmps55
  go_upto_region 5 with (fail)
  obtain ⟨V, hV⟩ : ∃ V, ((w.alloc (.cells #[.int .u8 5, .int .i64 us, .int .i64 c1, .int .i64 r1, .int .i64 c2, .int .i64 r2, str [], .int .u64 0, .int .u64 0, .int .u64 0, .int .u8 0, .int .u64 0, .int .i64 0] 48)).alloc (.cells #[.int .u8 0, .int .i64 0, .int .i64 0, .int .i64 0, .int .i64 0, .int .i64 0, str [], .int .u64 0, .int .u64 0, .int .u64 0, .int .u8 0, .int .u64 0, .int .i64 0] 48)).alloc (.cells #[.int .u8 5, .int .i64 us, .int .i64 0, .int .i64 0, .int .i64 0, .int .i64 0, str [], .int .u64 0, .int .u64 0, .int .u64 0, .int .u8 0, .int .u64 0, .int .i64 0] 48) = V := ⟨_, rfl⟩
  have BX := Lib.hid (show Blk V w.heap.size 48 #[.int .u8 5, .int .i64 us, .int .i64 c1, .int .i64 r1, .int .i64 c2, .int .i64 r2, str [], .int .u64 0, .int .u64 0, .int .u64 0, .int .u8 0, .int .u64 0, .int .i64 0] from hV ▸ ((Blk.new w 48 #[.int .u8 5, .int .i64 us, .int .i64 c1, .int .i64 r1, .int .i64 c2, .int .i64 r2, str [], .int .u64 0, .int .u64 0, .int .u64 0, .int .u8 0, .int .u64 0, .int .i64 0]).alloc _).alloc _)
  have BZ := Lib.hid (show Blk V (w.heap.size + 1) 48 #[.int .u8 0, .int .i64 0, .int .i64 0, .int .i64 0, .int .i64 0, .int .i64 0, str [], .int .u64 0, .int .u64 0, .int .u64 0, .int .u8 0, .int .u64 0, .int .i64 0] from hV ▸ (by have h := (Blk.new (w.alloc (.cells #[.int .u8 5, .int .i64 us, .int .i64 c1, .int .i64 r1, .int .i64 c2, .int .i64 r2, str [], .int .u64 0, .int .u64 0, .int .u64 0, .int .u8 0, .int .u64 0, .int .i64 0] 48)) 48 #[.int .u8 0, .int .i64 0, .int .i64 0, .int .i64 0, .int .i64 0, .int .i64 0, str [], .int .u64 0, .int .u64 0, .int .u64 0, .int .u8 0, .int .u64 0, .int .i64 0]).alloc (.cells #[.int .u8 5, .int .i64 us, .int .i64 0, .int .i64 0, .int .i64 0, .int .i64 0, str [], .int .u64 0, .int .u64 0, .int .u64 0, .int .u8 0, .int .u64 0, .int .i64 0] 48); simpa using h))
  have BK := Lib.hid (show Blk V (w.heap.size + 1 + 1) 48 #[.int .u8 5, .int .i64 us, .int .i64 0, .int .i64 0, .int .i64 0, .int .i64 0, str [], .int .u64 0, .int .u64 0, .int .u64 0, .int .u8 0, .int .u64 0, .int .i64 0] from hV ▸ (by have h := Blk.new ((w.alloc (.cells #[.int .u8 5, .int .i64 us, .int .i64 c1, .int .i64 r1, .int .i64 c2, .int .i64 r2, str [], .int .u64 0, .int .u64 0, .int .u64 0, .int .u8 0, .int .u64 0, .int .i64 0] 48)).alloc (.cells #[.int .u8 0, .int .i64 0, .int .i64 0, .int .i64 0, .int .i64 0, .int .i64 0, str [], .int .u64 0, .int .u64 0, .int .u64 0, .int .u8 0, .int .u64 0, .int .i64 0] 48)) 48 #[.int .u8 5, .int .i64 us, .int .i64 0, .int .i64 0, .int .i64 0, .int .i64 0, str [], .int .u64 0, .int .u64 0, .int .u64 0, .int .u8 0, .int .u64 0, .int .i64 0]; simpa using h))
  have HB := Lib.hid (show Below w.heap.size w V from hV ▸ (by go_grown))
  rw [hV]
  clear hV
  have x0 := BX.out.cell 0
  have x1 := BX.out.cell 1
  have x2 := BX.out.cell 2
  have x3 := BX.out.cell 3
  have x4 := BX.out.cell 4
  have x5 := BX.out.cell 5
  have x6 := BX.out.cell 6
  have x7 := BX.out.cell 7
  have x8 := BX.out.cell 8
  have x9 := BX.out.cell 9
  have x10 := BX.out.cell 10
  have x11 := BX.out.cell 11
  have x12 := BX.out.cell 12
  have hlx := BX.out.lt
  go_wp2_with fail
  refine (target_5 us c1 r1 c2 r2 _).mono ?_
  rintro u w1 ⟨rfl, hb1⟩
  clear x0 x1 x2 x3 x4 x5 x6 x7 x8 x9 x10 x11 x12 hlx
  have BX1 := Lib.hid (BX.out.below_ hb1)
  have BZ1 := Lib.hid (BZ.out.below_ hb1)
  have BK1 := Lib.hid (BK.out.below_ hb1)
  have HB1 := Lib.hid (Below.next HB.out hb1 HB.out.size)
  clear BX BZ BK HB hb1
  have k0 := BK1.out.cell 0
  have k1 := BK1.out.cell 1
  have k2 := BK1.out.cell 2
  have k3 := BK1.out.cell 3
  have k4 := BK1.out.cell 4
  have k5 := BK1.out.cell 5
  have k6 := BK1.out.cell 6
  have k7 := BK1.out.cell 7
  have k8 := BK1.out.cell 8
  have k9 := BK1.out.cell 9
  have k10 := BK1.out.cell 10
  have k11 := BK1.out.cell 11
  have k12 := BK1.out.cell 12
  have kf := fun o => BK1.out.frozen o
  have hlk := BK1.out.lt
  go_upto_region 6 with (fail)
  obtain ⟨w2, hV⟩ : ∃ V, (((w1.setCell ⟨w.heap.size + 1 + 1, 2, none⟩ (.int .i64 c1)).setCell ⟨w.heap.size + 1 + 1, 3, none⟩ (.int .i64 r1)).setCell ⟨w.heap.size + 1 + 1, 4, none⟩ (.int .i64 c2)).setCell ⟨w.heap.size + 1 + 1, 5, none⟩ (.int .i64 r2) = V := ⟨_, rfl⟩
  have BK2 := Lib.hid (hV ▸ ((((BK1.out.set_ 2 (.int .i64 c1)).set_ 3 (.int .i64 r1)).set_ 4 (.int .i64 c2)).set_ 5 (.int .i64 r2)))
  have BX2 := Lib.hid (hV ▸ (Blk.far (p := ⟨w.heap.size + 1 + 1, 5, none⟩) (Blk.far (p := ⟨w.heap.size + 1 + 1, 4, none⟩) (Blk.far (p := ⟨w.heap.size + 1 + 1, 3, none⟩) (Blk.far (p := ⟨w.heap.size + 1 + 1, 2, none⟩) BX1.out (by show w.heap.size ≠ w.heap.size + 1 + 1; omega) (.int .i64 c1)) (by show w.heap.size ≠ w.heap.size + 1 + 1; omega) (.int .i64 r1)) (by show w.heap.size ≠ w.heap.size + 1 + 1; omega) (.int .i64 c2)) (by show w.heap.size ≠ w.heap.size + 1 + 1; omega) (.int .i64 r2)))
  have BZ2 := Lib.hid (hV ▸ (Blk.far (p := ⟨w.heap.size + 1 + 1, 5, none⟩) (Blk.far (p := ⟨w.heap.size + 1 + 1, 4, none⟩) (Blk.far (p := ⟨w.heap.size + 1 + 1, 3, none⟩) (Blk.far (p := ⟨w.heap.size + 1 + 1, 2, none⟩) BZ1.out (by show w.heap.size + 1 ≠ w.heap.size + 1 + 1; omega) (.int .i64 c1)) (by show w.heap.size + 1 ≠ w.heap.size + 1 + 1; omega) (.int .i64 r1)) (by show w.heap.size + 1 ≠ w.heap.size + 1 + 1; omega) (.int .i64 c2)) (by show w.heap.size + 1 ≠ w.heap.size + 1 + 1; omega) (.int .i64 r2)))
  have HB2 := Lib.hid (hV ▸ ((((HB1.out.setCell (p := ⟨w.heap.size + 1 + 1, 2, none⟩) (by show w.heap.size ≤ w.heap.size + 1 + 1; omega) (.int .i64 c1)).setCell (p := ⟨w.heap.size + 1 + 1, 3, none⟩) (by show w.heap.size ≤ w.heap.size + 1 + 1; omega) (.int .i64 r1)).setCell (p := ⟨w.heap.size + 1 + 1, 4, none⟩) (by show w.heap.size ≤ w.heap.size + 1 + 1; omega) (.int .i64 c2)).setCell (p := ⟨w.heap.size + 1 + 1, 5, none⟩) (by show w.heap.size ≤ w.heap.size + 1 + 1; omega) (.int .i64 r2)))
  rw [hV]
  clear hV BK1 BX1 BZ1 HB1 kf hlk k0 k1 k2 k3 k4 k5 k6 k7 k8 k9 k10 k11 k12
  have k0 := BK2.out.cell 0
  have k1 := BK2.out.cell 1
  have k2 := BK2.out.cell 2
  have k3 := BK2.out.cell 3
  have k4 := BK2.out.cell 4
  have k5 := BK2.out.cell 5
  have k6 := BK2.out.cell 6
  have k7 := BK2.out.cell 7
  have k8 := BK2.out.cell 8
  have k9 := BK2.out.cell 9
  have k10 := BK2.out.cell 10
  have k11 := BK2.out.cell 11
  have k12 := BK2.out.cell 12
  have z0 := BZ2.out.cell 0
  have z1 := BZ2.out.cell 1
  have z2 := BZ2.out.cell 2
  have z3 := BZ2.out.cell 3
  have z4 := BZ2.out.cell 4
  have z5 := BZ2.out.cell 5
  have z6 := BZ2.out.cell 6
  have z7 := BZ2.out.cell 7
  have z8 := BZ2.out.cell 8
  have z9 := BZ2.out.cell 9
  have z10 := BZ2.out.cell 10
  have z11 := BZ2.out.cell 11
  have z12 := BZ2.out.cell 12
  have zf := fun o => BZ2.out.frozen o
  have hlz := BZ2.out.lt
  have x0 := BX2.out.cell 0
  have hlk := BK2.out.lt
  have hlx := BX2.out.lt
  have ZF := Lib.hid (((((((((((((BZ2.out.set_ 0 (.int .u8 5)).set_ 1 (.int .i64 us)).set_ 2 (.int .i64 c1)).set_ 3 (.int .i64 r1)).set_ 4 (.int .i64 c2)).set_ 5 (.int .i64 r2)).set_ 6 (str [])).set_ 7 (.int .u64 0)).set_ 8 (.int .u64 0)).set_ 9 (.int .u64 0)).set_ 10 (.int .u8 0)).set_ 11 (.int .u64 0)).set_ 12 (.int .i64 0))
  have HF := Lib.hid (((((((((((((HB2.out.setCell (p := ⟨w.heap.size + 1, 0, none⟩) (by show w.heap.size ≤ w.heap.size + 1; omega) (.int .u8 5)).setCell (p := ⟨w.heap.size + 1, 1, none⟩) (by show w.heap.size ≤ w.heap.size + 1; omega) (.int .i64 us)).setCell (p := ⟨w.heap.size + 1, 2, none⟩) (by show w.heap.size ≤ w.heap.size + 1; omega) (.int .i64 c1)).setCell (p := ⟨w.heap.size + 1, 3, none⟩) (by show w.heap.size ≤ w.heap.size + 1; omega) (.int .i64 r1)).setCell (p := ⟨w.heap.size + 1, 4, none⟩) (by show w.heap.size ≤ w.heap.size + 1; omega) (.int .i64 c2)).setCell (p := ⟨w.heap.size + 1, 5, none⟩) (by show w.heap.size ≤ w.heap.size + 1; omega) (.int .i64 r2)).setCell (p := ⟨w.heap.size + 1, 6, none⟩) (by show w.heap.size ≤ w.heap.size + 1; omega) (str [])).setCell (p := ⟨w.heap.size + 1, 7, none⟩) (by show w.heap.size ≤ w.heap.size + 1; omega) (.int .u64 0)).setCell (p := ⟨w.heap.size + 1, 8, none⟩) (by show w.heap.size ≤ w.heap.size + 1; omega) (.int .u64 0)).setCell (p := ⟨w.heap.size + 1, 9, none⟩) (by show w.heap.size ≤ w.heap.size + 1; omega) (.int .u64 0)).setCell (p := ⟨w.heap.size + 1, 10, none⟩) (by show w.heap.size ≤ w.heap.size + 1; omega) (.int .u8 0)).setCell (p := ⟨w.heap.size + 1, 11, none⟩) (by show w.heap.size ≤ w.heap.size + 1; omega) (.int .u64 0)).setCell (p := ⟨w.heap.size + 1, 12, none⟩) (by show w.heap.size ≤ w.heap.size + 1; omega) (.int .i64 0))
  go_wp2
  have d0 := ZF.out.cell 0
  have d1 := ZF.out.cell 1
  have d2 := ZF.out.cell 2
  have d3 := ZF.out.cell 3
  have d4 := ZF.out.cell 4
  have d5 := ZF.out.cell 5
  have d6 := ZF.out.cell 6
  have d7 := ZF.out.cell 7
  have d8 := ZF.out.cell 8
  have d9 := ZF.out.cell 9
  have d10 := ZF.out.cell 10
  have d11 := ZF.out.cell 11
  have d12 := ZF.out.cell 12
  clear k0 k1 k2 k3 k4 k5 k6 k7 k8 k9 k10 k11 k12 z0 z1 z2 z3 z4 z5 z6 z7 z8 z9 z10 z11 z12 zf x0
  refine bodyPost_ret (v := .agg #[.int .u8 5, .int .i64 us, .int .i64 c1, .int .i64 r1, .int .i64 c2, .int .i64 r2, str [], .int .u64 0, .int .u64 0, .int .u64 0, .int .u8 0, .int .u64 0, .int .i64 0]) (by simp (maxDischargeDepth := 9) [results, Tryz.results55, go_sem, d0, d1, d2, d3, d4, d5, d6, d7, d8, d9, d10, d11, d12]) rfl ?_
  exact ⟨rfl, HF.out⟩
theorem opchk_5 (us c1 r1 c2 r2 : Int) (w : World) :
    Calls Tryz.prog 21 #[.agg #[.int .u8 5, .int .i64 us, .int .i64 c1, .int .i64 r1, .int .i64 c2, .int .i64 r2, str [], .int .u64 0, .int .u64 0, .int .u64 0, .int .u8 0, .int .u64 0, .int .i64 0]] w fun u w' => u = .returned (.int .i64 0) ∧ Below w.heap.size w w' := by
  have hne : ∀ W : World, (binOp .neq 48 (.agg #[.int .u8 5, .int .i64 us, .int .i64 c1, .int .i64 r1, .int .i64 c2, .int .i64 r2, str [], .int .u64 0, .int .u64 0, .int .u64 0, .int .u8 0, .int .u64 0, .int .i64 0]) (.agg #[.int .u8 5, .int .i64 us, .int .i64 c1, .int .i64 r1, .int .i64 c2, .int .i64 r2, str [], .int .u64 0, .int .u64 0, .int .u64 0, .int .u8 0, .int .u64 0, .int .i64 0])).run Tryz.prog W = .ok (.bool false) W := fun W => neq_same ⟨5, us, ⟨c1, r1, c2, r2⟩, [], ⟨0, 0, 0⟩, 0, 0, 0⟩ W
  have HC := Lib.hid (plain_5 us c1 r1 c2 r2)
  go_enter Tryz.func21, Tryz.ntmps21
  go_upto_region 1 with (fail)
  refine wp_region_noPanic ?_
  refine wp_region_held_drew (S := fun W : World => Blk W w.heap.size 48 #[.int .u8 5, .int .i64 us, .int .i64 c1, .int .i64 r1, .int .i64 c2, .int .i64 r2, str [], .int .u64 0, .int .u64 0, .int .u64 0, .int .u8 0, .int .u64 0, .int .i64 0] ∧ Below w.heap.size w W) (by kernel_rfl) ⟨Blk.new w _ _, by go_grown⟩ (fun hHeld => ?_)
  refine wpAnyH_take (i := 0) (oi := ⟨some 4, .fieldAddr 48 (.tmp 1) 0, _, _, _, none⟩) (v := .pointer (some ⟨w.heap.size, 0, none⟩)) rfl (by kernel_rfl) (by kernel_rfl) (by kernel_rfl) (fun c d e h => NoPanic.put h) (Or.inl ⟨by rfl, by intro W hW; go_simp⟩) hHeld ?_
  try simp only [Act.put, List.setIfInBounds_toArray, List.set_cons_zero, List.set_cons_succ]
  refine wpAnyH_take (i := 1) (oi := ⟨some 5, .load 5 (.tmp 4), 5, _, _, none⟩) (v := .int .u8 5) rfl (by kernel_rfl) (by kernel_rfl) (by kernel_rfl) (fun c d e h => NoPanic.put h) (Or.inl ⟨by rfl, by intro W hW; have hc : W.cell? ⟨w.heap.size, 0, none⟩ = some (.int .u8 5) := hW.1.cell 0; go_simp⟩) hHeld ?_
  try simp only [Act.put, List.setIfInBounds_toArray, List.set_cons_zero, List.set_cons_succ]
  refine wpAnyH_take (i := 2) (oi := ⟨some 6, .binOp .lss 5 (.tmp 5) (.const (.int .u8 1)) 5, _, _, _, none⟩) (v := .bool false) rfl (by kernel_rfl) (by kernel_rfl) (by kernel_rfl) (fun c d e h => NoPanic.put h) (Or.inl ⟨by rfl, by intro W hW; go_simp⟩) hHeld ?_
  try simp only [Act.put, List.setIfInBounds_toArray, List.set_cons_zero, List.set_cons_succ]
  refine wpAnyH_take (i := 3) (oi := ⟨some 7, .move (.tmp 6), _, _, _, none⟩) (v := .bool false) rfl (by kernel_rfl) (by kernel_rfl) (by kernel_rfl) (fun c d e h => NoPanic.put h) (Or.inl ⟨by rfl, by intro W hW; go_simp⟩) hHeld ?_
  try simp only [Act.put, List.setIfInBounds_toArray, List.set_cons_zero, List.set_cons_succ]
  refine wpAnyH_take (i := 4) (oi := ⟨some 8, .fieldAddr 48 (.tmp 1) 0, _, _, _, some (3, false)⟩) (v := .pointer (some ⟨w.heap.size, 0, none⟩)) rfl (by kernel_rfl) (by kernel_rfl) (by kernel_rfl) (fun c d e h => NoPanic.put h) (Or.inl ⟨by rfl, by intro W hW; go_simp⟩) hHeld ?_
  try simp only [Act.put, List.setIfInBounds_toArray, List.set_cons_zero, List.set_cons_succ]
  refine wpAnyH_take (i := 5) (oi := ⟨some 9, .load 5 (.tmp 8), 5, _, _, some (3, false)⟩) (v := .int .u8 5) rfl (by kernel_rfl) (by kernel_rfl) (by kernel_rfl) (fun c d e h => NoPanic.put h) (Or.inl ⟨by rfl, by intro W hW; have hc : W.cell? ⟨w.heap.size, 0, none⟩ = some (.int .u8 5) := hW.1.cell 0; go_simp⟩) hHeld ?_
  try simp only [Act.put, List.setIfInBounds_toArray, List.set_cons_zero, List.set_cons_succ]
  refine wpAnyH_take (i := 6) (oi := ⟨some 10, .binOp .gtr 5 (.tmp 9) (.const (.int .u8 10)) 5, _, _, _, some (3, false)⟩) (v := .bool false) rfl (by kernel_rfl) (by kernel_rfl) (by kernel_rfl) (fun c d e h => NoPanic.put h) (Or.inl ⟨by rfl, by intro W hW; go_simp⟩) hHeld ?_
  try simp only [Act.put, List.setIfInBounds_toArray, List.set_cons_zero, List.set_cons_succ]
  refine wpAnyH_take (i := 7) (oi := ⟨some 11, .pick (.tmp 7) (.const (.bool true)) (.tmp 10), _, _, _, none⟩) (v := .bool false) rfl (by kernel_rfl) (by kernel_rfl) (by kernel_rfl) (fun c d e h => NoPanic.put h) (Or.inl ⟨by rfl, by intro W hW; go_simp⟩) hHeld ?_
  try simp only [Act.put, List.setIfInBounds_toArray, List.set_cons_zero, List.set_cons_succ]
  refine wpAnyH_take (i := 8) (oi := ⟨some 12, .move (.tmp 11), _, _, _, none⟩) (v := .bool false) rfl (by kernel_rfl) (by kernel_rfl) (by kernel_rfl) (fun c d e h => NoPanic.put h) (Or.inl ⟨by rfl, by intro W hW; go_simp⟩) hHeld ?_
  try simp only [Act.put, List.setIfInBounds_toArray, List.set_cons_zero, List.set_cons_succ]
  refine wpAnyH_take (i := 9) (oi := ⟨some 13, .load 48 (.tmp 1), 48, _, _, some (8, false)⟩) (v := .agg _) rfl (by kernel_rfl) (by kernel_rfl) (by kernel_rfl) (fun c d e h => NoPanic.put h) (yieldsIf_load_mid rfl _ _ rfl (w.heap.size) (0) rfl _ _ (fun W h => h.1.range (l := [.int .u8 5, .int .i64 us, .int .i64 c1, .int .i64 r1, .int .i64 c2, .int .i64 r2, str [], .int .u64 0, .int .u64 0, .int .u64 0, .int .u8 0, .int .u64 0, .int .i64 0]) (o := 0) (by intro j v hj; rw [Nat.zero_add]; exact List.getElem?_toArray.trans hj)) rfl rfl (by kernel_rfl)) hHeld ?_
  try simp only [Act.put, List.setIfInBounds_toArray, List.set_cons_zero, List.set_cons_succ]
  refine wpAnyH_take (i := 10) (oi := ⟨some 14, .load 48 (.tmp 1), 48, _, _, some (8, false)⟩) (v := .agg _) rfl (by kernel_rfl) (by kernel_rfl) (by kernel_rfl) (fun c d e h => NoPanic.put h) (yieldsIf_load_mid rfl _ _ rfl (w.heap.size) (0) rfl _ _ (fun W h => h.1.range (l := [.int .u8 5, .int .i64 us, .int .i64 c1, .int .i64 r1, .int .i64 c2, .int .i64 r2, str [], .int .u64 0, .int .u64 0, .int .u64 0, .int .u8 0, .int .u64 0, .int .i64 0]) (o := 0) (by intro j v hj; rw [Nat.zero_add]; exact List.getElem?_toArray.trans hj)) rfl rfl (by kernel_rfl)) hHeld ?_
  try simp only [Act.put, List.setIfInBounds_toArray, List.set_cons_zero, List.set_cons_succ]
  refine wpAnyH_ready (rs := [11]) (by kernel_rfl) (by simp) ?_
  refine AllReadyH.cons (o := ⟨some 15, .call { callee := .value (.func 55), args := #[.tmp 14], argTypes := #[48] }, _, _, _, some (8, false)⟩) rfl (fun K hK => ?_) AllReadyH.nil
  go_simp
  go_at_call 55
  refine (HC.out _).mono ?_
  rintro u w2 ⟨rfl, hb2⟩
  refine hK.out _ _ (⟨hHeld.1.below_ hb2, Below.next hHeld.2 hb2 hHeld.2.size⟩) (fun hHeld => ?_)
  clear hK K
  try simp only [Act.put, List.setIfInBounds_toArray, List.set_cons_zero, List.set_cons_succ]
  refine wpAnyH_take (i := 12) (oi := ⟨some 16, .binOp .neq 48 (.tmp 13) (.tmp 15) 48, _, _, _, some (8, false)⟩) (v := .bool false) rfl (by kernel_rfl) (by kernel_rfl) (by kernel_rfl) (fun c d e h => NoPanic.put h) (Or.inl ⟨by rfl, by intro W hW; go_simp⟩) hHeld ?_
  try simp only [Act.put, List.setIfInBounds_toArray, List.set_cons_zero, List.set_cons_succ]
  refine wpAnyH_take (i := 13) (oi := ⟨some 17, .pick (.tmp 12) (.const (.bool true)) (.tmp 16), _, _, _, none⟩) (v := .bool false) rfl (by kernel_rfl) (by kernel_rfl) (by kernel_rfl) (fun c d e h => NoPanic.put h) (Or.inl ⟨by rfl, by intro W hW; go_simp⟩) hHeld ?_
  try simp only [Act.put, List.setIfInBounds_toArray, List.set_cons_zero, List.set_cons_succ]
  refine wpAnyH_done (by kernel_rfl) ?_ _
  refine NoPanic.normal ?_
  have kw := hHeld.1
  have hbw := hHeld.2
  have hc0 : w2.cell? ⟨w.heap.size, 0, none⟩ = some (.int .u8 5) := kw.cell 0
  have hc1 : w2.cell? ⟨w.heap.size, 1, none⟩ = some (.int .i64 us) := kw.cell 1
  have hc2 : w2.cell? ⟨w.heap.size, 2, none⟩ = some (.int .i64 c1) := kw.cell 2
  have hc3 : w2.cell? ⟨w.heap.size, 3, none⟩ = some (.int .i64 r1) := kw.cell 3
  have hc4 : w2.cell? ⟨w.heap.size, 4, none⟩ = some (.int .i64 c2) := kw.cell 4
  have hc5 : w2.cell? ⟨w.heap.size, 5, none⟩ = some (.int .i64 r2) := kw.cell 5
  have hc6 : w2.cell? ⟨w.heap.size, 6, none⟩ = some (str []) := kw.cell 6
  have hc7 : w2.cell? ⟨w.heap.size, 7, none⟩ = some (.int .u64 0) := kw.cell 7
  have hc8 : w2.cell? ⟨w.heap.size, 8, none⟩ = some (.int .u64 0) := kw.cell 8
  have hc9 : w2.cell? ⟨w.heap.size, 9, none⟩ = some (.int .u64 0) := kw.cell 9
  have hc10 : w2.cell? ⟨w.heap.size, 10, none⟩ = some (.int .u8 0) := kw.cell 10
  have hc11 : w2.cell? ⟨w.heap.size, 11, none⟩ = some (.int .u64 0) := kw.cell 11
  have hc12 : w2.cell? ⟨w.heap.size, 12, none⟩ = some (.int .i64 0) := kw.cell 12
  have HBW := Lib.hid hbw
  have hlw := kw.lt
  clear kw hbw hHeld hb2
  go_wp2
  all_goals
    go_ret
    exact ⟨rfl, HBW.out⟩
end Go.Proofs.YtamcgggmfghljaaGreatDoor
