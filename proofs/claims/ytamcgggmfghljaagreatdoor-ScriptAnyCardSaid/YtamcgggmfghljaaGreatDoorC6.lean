/- Layer 41 (program): an operation (printed by tools/gen_oper.py). -/
import Derived.Test.YtamcgggmfghljaaGreatDoorC5
set_option maxRecDepth 100000
set_option maxHeartbeats 8000000
namespace Go.Proofs.YtamcgggmfghljaaGreatDoor
open Go.RowKit
theorem oper_1 (g : Nat) (s : Bytes) (u : Nat) (w : World) (_hu : (u : Int) ≤ 4) (hu0 : (0 : Int) < (u : Int)) (h1 : (take 10 s).1 = 0) (k0 : Blk w g 74 #[str s]) :
    Calls Tryz.prog 42 #[.pointer (some ⟨g, 0, none⟩), .int .i64 u] w fun e w' => e = .returned (.agg (cOpr (oper u s).1).toArray) ∧ Blk w' g 74 #[str (oper u s).2] ∧ Chg (fun k => k = g) w w' := by
  have HX := Lib.hid (show oper u s = (⟨1, (take u (take 10 s).2).1, ⟨0, 0, 0, 0⟩, [], ⟨0, 0, 0⟩, 0, 0, 0⟩, (take u (take 10 s).2).2) by simp [oper, h1])
  have hg := k0.lt
  have K0 := Lib.hid k0
  have H1 := Lib.hid h1
  clear k0 h1
  go_enter Tryz.func42, Tryz.ntmps42
  go_wp2_with fail
  refine (take_any g s 10 _ (by decide) (by have k0 := K0.out; exact (by repeat' (first | with_reducible exact k0 | with_reducible refine Blk.drew ?_ | with_reducible refine Blk.alloc ?_ _ | with_reducible refine Blk.far ?_ ?_ _ | (simp; done) | (simp; omega) | omega | exact k0)))).mono ?_
  rintro e w1 ⟨rfl, k1, hd1⟩
  have hz1 := hd1.size
  try simp at hz1
  have hD1 : Chg (fun k => k = g) w w1 := Chg.trans (by repeat' (first | with_reducible exact Chg.refl _ _ | with_reducible assumption | with_reducible refine Chg.alloc ?_ _ | with_reducible refine Chg.drew ?_ | with_reducible refine Chg.setCell ?_ (.inr ?_) _ | (simp; done) | (simp; omega) | omega)) (hd1.mono (fun k hk hs => hs))
  have hc1_0 : ∀ o, w1.cell? ⟨w.heap.size, o, none⟩ = _ := fun o => hd1.cell (p := ⟨w.heap.size, o, none⟩) (by first | (simp; done) | (simp; omega) | omega) (by first | omega | (simp; omega))
  have hf1_0 : ∀ o, w1.frozen? ⟨w.heap.size, o, none⟩ = _ := fun o => hd1.frozen (p := ⟨w.heap.size, o, none⟩) (by first | (simp; done) | (simp; omega) | omega) (by first | omega | (simp; omega))
  have hl1_0 : w.heap.size < w1.heap.size := by omega
  have hm1_0 : w.heap.size ≤ w1.heap.size := by omega
  rw [H1.out]
  go_wp2_with fail
  refine (take_any g _ u _ hu0 (by repeat' (first | with_reducible exact k1 | with_reducible refine Blk.drew ?_ | with_reducible refine Blk.alloc ?_ _ | with_reducible refine Blk.far ?_ ?_ _ | (simp; done) | (simp; omega) | omega | exact k1))).mono ?_
  rintro e w2 ⟨rfl, k2, hd2⟩
  have hz2 := hd2.size
  try simp at hz2
  have hD2 : Chg (fun k => k = g) w w2 := Chg.trans (by repeat' (first | with_reducible exact Chg.refl _ _ | with_reducible assumption | with_reducible refine Chg.alloc ?_ _ | with_reducible refine Chg.drew ?_ | with_reducible refine Chg.setCell ?_ (.inr ?_) _ | (simp; done) | (simp; omega) | omega)) (hd2.mono (fun k hk hs => hs))
  have hc2_0 : ∀ o, w2.cell? ⟨w.heap.size, o, none⟩ = _ := fun o => hd2.cell (p := ⟨w.heap.size, o, none⟩) (by first | (simp; done) | (simp; omega) | omega) (by first | omega | (simp; omega))
  have hf2_0 : ∀ o, w2.frozen? ⟨w.heap.size, o, none⟩ = _ := fun o => hd2.frozen (p := ⟨w.heap.size, o, none⟩) (by first | (simp; done) | (simp; omega) | omega) (by first | omega | (simp; omega))
  have hl2_0 : w.heap.size < w2.heap.size := by omega
  have hm2_0 : w.heap.size ≤ w2.heap.size := by omega
  have hc2_1 : ∀ o, w2.cell? ⟨w1.heap.size, o, none⟩ = _ := fun o => hd2.cell (p := ⟨w1.heap.size, o, none⟩) (by first | (simp; done) | (simp; omega) | omega) (by first | omega | (simp; omega))
  have hf2_1 : ∀ o, w2.frozen? ⟨w1.heap.size, o, none⟩ = _ := fun o => hd2.frozen (p := ⟨w1.heap.size, o, none⟩) (by first | (simp; done) | (simp; omega) | omega) (by first | omega | (simp; omega))
  have hl2_1 : w1.heap.size < w2.heap.size := by omega
  have hm2_1 : w1.heap.size ≤ w2.heap.size := by omega
  have ne1 : w.heap.size ≠ w1.heap.size := by omega
  have ne2 : w1.heap.size ≠ w.heap.size := by omega
  go_wp2
  refine bodyPost_ret (v := .agg #[.int .u8 1, .int .i64 (take u (take 10 s).2).1, .int .i64 0, .int .i64 0, .int .i64 0, .int .i64 0, str [], .int .u64 0, .int .u64 0, .int .u64 0, .int .u8 (0), .int .u64 0, .int .i64 0]) (by simp (maxDischargeDepth := 9) [results, Tryz.results42, go_sem, hc1_0, hl1_0, hc2_0]) rfl ?_
  exact ⟨by rw [HX.out]; rfl, by rw [HX.out]; exact (by repeat' (first | with_reducible exact k2 | with_reducible refine Blk.drew ?_ | with_reducible refine Blk.alloc ?_ _ | with_reducible refine Blk.far ?_ ?_ _ | (simp; done) | (simp; omega) | omega | exact k2)), (by repeat' (first | with_reducible exact Chg.refl _ _ | with_reducible assumption | with_reducible refine Chg.alloc ?_ _ | with_reducible refine Chg.drew ?_ | with_reducible refine Chg.setCell ?_ (.inr ?_) _ | (simp; done) | (simp; omega) | omega))⟩
theorem oper_2 (g : Nat) (s : Bytes) (u : Nat) (w : World) (_hu : (u : Int) ≤ 4) (hu0 : (0 : Int) < (u : Int)) (h1 : (take 10 s).1 = 1) (k0 : Blk w g 74 #[str s]) :
    Calls Tryz.prog 42 #[.pointer (some ⟨g, 0, none⟩), .int .i64 u] w fun e w' => e = .returned (.agg (cOpr (oper u s).1).toArray) ∧ Blk w' g 74 #[str (oper u s).2] ∧ Chg (fun k => k = g) w w' := by
  have HX := Lib.hid (show oper u s = (⟨2, (take u (take 10 s).2).1, ⟨0, 0, 0, 0⟩, [], ⟨0, 0, 0⟩, 0, 0, 0⟩, (take u (take 10 s).2).2) by simp [oper, h1])
  have hg := k0.lt
  have K0 := Lib.hid k0
  have H1 := Lib.hid h1
  clear k0 h1
  go_enter Tryz.func42, Tryz.ntmps42
  go_wp2_with fail
  refine (take_any g s 10 _ (by decide) (by have k0 := K0.out; exact (by repeat' (first | with_reducible exact k0 | with_reducible refine Blk.drew ?_ | with_reducible refine Blk.alloc ?_ _ | with_reducible refine Blk.far ?_ ?_ _ | (simp; done) | (simp; omega) | omega | exact k0)))).mono ?_
  rintro e w1 ⟨rfl, k1, hd1⟩
  have hz1 := hd1.size
  try simp at hz1
  have hD1 : Chg (fun k => k = g) w w1 := Chg.trans (by repeat' (first | with_reducible exact Chg.refl _ _ | with_reducible assumption | with_reducible refine Chg.alloc ?_ _ | with_reducible refine Chg.drew ?_ | with_reducible refine Chg.setCell ?_ (.inr ?_) _ | (simp; done) | (simp; omega) | omega)) (hd1.mono (fun k hk hs => hs))
  have hc1_0 : ∀ o, w1.cell? ⟨w.heap.size, o, none⟩ = _ := fun o => hd1.cell (p := ⟨w.heap.size, o, none⟩) (by first | (simp; done) | (simp; omega) | omega) (by first | omega | (simp; omega))
  have hf1_0 : ∀ o, w1.frozen? ⟨w.heap.size, o, none⟩ = _ := fun o => hd1.frozen (p := ⟨w.heap.size, o, none⟩) (by first | (simp; done) | (simp; omega) | omega) (by first | omega | (simp; omega))
  have hl1_0 : w.heap.size < w1.heap.size := by omega
  have hm1_0 : w.heap.size ≤ w1.heap.size := by omega
  rw [H1.out]
  go_wp2_with fail
  refine (take_any g _ u _ hu0 (by repeat' (first | with_reducible exact k1 | with_reducible refine Blk.drew ?_ | with_reducible refine Blk.alloc ?_ _ | with_reducible refine Blk.far ?_ ?_ _ | (simp; done) | (simp; omega) | omega | exact k1))).mono ?_
  rintro e w2 ⟨rfl, k2, hd2⟩
  have hz2 := hd2.size
  try simp at hz2
  have hD2 : Chg (fun k => k = g) w w2 := Chg.trans (by repeat' (first | with_reducible exact Chg.refl _ _ | with_reducible assumption | with_reducible refine Chg.alloc ?_ _ | with_reducible refine Chg.drew ?_ | with_reducible refine Chg.setCell ?_ (.inr ?_) _ | (simp; done) | (simp; omega) | omega)) (hd2.mono (fun k hk hs => hs))
  have hc2_0 : ∀ o, w2.cell? ⟨w.heap.size, o, none⟩ = _ := fun o => hd2.cell (p := ⟨w.heap.size, o, none⟩) (by first | (simp; done) | (simp; omega) | omega) (by first | omega | (simp; omega))
  have hf2_0 : ∀ o, w2.frozen? ⟨w.heap.size, o, none⟩ = _ := fun o => hd2.frozen (p := ⟨w.heap.size, o, none⟩) (by first | (simp; done) | (simp; omega) | omega) (by first | omega | (simp; omega))
  have hl2_0 : w.heap.size < w2.heap.size := by omega
  have hm2_0 : w.heap.size ≤ w2.heap.size := by omega
  have hc2_1 : ∀ o, w2.cell? ⟨w1.heap.size, o, none⟩ = _ := fun o => hd2.cell (p := ⟨w1.heap.size, o, none⟩) (by first | (simp; done) | (simp; omega) | omega) (by first | omega | (simp; omega))
  have hf2_1 : ∀ o, w2.frozen? ⟨w1.heap.size, o, none⟩ = _ := fun o => hd2.frozen (p := ⟨w1.heap.size, o, none⟩) (by first | (simp; done) | (simp; omega) | omega) (by first | omega | (simp; omega))
  have hl2_1 : w1.heap.size < w2.heap.size := by omega
  have hm2_1 : w1.heap.size ≤ w2.heap.size := by omega
  have ne1 : w.heap.size ≠ w1.heap.size := by omega
  have ne2 : w1.heap.size ≠ w.heap.size := by omega
  go_wp2
  refine bodyPost_ret (v := .agg #[.int .u8 2, .int .i64 (take u (take 10 s).2).1, .int .i64 0, .int .i64 0, .int .i64 0, .int .i64 0, str [], .int .u64 0, .int .u64 0, .int .u64 0, .int .u8 (0), .int .u64 0, .int .i64 0]) (by simp (maxDischargeDepth := 9) [results, Tryz.results42, go_sem, hc1_0, hl1_0, hc2_0]) rfl ?_
  exact ⟨by rw [HX.out]; rfl, by rw [HX.out]; exact (by repeat' (first | with_reducible exact k2 | with_reducible refine Blk.drew ?_ | with_reducible refine Blk.alloc ?_ _ | with_reducible refine Blk.far ?_ ?_ _ | (simp; done) | (simp; omega) | omega | exact k2)), (by repeat' (first | with_reducible exact Chg.refl _ _ | with_reducible assumption | with_reducible refine Chg.alloc ?_ _ | with_reducible refine Chg.drew ?_ | with_reducible refine Chg.setCell ?_ (.inr ?_) _ | (simp; done) | (simp; omega) | omega))⟩
theorem oper_3 (g : Nat) (s : Bytes) (u : Nat) (w : World) (_hu : (u : Int) ≤ 4) (hu0 : (0 : Int) < (u : Int)) (h1 : (take 10 s).1 = 2) (k0 : Blk w g 74 #[str s]) :
    Calls Tryz.prog 42 #[.pointer (some ⟨g, 0, none⟩), .int .i64 u] w fun e w' => e = .returned (.agg (cOpr (oper u s).1).toArray) ∧ Blk w' g 74 #[str (oper u s).2] ∧ Chg (fun k => k = g) w w' := by
  have HX := Lib.hid (show oper u s = (⟨3, (take u (take 10 s).2).1, ⟨(spot (take u (take 10 s).2).2).1.col, (spot (take u (take 10 s).2).2).1.row, (spot (take u (take 10 s).2).2).1.col, (spot (take u (take 10 s).2).2).1.row⟩, (content (spot (take u (take 10 s).2).2).2).1, ⟨0, 0, 0⟩, 0, 0, 0⟩, (content (spot (take u (take 10 s).2).2).2).2) by simp [oper, h1])
  have hg := k0.lt
  have K0 := Lib.hid k0
  have H1 := Lib.hid h1
  clear k0 h1
  go_enter Tryz.func42, Tryz.ntmps42
  go_wp2_with fail
  refine (take_any g s 10 _ (by decide) (by have k0 := K0.out; exact (by repeat' (first | with_reducible exact k0 | with_reducible refine Blk.drew ?_ | with_reducible refine Blk.alloc ?_ _ | with_reducible refine Blk.far ?_ ?_ _ | (simp; done) | (simp; omega) | omega | exact k0)))).mono ?_
  rintro e w1 ⟨rfl, k1, hd1⟩
  have hz1 := hd1.size
  try simp at hz1
  have hD1 : Chg (fun k => k = g) w w1 := Chg.trans (by repeat' (first | with_reducible exact Chg.refl _ _ | with_reducible assumption | with_reducible refine Chg.alloc ?_ _ | with_reducible refine Chg.drew ?_ | with_reducible refine Chg.setCell ?_ (.inr ?_) _ | (simp; done) | (simp; omega) | omega)) (hd1.mono (fun k hk hs => hs))
  have hc1_0 : ∀ o, w1.cell? ⟨w.heap.size, o, none⟩ = _ := fun o => hd1.cell (p := ⟨w.heap.size, o, none⟩) (by first | (simp; done) | (simp; omega) | omega) (by first | omega | (simp; omega))
  have hf1_0 : ∀ o, w1.frozen? ⟨w.heap.size, o, none⟩ = _ := fun o => hd1.frozen (p := ⟨w.heap.size, o, none⟩) (by first | (simp; done) | (simp; omega) | omega) (by first | omega | (simp; omega))
  have hl1_0 : w.heap.size < w1.heap.size := by omega
  have hm1_0 : w.heap.size ≤ w1.heap.size := by omega
  rw [H1.out]
  go_wp2_with fail
  refine (take_any g _ u _ hu0 (by repeat' (first | with_reducible exact k1 | with_reducible refine Blk.drew ?_ | with_reducible refine Blk.alloc ?_ _ | with_reducible refine Blk.far ?_ ?_ _ | (simp; done) | (simp; omega) | omega | exact k1))).mono ?_
  rintro e w2 ⟨rfl, k2, hd2⟩
  have hz2 := hd2.size
  try simp at hz2
  have hD2 : Chg (fun k => k = g) w w2 := Chg.trans (by repeat' (first | with_reducible exact Chg.refl _ _ | with_reducible assumption | with_reducible refine Chg.alloc ?_ _ | with_reducible refine Chg.drew ?_ | with_reducible refine Chg.setCell ?_ (.inr ?_) _ | (simp; done) | (simp; omega) | omega)) (hd2.mono (fun k hk hs => hs))
  have hc2_0 : ∀ o, w2.cell? ⟨w.heap.size, o, none⟩ = _ := fun o => hd2.cell (p := ⟨w.heap.size, o, none⟩) (by first | (simp; done) | (simp; omega) | omega) (by first | omega | (simp; omega))
  have hf2_0 : ∀ o, w2.frozen? ⟨w.heap.size, o, none⟩ = _ := fun o => hd2.frozen (p := ⟨w.heap.size, o, none⟩) (by first | (simp; done) | (simp; omega) | omega) (by first | omega | (simp; omega))
  have hl2_0 : w.heap.size < w2.heap.size := by omega
  have hm2_0 : w.heap.size ≤ w2.heap.size := by omega
  have hc2_1 : ∀ o, w2.cell? ⟨w1.heap.size, o, none⟩ = _ := fun o => hd2.cell (p := ⟨w1.heap.size, o, none⟩) (by first | (simp; done) | (simp; omega) | omega) (by first | omega | (simp; omega))
  have hf2_1 : ∀ o, w2.frozen? ⟨w1.heap.size, o, none⟩ = _ := fun o => hd2.frozen (p := ⟨w1.heap.size, o, none⟩) (by first | (simp; done) | (simp; omega) | omega) (by first | omega | (simp; omega))
  have hl2_1 : w1.heap.size < w2.heap.size := by omega
  have hm2_1 : w1.heap.size ≤ w2.heap.size := by omega
  have ne1 : w.heap.size ≠ w1.heap.size := by omega
  have ne2 : w1.heap.size ≠ w.heap.size := by omega
  go_wp2_with fail
  refine (spot_any g _ _ (by repeat' (first | with_reducible exact k2 | with_reducible refine Blk.drew ?_ | with_reducible refine Blk.alloc ?_ _ | with_reducible refine Blk.far ?_ ?_ _ | (simp; done) | (simp; omega) | omega | exact k2))).mono ?_
  rintro e w3 ⟨rfl, k3, hd3⟩
  have hz3 := hd3.size
  try simp at hz3
  have hD3 : Chg (fun k => k = g) w w3 := Chg.trans (by repeat' (first | with_reducible exact Chg.refl _ _ | with_reducible assumption | with_reducible refine Chg.alloc ?_ _ | with_reducible refine Chg.drew ?_ | with_reducible refine Chg.setCell ?_ (.inr ?_) _ | (simp; done) | (simp; omega) | omega)) (hd3.mono (fun k hk hs => hs))
  have hc3_0 : ∀ o, w3.cell? ⟨w.heap.size, o, none⟩ = _ := fun o => hd3.cell (p := ⟨w.heap.size, o, none⟩) (by first | (simp; done) | (simp; omega) | omega) (by first | omega | (simp; omega))
  have hf3_0 : ∀ o, w3.frozen? ⟨w.heap.size, o, none⟩ = _ := fun o => hd3.frozen (p := ⟨w.heap.size, o, none⟩) (by first | (simp; done) | (simp; omega) | omega) (by first | omega | (simp; omega))
  have hl3_0 : w.heap.size < w3.heap.size := by omega
  have hm3_0 : w.heap.size ≤ w3.heap.size := by omega
  have hc3_1 : ∀ o, w3.cell? ⟨w1.heap.size, o, none⟩ = _ := fun o => hd3.cell (p := ⟨w1.heap.size, o, none⟩) (by first | (simp; done) | (simp; omega) | omega) (by first | omega | (simp; omega))
  have hf3_1 : ∀ o, w3.frozen? ⟨w1.heap.size, o, none⟩ = _ := fun o => hd3.frozen (p := ⟨w1.heap.size, o, none⟩) (by first | (simp; done) | (simp; omega) | omega) (by first | omega | (simp; omega))
  have hl3_1 : w1.heap.size < w3.heap.size := by omega
  have hm3_1 : w1.heap.size ≤ w3.heap.size := by omega
  go_wp2_with fail
  refine (rect_one _ _ _).mono ?_
  rintro e w4 ⟨rfl, hb4⟩
  have hz4 := hb4.size
  try simp at hz4
  have k4 : Blk w4 g 74 #[str (spot (take u (take 10 s).2).2).2] := Blk.below_ (by repeat' (first | with_reducible exact k3 | with_reducible refine Blk.drew ?_ | with_reducible refine Blk.alloc ?_ _ | with_reducible refine Blk.far ?_ ?_ _ | (simp; done) | (simp; omega) | omega | exact k3)) hb4
  have hD4 : Chg (fun k => k = g) w w4 := Chg.below (by repeat' (first | with_reducible exact Chg.refl _ _ | with_reducible assumption | with_reducible refine Chg.alloc ?_ _ | with_reducible refine Chg.drew ?_ | with_reducible refine Chg.setCell ?_ (.inr ?_) _ | (simp; done) | (simp; omega) | omega)) hb4
  have hc4_0 : ∀ o, w4.cell? ⟨w.heap.size, o, none⟩ = _ := fun o => hb4.cell (p := ⟨w.heap.size, o, none⟩) (by first | (simp; done) | (simp; omega) | omega)
  have hf4_0 : ∀ o, w4.frozen? ⟨w.heap.size, o, none⟩ = _ := fun o => hb4.frozen (p := ⟨w.heap.size, o, none⟩) (by first | (simp; done) | (simp; omega) | omega)
  have hl4_0 : w.heap.size < w4.heap.size := by omega
  have hm4_0 : w.heap.size ≤ w4.heap.size := by omega
  have hc4_1 : ∀ o, w4.cell? ⟨w1.heap.size, o, none⟩ = _ := fun o => hb4.cell (p := ⟨w1.heap.size, o, none⟩) (by first | (simp; done) | (simp; omega) | omega)
  have hf4_1 : ∀ o, w4.frozen? ⟨w1.heap.size, o, none⟩ = _ := fun o => hb4.frozen (p := ⟨w1.heap.size, o, none⟩) (by first | (simp; done) | (simp; omega) | omega)
  have hl4_1 : w1.heap.size < w4.heap.size := by omega
  have hm4_1 : w1.heap.size ≤ w4.heap.size := by omega
  go_wp2_with fail
  refine (content_any g _ _ (by repeat' (first | with_reducible exact k4 | with_reducible refine Blk.drew ?_ | with_reducible refine Blk.alloc ?_ _ | with_reducible refine Blk.far ?_ ?_ _ | (simp; done) | (simp; omega) | omega | exact k4))).mono ?_
  rintro e w5 ⟨rfl, k5, hd5⟩
  have hz5 := hd5.size
  try simp at hz5
  have hD5 : Chg (fun k => k = g) w w5 := Chg.trans (by repeat' (first | with_reducible exact Chg.refl _ _ | with_reducible assumption | with_reducible refine Chg.alloc ?_ _ | with_reducible refine Chg.drew ?_ | with_reducible refine Chg.setCell ?_ (.inr ?_) _ | (simp; done) | (simp; omega) | omega)) (hd5.mono (fun k hk hs => hs))
  have hc5_0 : ∀ o, w5.cell? ⟨w.heap.size, o, none⟩ = _ := fun o => hd5.cell (p := ⟨w.heap.size, o, none⟩) (by first | (simp; done) | (simp; omega) | omega) (by first | omega | (simp; omega))
  have hf5_0 : ∀ o, w5.frozen? ⟨w.heap.size, o, none⟩ = _ := fun o => hd5.frozen (p := ⟨w.heap.size, o, none⟩) (by first | (simp; done) | (simp; omega) | omega) (by first | omega | (simp; omega))
  have hl5_0 : w.heap.size < w5.heap.size := by omega
  have hm5_0 : w.heap.size ≤ w5.heap.size := by omega
  have hc5_1 : ∀ o, w5.cell? ⟨w1.heap.size, o, none⟩ = _ := fun o => hd5.cell (p := ⟨w1.heap.size, o, none⟩) (by first | (simp; done) | (simp; omega) | omega) (by first | omega | (simp; omega))
  have hf5_1 : ∀ o, w5.frozen? ⟨w1.heap.size, o, none⟩ = _ := fun o => hd5.frozen (p := ⟨w1.heap.size, o, none⟩) (by first | (simp; done) | (simp; omega) | omega) (by first | omega | (simp; omega))
  have hl5_1 : w1.heap.size < w5.heap.size := by omega
  have hm5_1 : w1.heap.size ≤ w5.heap.size := by omega
  go_wp2
  refine bodyPost_ret (v := .agg #[.int .u8 3, .int .i64 (take u (take 10 s).2).1, .int .i64 (spot (take u (take 10 s).2).2).1.col, .int .i64 (spot (take u (take 10 s).2).2).1.row, .int .i64 (spot (take u (take 10 s).2).2).1.col, .int .i64 (spot (take u (take 10 s).2).2).1.row, str (content (spot (take u (take 10 s).2).2).2).1, .int .u64 0, .int .u64 0, .int .u64 0, .int .u8 (0), .int .u64 0, .int .i64 0]) (by simp (maxDischargeDepth := 9) [results, Tryz.results42, go_sem, hc1_0, hl1_0, hc2_0, hc3_0, hc4_0, hc5_0]) rfl ?_
  exact ⟨by rw [HX.out]; rfl, by rw [HX.out]; exact (by repeat' (first | with_reducible exact k5 | with_reducible refine Blk.drew ?_ | with_reducible refine Blk.alloc ?_ _ | with_reducible refine Blk.far ?_ ?_ _ | (simp; done) | (simp; omega) | omega | exact k5)), (by repeat' (first | with_reducible exact Chg.refl _ _ | with_reducible assumption | with_reducible refine Chg.alloc ?_ _ | with_reducible refine Chg.drew ?_ | with_reducible refine Chg.setCell ?_ (.inr ?_) _ | (simp; done) | (simp; omega) | omega))⟩
theorem oper_4 (g : Nat) (s : Bytes) (u : Nat) (w : World) (_hu : (u : Int) ≤ 4) (hu0 : (0 : Int) < (u : Int)) (h1 : (take 10 s).1 = 3) (k0 : Blk w g 74 #[str s]) :
    Calls Tryz.prog 42 #[.pointer (some ⟨g, 0, none⟩), .int .i64 u] w fun e w' => e = .returned (.agg (cOpr (oper u s).1).toArray) ∧ Blk w' g 74 #[str (oper u s).2] ∧ Chg (fun k => k = g) w w' := by
  have HX := Lib.hid (show oper u s = (⟨4, (take u (take 10 s).2).1, ⟨(field (take u (take 10 s).2).2).1.c1, (field (take u (take 10 s).2).2).1.r1, (field (take u (take 10 s).2).2).1.c2, (field (take u (take 10 s).2).2).1.r2⟩, [], ⟨0, 0, 0⟩, 0, 0, 0⟩, (field (take u (take 10 s).2).2).2) by simp [oper, h1])
  have hg := k0.lt
  have K0 := Lib.hid k0
  have H1 := Lib.hid h1
  clear k0 h1
  go_enter Tryz.func42, Tryz.ntmps42
  go_wp2_with fail
  refine (take_any g s 10 _ (by decide) (by have k0 := K0.out; exact (by repeat' (first | with_reducible exact k0 | with_reducible refine Blk.drew ?_ | with_reducible refine Blk.alloc ?_ _ | with_reducible refine Blk.far ?_ ?_ _ | (simp; done) | (simp; omega) | omega | exact k0)))).mono ?_
  rintro e w1 ⟨rfl, k1, hd1⟩
  have hz1 := hd1.size
  try simp at hz1
  have hD1 : Chg (fun k => k = g) w w1 := Chg.trans (by repeat' (first | with_reducible exact Chg.refl _ _ | with_reducible assumption | with_reducible refine Chg.alloc ?_ _ | with_reducible refine Chg.drew ?_ | with_reducible refine Chg.setCell ?_ (.inr ?_) _ | (simp; done) | (simp; omega) | omega)) (hd1.mono (fun k hk hs => hs))
  have hc1_0 : ∀ o, w1.cell? ⟨w.heap.size, o, none⟩ = _ := fun o => hd1.cell (p := ⟨w.heap.size, o, none⟩) (by first | (simp; done) | (simp; omega) | omega) (by first | omega | (simp; omega))
  have hf1_0 : ∀ o, w1.frozen? ⟨w.heap.size, o, none⟩ = _ := fun o => hd1.frozen (p := ⟨w.heap.size, o, none⟩) (by first | (simp; done) | (simp; omega) | omega) (by first | omega | (simp; omega))
  have hl1_0 : w.heap.size < w1.heap.size := by omega
  have hm1_0 : w.heap.size ≤ w1.heap.size := by omega
  rw [H1.out]
  go_wp2_with fail
  refine (take_any g _ u _ hu0 (by repeat' (first | with_reducible exact k1 | with_reducible refine Blk.drew ?_ | with_reducible refine Blk.alloc ?_ _ | with_reducible refine Blk.far ?_ ?_ _ | (simp; done) | (simp; omega) | omega | exact k1))).mono ?_
  rintro e w2 ⟨rfl, k2, hd2⟩
  have hz2 := hd2.size
  try simp at hz2
  have hD2 : Chg (fun k => k = g) w w2 := Chg.trans (by repeat' (first | with_reducible exact Chg.refl _ _ | with_reducible assumption | with_reducible refine Chg.alloc ?_ _ | with_reducible refine Chg.drew ?_ | with_reducible refine Chg.setCell ?_ (.inr ?_) _ | (simp; done) | (simp; omega) | omega)) (hd2.mono (fun k hk hs => hs))
  have hc2_0 : ∀ o, w2.cell? ⟨w.heap.size, o, none⟩ = _ := fun o => hd2.cell (p := ⟨w.heap.size, o, none⟩) (by first | (simp; done) | (simp; omega) | omega) (by first | omega | (simp; omega))
  have hf2_0 : ∀ o, w2.frozen? ⟨w.heap.size, o, none⟩ = _ := fun o => hd2.frozen (p := ⟨w.heap.size, o, none⟩) (by first | (simp; done) | (simp; omega) | omega) (by first | omega | (simp; omega))
  have hl2_0 : w.heap.size < w2.heap.size := by omega
  have hm2_0 : w.heap.size ≤ w2.heap.size := by omega
  have hc2_1 : ∀ o, w2.cell? ⟨w1.heap.size, o, none⟩ = _ := fun o => hd2.cell (p := ⟨w1.heap.size, o, none⟩) (by first | (simp; done) | (simp; omega) | omega) (by first | omega | (simp; omega))
  have hf2_1 : ∀ o, w2.frozen? ⟨w1.heap.size, o, none⟩ = _ := fun o => hd2.frozen (p := ⟨w1.heap.size, o, none⟩) (by first | (simp; done) | (simp; omega) | omega) (by first | omega | (simp; omega))
  have hl2_1 : w1.heap.size < w2.heap.size := by omega
  have hm2_1 : w1.heap.size ≤ w2.heap.size := by omega
  have ne1 : w.heap.size ≠ w1.heap.size := by omega
  have ne2 : w1.heap.size ≠ w.heap.size := by omega
  go_wp2_with fail
  refine (field_any g _ _ (by repeat' (first | with_reducible exact k2 | with_reducible refine Blk.drew ?_ | with_reducible refine Blk.alloc ?_ _ | with_reducible refine Blk.far ?_ ?_ _ | (simp; done) | (simp; omega) | omega | exact k2))).mono ?_
  rintro e w3 ⟨rfl, k3, hd3⟩
  have hz3 := hd3.size
  try simp at hz3
  have hD3 : Chg (fun k => k = g) w w3 := Chg.trans (by repeat' (first | with_reducible exact Chg.refl _ _ | with_reducible assumption | with_reducible refine Chg.alloc ?_ _ | with_reducible refine Chg.drew ?_ | with_reducible refine Chg.setCell ?_ (.inr ?_) _ | (simp; done) | (simp; omega) | omega)) (hd3.mono (fun k hk hs => hs))
  have hc3_0 : ∀ o, w3.cell? ⟨w.heap.size, o, none⟩ = _ := fun o => hd3.cell (p := ⟨w.heap.size, o, none⟩) (by first | (simp; done) | (simp; omega) | omega) (by first | omega | (simp; omega))
  have hf3_0 : ∀ o, w3.frozen? ⟨w.heap.size, o, none⟩ = _ := fun o => hd3.frozen (p := ⟨w.heap.size, o, none⟩) (by first | (simp; done) | (simp; omega) | omega) (by first | omega | (simp; omega))
  have hl3_0 : w.heap.size < w3.heap.size := by omega
  have hm3_0 : w.heap.size ≤ w3.heap.size := by omega
  have hc3_1 : ∀ o, w3.cell? ⟨w1.heap.size, o, none⟩ = _ := fun o => hd3.cell (p := ⟨w1.heap.size, o, none⟩) (by first | (simp; done) | (simp; omega) | omega) (by first | omega | (simp; omega))
  have hf3_1 : ∀ o, w3.frozen? ⟨w1.heap.size, o, none⟩ = _ := fun o => hd3.frozen (p := ⟨w1.heap.size, o, none⟩) (by first | (simp; done) | (simp; omega) | omega) (by first | omega | (simp; omega))
  have hl3_1 : w1.heap.size < w3.heap.size := by omega
  have hm3_1 : w1.heap.size ≤ w3.heap.size := by omega
  go_wp2
  refine bodyPost_ret (v := .agg #[.int .u8 4, .int .i64 (take u (take 10 s).2).1, .int .i64 (field (take u (take 10 s).2).2).1.c1, .int .i64 (field (take u (take 10 s).2).2).1.r1, .int .i64 (field (take u (take 10 s).2).2).1.c2, .int .i64 (field (take u (take 10 s).2).2).1.r2, str [], .int .u64 0, .int .u64 0, .int .u64 0, .int .u8 (0), .int .u64 0, .int .i64 0]) (by simp (maxDischargeDepth := 9) [results, Tryz.results42, go_sem, hc1_0, hl1_0, hc2_0, hc3_0]) rfl ?_
  exact ⟨by rw [HX.out]; rfl, by rw [HX.out]; exact (by repeat' (first | with_reducible exact k3 | with_reducible refine Blk.drew ?_ | with_reducible refine Blk.alloc ?_ _ | with_reducible refine Blk.far ?_ ?_ _ | (simp; done) | (simp; omega) | omega | exact k3)), (by repeat' (first | with_reducible exact Chg.refl _ _ | with_reducible assumption | with_reducible refine Chg.alloc ?_ _ | with_reducible refine Chg.drew ?_ | with_reducible refine Chg.setCell ?_ (.inr ?_) _ | (simp; done) | (simp; omega) | omega))⟩
theorem oper_5 (g : Nat) (s : Bytes) (u : Nat) (w : World) (_hu : (u : Int) ≤ 4) (hu0 : (0 : Int) < (u : Int)) (h1 : (take 10 s).1 = 4) (k0 : Blk w g 74 #[str s]) :
    Calls Tryz.prog 42 #[.pointer (some ⟨g, 0, none⟩), .int .i64 u] w fun e w' => e = .returned (.agg (cOpr (oper u s).1).toArray) ∧ Blk w' g 74 #[str (oper u s).2] ∧ Chg (fun k => k = g) w w' := by
  have HX := Lib.hid (show oper u s = (⟨5, (take u (take 10 s).2).1, ⟨(field (take u (take 10 s).2).2).1.c1, (field (take u (take 10 s).2).2).1.r1, (field (take u (take 10 s).2).2).1.c2, (field (take u (take 10 s).2).2).1.r2⟩, [], ⟨0, 0, 0⟩, 0, 0, 0⟩, (field (take u (take 10 s).2).2).2) by simp [oper, h1])
  have hg := k0.lt
  have K0 := Lib.hid k0
  have H1 := Lib.hid h1
  clear k0 h1
  go_enter Tryz.func42, Tryz.ntmps42
  go_wp2_with fail
  refine (take_any g s 10 _ (by decide) (by have k0 := K0.out; exact (by repeat' (first | with_reducible exact k0 | with_reducible refine Blk.drew ?_ | with_reducible refine Blk.alloc ?_ _ | with_reducible refine Blk.far ?_ ?_ _ | (simp; done) | (simp; omega) | omega | exact k0)))).mono ?_
  rintro e w1 ⟨rfl, k1, hd1⟩
  have hz1 := hd1.size
  try simp at hz1
  have hD1 : Chg (fun k => k = g) w w1 := Chg.trans (by repeat' (first | with_reducible exact Chg.refl _ _ | with_reducible assumption | with_reducible refine Chg.alloc ?_ _ | with_reducible refine Chg.drew ?_ | with_reducible refine Chg.setCell ?_ (.inr ?_) _ | (simp; done) | (simp; omega) | omega)) (hd1.mono (fun k hk hs => hs))
  have hc1_0 : ∀ o, w1.cell? ⟨w.heap.size, o, none⟩ = _ := fun o => hd1.cell (p := ⟨w.heap.size, o, none⟩) (by first | (simp; done) | (simp; omega) | omega) (by first | omega | (simp; omega))
  have hf1_0 : ∀ o, w1.frozen? ⟨w.heap.size, o, none⟩ = _ := fun o => hd1.frozen (p := ⟨w.heap.size, o, none⟩) (by first | (simp; done) | (simp; omega) | omega) (by first | omega | (simp; omega))
  have hl1_0 : w.heap.size < w1.heap.size := by omega
  have hm1_0 : w.heap.size ≤ w1.heap.size := by omega
  rw [H1.out]
  go_wp2_with fail
  refine (take_any g _ u _ hu0 (by repeat' (first | with_reducible exact k1 | with_reducible refine Blk.drew ?_ | with_reducible refine Blk.alloc ?_ _ | with_reducible refine Blk.far ?_ ?_ _ | (simp; done) | (simp; omega) | omega | exact k1))).mono ?_
  rintro e w2 ⟨rfl, k2, hd2⟩
  have hz2 := hd2.size
  try simp at hz2
  have hD2 : Chg (fun k => k = g) w w2 := Chg.trans (by repeat' (first | with_reducible exact Chg.refl _ _ | with_reducible assumption | with_reducible refine Chg.alloc ?_ _ | with_reducible refine Chg.drew ?_ | with_reducible refine Chg.setCell ?_ (.inr ?_) _ | (simp; done) | (simp; omega) | omega)) (hd2.mono (fun k hk hs => hs))
  have hc2_0 : ∀ o, w2.cell? ⟨w.heap.size, o, none⟩ = _ := fun o => hd2.cell (p := ⟨w.heap.size, o, none⟩) (by first | (simp; done) | (simp; omega) | omega) (by first | omega | (simp; omega))
  have hf2_0 : ∀ o, w2.frozen? ⟨w.heap.size, o, none⟩ = _ := fun o => hd2.frozen (p := ⟨w.heap.size, o, none⟩) (by first | (simp; done) | (simp; omega) | omega) (by first | omega | (simp; omega))
  have hl2_0 : w.heap.size < w2.heap.size := by omega
  have hm2_0 : w.heap.size ≤ w2.heap.size := by omega
  have hc2_1 : ∀ o, w2.cell? ⟨w1.heap.size, o, none⟩ = _ := fun o => hd2.cell (p := ⟨w1.heap.size, o, none⟩) (by first | (simp; done) | (simp; omega) | omega) (by first | omega | (simp; omega))
  have hf2_1 : ∀ o, w2.frozen? ⟨w1.heap.size, o, none⟩ = _ := fun o => hd2.frozen (p := ⟨w1.heap.size, o, none⟩) (by first | (simp; done) | (simp; omega) | omega) (by first | omega | (simp; omega))
  have hl2_1 : w1.heap.size < w2.heap.size := by omega
  have hm2_1 : w1.heap.size ≤ w2.heap.size := by omega
  have ne1 : w.heap.size ≠ w1.heap.size := by omega
  have ne2 : w1.heap.size ≠ w.heap.size := by omega
  go_wp2_with fail
  refine (field_any g _ _ (by repeat' (first | with_reducible exact k2 | with_reducible refine Blk.drew ?_ | with_reducible refine Blk.alloc ?_ _ | with_reducible refine Blk.far ?_ ?_ _ | (simp; done) | (simp; omega) | omega | exact k2))).mono ?_
  rintro e w3 ⟨rfl, k3, hd3⟩
  have hz3 := hd3.size
  try simp at hz3
  have hD3 : Chg (fun k => k = g) w w3 := Chg.trans (by repeat' (first | with_reducible exact Chg.refl _ _ | with_reducible assumption | with_reducible refine Chg.alloc ?_ _ | with_reducible refine Chg.drew ?_ | with_reducible refine Chg.setCell ?_ (.inr ?_) _ | (simp; done) | (simp; omega) | omega)) (hd3.mono (fun k hk hs => hs))
  have hc3_0 : ∀ o, w3.cell? ⟨w.heap.size, o, none⟩ = _ := fun o => hd3.cell (p := ⟨w.heap.size, o, none⟩) (by first | (simp; done) | (simp; omega) | omega) (by first | omega | (simp; omega))
  have hf3_0 : ∀ o, w3.frozen? ⟨w.heap.size, o, none⟩ = _ := fun o => hd3.frozen (p := ⟨w.heap.size, o, none⟩) (by first | (simp; done) | (simp; omega) | omega) (by first | omega | (simp; omega))
  have hl3_0 : w.heap.size < w3.heap.size := by omega
  have hm3_0 : w.heap.size ≤ w3.heap.size := by omega
  have hc3_1 : ∀ o, w3.cell? ⟨w1.heap.size, o, none⟩ = _ := fun o => hd3.cell (p := ⟨w1.heap.size, o, none⟩) (by first | (simp; done) | (simp; omega) | omega) (by first | omega | (simp; omega))
  have hf3_1 : ∀ o, w3.frozen? ⟨w1.heap.size, o, none⟩ = _ := fun o => hd3.frozen (p := ⟨w1.heap.size, o, none⟩) (by first | (simp; done) | (simp; omega) | omega) (by first | omega | (simp; omega))
  have hl3_1 : w1.heap.size < w3.heap.size := by omega
  have hm3_1 : w1.heap.size ≤ w3.heap.size := by omega
  go_wp2
  refine bodyPost_ret (v := .agg #[.int .u8 5, .int .i64 (take u (take 10 s).2).1, .int .i64 (field (take u (take 10 s).2).2).1.c1, .int .i64 (field (take u (take 10 s).2).2).1.r1, .int .i64 (field (take u (take 10 s).2).2).1.c2, .int .i64 (field (take u (take 10 s).2).2).1.r2, str [], .int .u64 0, .int .u64 0, .int .u64 0, .int .u8 (0), .int .u64 0, .int .i64 0]) (by simp (maxDischargeDepth := 9) [results, Tryz.results42, go_sem, hc1_0, hl1_0, hc2_0, hc3_0]) rfl ?_
  exact ⟨by rw [HX.out]; rfl, by rw [HX.out]; exact (by repeat' (first | with_reducible exact k3 | with_reducible refine Blk.drew ?_ | with_reducible refine Blk.alloc ?_ _ | with_reducible refine Blk.far ?_ ?_ _ | (simp; done) | (simp; omega) | omega | exact k3)), (by repeat' (first | with_reducible exact Chg.refl _ _ | with_reducible assumption | with_reducible refine Chg.alloc ?_ _ | with_reducible refine Chg.drew ?_ | with_reducible refine Chg.setCell ?_ (.inr ?_) _ | (simp; done) | (simp; omega) | omega))⟩
theorem oper_6 (g : Nat) (s : Bytes) (u : Nat) (w : World) (_hu : (u : Int) ≤ 4) (hu0 : (0 : Int) < (u : Int)) (h1 : (take 10 s).1 = 5) (k0 : Blk w g 74 #[str s]) :
    Calls Tryz.prog 42 #[.pointer (some ⟨g, 0, none⟩), .int .i64 u] w fun e w' => e = .returned (.agg (cOpr (oper u s).1).toArray) ∧ Blk w' g 74 #[str (oper u s).2] ∧ Chg (fun k => k = g) w w' := by
  have HX := Lib.hid (show oper u s = (⟨6, (take u (take 10 s).2).1, ⟨(spot (take u (take 10 s).2).2).1.col, (spot (take u (take 10 s).2).2).1.row, (spot (take u (take 10 s).2).2).1.col, (spot (take u (take 10 s).2).2).1.row⟩, [], ⟨0, 0, 0⟩, 0, 0, 0⟩, (spot (take u (take 10 s).2).2).2) by simp [oper, h1])
  have hg := k0.lt
  have K0 := Lib.hid k0
  have H1 := Lib.hid h1
  clear k0 h1
  go_enter Tryz.func42, Tryz.ntmps42
  go_wp2_with fail
  refine (take_any g s 10 _ (by decide) (by have k0 := K0.out; exact (by repeat' (first | with_reducible exact k0 | with_reducible refine Blk.drew ?_ | with_reducible refine Blk.alloc ?_ _ | with_reducible refine Blk.far ?_ ?_ _ | (simp; done) | (simp; omega) | omega | exact k0)))).mono ?_
  rintro e w1 ⟨rfl, k1, hd1⟩
  have hz1 := hd1.size
  try simp at hz1
  have hD1 : Chg (fun k => k = g) w w1 := Chg.trans (by repeat' (first | with_reducible exact Chg.refl _ _ | with_reducible assumption | with_reducible refine Chg.alloc ?_ _ | with_reducible refine Chg.drew ?_ | with_reducible refine Chg.setCell ?_ (.inr ?_) _ | (simp; done) | (simp; omega) | omega)) (hd1.mono (fun k hk hs => hs))
  have hc1_0 : ∀ o, w1.cell? ⟨w.heap.size, o, none⟩ = _ := fun o => hd1.cell (p := ⟨w.heap.size, o, none⟩) (by first | (simp; done) | (simp; omega) | omega) (by first | omega | (simp; omega))
  have hf1_0 : ∀ o, w1.frozen? ⟨w.heap.size, o, none⟩ = _ := fun o => hd1.frozen (p := ⟨w.heap.size, o, none⟩) (by first | (simp; done) | (simp; omega) | omega) (by first | omega | (simp; omega))
  have hl1_0 : w.heap.size < w1.heap.size := by omega
  have hm1_0 : w.heap.size ≤ w1.heap.size := by omega
  rw [H1.out]
  go_wp2_with fail
  refine (take_any g _ u _ hu0 (by repeat' (first | with_reducible exact k1 | with_reducible refine Blk.drew ?_ | with_reducible refine Blk.alloc ?_ _ | with_reducible refine Blk.far ?_ ?_ _ | (simp; done) | (simp; omega) | omega | exact k1))).mono ?_
  rintro e w2 ⟨rfl, k2, hd2⟩
  have hz2 := hd2.size
  try simp at hz2
  have hD2 : Chg (fun k => k = g) w w2 := Chg.trans (by repeat' (first | with_reducible exact Chg.refl _ _ | with_reducible assumption | with_reducible refine Chg.alloc ?_ _ | with_reducible refine Chg.drew ?_ | with_reducible refine Chg.setCell ?_ (.inr ?_) _ | (simp; done) | (simp; omega) | omega)) (hd2.mono (fun k hk hs => hs))
  have hc2_0 : ∀ o, w2.cell? ⟨w.heap.size, o, none⟩ = _ := fun o => hd2.cell (p := ⟨w.heap.size, o, none⟩) (by first | (simp; done) | (simp; omega) | omega) (by first | omega | (simp; omega))
  have hf2_0 : ∀ o, w2.frozen? ⟨w.heap.size, o, none⟩ = _ := fun o => hd2.frozen (p := ⟨w.heap.size, o, none⟩) (by first | (simp; done) | (simp; omega) | omega) (by first | omega | (simp; omega))
  have hl2_0 : w.heap.size < w2.heap.size := by omega
  have hm2_0 : w.heap.size ≤ w2.heap.size := by omega
  have hc2_1 : ∀ o, w2.cell? ⟨w1.heap.size, o, none⟩ = _ := fun o => hd2.cell (p := ⟨w1.heap.size, o, none⟩) (by first | (simp; done) | (simp; omega) | omega) (by first | omega | (simp; omega))
  have hf2_1 : ∀ o, w2.frozen? ⟨w1.heap.size, o, none⟩ = _ := fun o => hd2.frozen (p := ⟨w1.heap.size, o, none⟩) (by first | (simp; done) | (simp; omega) | omega) (by first | omega | (simp; omega))
  have hl2_1 : w1.heap.size < w2.heap.size := by omega
  have hm2_1 : w1.heap.size ≤ w2.heap.size := by omega
  have ne1 : w.heap.size ≠ w1.heap.size := by omega
  have ne2 : w1.heap.size ≠ w.heap.size := by omega
  go_wp2_with fail
  refine (spot_any g _ _ (by repeat' (first | with_reducible exact k2 | with_reducible refine Blk.drew ?_ | with_reducible refine Blk.alloc ?_ _ | with_reducible refine Blk.far ?_ ?_ _ | (simp; done) | (simp; omega) | omega | exact k2))).mono ?_
  rintro e w3 ⟨rfl, k3, hd3⟩
  have hz3 := hd3.size
  try simp at hz3
  have hD3 : Chg (fun k => k = g) w w3 := Chg.trans (by repeat' (first | with_reducible exact Chg.refl _ _ | with_reducible assumption | with_reducible refine Chg.alloc ?_ _ | with_reducible refine Chg.drew ?_ | with_reducible refine Chg.setCell ?_ (.inr ?_) _ | (simp; done) | (simp; omega) | omega)) (hd3.mono (fun k hk hs => hs))
  have hc3_0 : ∀ o, w3.cell? ⟨w.heap.size, o, none⟩ = _ := fun o => hd3.cell (p := ⟨w.heap.size, o, none⟩) (by first | (simp; done) | (simp; omega) | omega) (by first | omega | (simp; omega))
  have hf3_0 : ∀ o, w3.frozen? ⟨w.heap.size, o, none⟩ = _ := fun o => hd3.frozen (p := ⟨w.heap.size, o, none⟩) (by first | (simp; done) | (simp; omega) | omega) (by first | omega | (simp; omega))
  have hl3_0 : w.heap.size < w3.heap.size := by omega
  have hm3_0 : w.heap.size ≤ w3.heap.size := by omega
  have hc3_1 : ∀ o, w3.cell? ⟨w1.heap.size, o, none⟩ = _ := fun o => hd3.cell (p := ⟨w1.heap.size, o, none⟩) (by first | (simp; done) | (simp; omega) | omega) (by first | omega | (simp; omega))
  have hf3_1 : ∀ o, w3.frozen? ⟨w1.heap.size, o, none⟩ = _ := fun o => hd3.frozen (p := ⟨w1.heap.size, o, none⟩) (by first | (simp; done) | (simp; omega) | omega) (by first | omega | (simp; omega))
  have hl3_1 : w1.heap.size < w3.heap.size := by omega
  have hm3_1 : w1.heap.size ≤ w3.heap.size := by omega
  go_wp2_with fail
  refine (rect_one _ _ _).mono ?_
  rintro e w4 ⟨rfl, hb4⟩
  have hz4 := hb4.size
  try simp at hz4
  have k4 : Blk w4 g 74 #[str (spot (take u (take 10 s).2).2).2] := Blk.below_ (by repeat' (first | with_reducible exact k3 | with_reducible refine Blk.drew ?_ | with_reducible refine Blk.alloc ?_ _ | with_reducible refine Blk.far ?_ ?_ _ | (simp; done) | (simp; omega) | omega | exact k3)) hb4
  have hD4 : Chg (fun k => k = g) w w4 := Chg.below (by repeat' (first | with_reducible exact Chg.refl _ _ | with_reducible assumption | with_reducible refine Chg.alloc ?_ _ | with_reducible refine Chg.drew ?_ | with_reducible refine Chg.setCell ?_ (.inr ?_) _ | (simp; done) | (simp; omega) | omega)) hb4
  have hc4_0 : ∀ o, w4.cell? ⟨w.heap.size, o, none⟩ = _ := fun o => hb4.cell (p := ⟨w.heap.size, o, none⟩) (by first | (simp; done) | (simp; omega) | omega)
  have hf4_0 : ∀ o, w4.frozen? ⟨w.heap.size, o, none⟩ = _ := fun o => hb4.frozen (p := ⟨w.heap.size, o, none⟩) (by first | (simp; done) | (simp; omega) | omega)
  have hl4_0 : w.heap.size < w4.heap.size := by omega
  have hm4_0 : w.heap.size ≤ w4.heap.size := by omega
  have hc4_1 : ∀ o, w4.cell? ⟨w1.heap.size, o, none⟩ = _ := fun o => hb4.cell (p := ⟨w1.heap.size, o, none⟩) (by first | (simp; done) | (simp; omega) | omega)
  have hf4_1 : ∀ o, w4.frozen? ⟨w1.heap.size, o, none⟩ = _ := fun o => hb4.frozen (p := ⟨w1.heap.size, o, none⟩) (by first | (simp; done) | (simp; omega) | omega)
  have hl4_1 : w1.heap.size < w4.heap.size := by omega
  have hm4_1 : w1.heap.size ≤ w4.heap.size := by omega
  go_wp2
  refine bodyPost_ret (v := .agg #[.int .u8 6, .int .i64 (take u (take 10 s).2).1, .int .i64 (spot (take u (take 10 s).2).2).1.col, .int .i64 (spot (take u (take 10 s).2).2).1.row, .int .i64 (spot (take u (take 10 s).2).2).1.col, .int .i64 (spot (take u (take 10 s).2).2).1.row, str [], .int .u64 0, .int .u64 0, .int .u64 0, .int .u8 (0), .int .u64 0, .int .i64 0]) (by simp (maxDischargeDepth := 9) [results, Tryz.results42, go_sem, hc1_0, hl1_0, hc2_0, hc3_0, hc4_0]) rfl ?_
  exact ⟨by rw [HX.out]; rfl, by rw [HX.out]; exact (by repeat' (first | with_reducible exact k4 | with_reducible refine Blk.drew ?_ | with_reducible refine Blk.alloc ?_ _ | with_reducible refine Blk.far ?_ ?_ _ | (simp; done) | (simp; omega) | omega | exact k4)), (by repeat' (first | with_reducible exact Chg.refl _ _ | with_reducible assumption | with_reducible refine Chg.alloc ?_ _ | with_reducible refine Chg.drew ?_ | with_reducible refine Chg.setCell ?_ (.inr ?_) _ | (simp; done) | (simp; omega) | omega))⟩
theorem oper_7 (g : Nat) (s : Bytes) (u : Nat) (w : World) (hu : (u : Int) ≤ 4) (hu0 : (0 : Int) < (u : Int)) (h1 : (take 10 s).1 = 6) (k0 : Blk w g 74 #[str s]) :
    Calls Tryz.prog 42 #[.pointer (some ⟨g, 0, none⟩), .int .i64 u] w fun e w' => e = .returned (.agg (cOpr (oper u s).1).toArray) ∧ Blk w' g 74 #[str (oper u s).2] ∧ Chg (fun k => k = g) w w' := by
  have HX := Lib.hid (show oper u s = (⟨7, (take u (take 10 s).2).1, ⟨(field (take u (take 10 s).2).2).1.c1, (field (take u (take 10 s).2).2).1.r1, (field (take u (take 10 s).2).2).1.c2, (field (take u (take 10 s).2).2).1.r2⟩, [], ⟨(crowds u (field (take u (take 10 s).2).2).2).1.rd, (crowds u (field (take u (take 10 s).2).2).2).1.wr, (crowds u (field (take u (take 10 s).2).2).2).1.ow⟩, 0, 0, 0⟩, (crowds u (field (take u (take 10 s).2).2).2).2) by simp [oper, h1])
  have hg := k0.lt
  have K0 := Lib.hid k0
  have H1 := Lib.hid h1
  clear k0 h1
  go_enter Tryz.func42, Tryz.ntmps42
  go_wp2_with fail
  refine (take_any g s 10 _ (by decide) (by have k0 := K0.out; exact (by repeat' (first | with_reducible exact k0 | with_reducible refine Blk.drew ?_ | with_reducible refine Blk.alloc ?_ _ | with_reducible refine Blk.far ?_ ?_ _ | (simp; done) | (simp; omega) | omega | exact k0)))).mono ?_
  rintro e w1 ⟨rfl, k1, hd1⟩
  have hz1 := hd1.size
  try simp at hz1
  have hD1 : Chg (fun k => k = g) w w1 := Chg.trans (by repeat' (first | with_reducible exact Chg.refl _ _ | with_reducible assumption | with_reducible refine Chg.alloc ?_ _ | with_reducible refine Chg.drew ?_ | with_reducible refine Chg.setCell ?_ (.inr ?_) _ | (simp; done) | (simp; omega) | omega)) (hd1.mono (fun k hk hs => hs))
  have hc1_0 : ∀ o, w1.cell? ⟨w.heap.size, o, none⟩ = _ := fun o => hd1.cell (p := ⟨w.heap.size, o, none⟩) (by first | (simp; done) | (simp; omega) | omega) (by first | omega | (simp; omega))
  have hf1_0 : ∀ o, w1.frozen? ⟨w.heap.size, o, none⟩ = _ := fun o => hd1.frozen (p := ⟨w.heap.size, o, none⟩) (by first | (simp; done) | (simp; omega) | omega) (by first | omega | (simp; omega))
  have hl1_0 : w.heap.size < w1.heap.size := by omega
  have hm1_0 : w.heap.size ≤ w1.heap.size := by omega
  rw [H1.out]
  go_wp2_with fail
  refine (take_any g _ u _ hu0 (by repeat' (first | with_reducible exact k1 | with_reducible refine Blk.drew ?_ | with_reducible refine Blk.alloc ?_ _ | with_reducible refine Blk.far ?_ ?_ _ | (simp; done) | (simp; omega) | omega | exact k1))).mono ?_
  rintro e w2 ⟨rfl, k2, hd2⟩
  have hz2 := hd2.size
  try simp at hz2
  have hD2 : Chg (fun k => k = g) w w2 := Chg.trans (by repeat' (first | with_reducible exact Chg.refl _ _ | with_reducible assumption | with_reducible refine Chg.alloc ?_ _ | with_reducible refine Chg.drew ?_ | with_reducible refine Chg.setCell ?_ (.inr ?_) _ | (simp; done) | (simp; omega) | omega)) (hd2.mono (fun k hk hs => hs))
  have hc2_0 : ∀ o, w2.cell? ⟨w.heap.size, o, none⟩ = _ := fun o => hd2.cell (p := ⟨w.heap.size, o, none⟩) (by first | (simp; done) | (simp; omega) | omega) (by first | omega | (simp; omega))
  have hf2_0 : ∀ o, w2.frozen? ⟨w.heap.size, o, none⟩ = _ := fun o => hd2.frozen (p := ⟨w.heap.size, o, none⟩) (by first | (simp; done) | (simp; omega) | omega) (by first | omega | (simp; omega))
  have hl2_0 : w.heap.size < w2.heap.size := by omega
  have hm2_0 : w.heap.size ≤ w2.heap.size := by omega
  have hc2_1 : ∀ o, w2.cell? ⟨w1.heap.size, o, none⟩ = _ := fun o => hd2.cell (p := ⟨w1.heap.size, o, none⟩) (by first | (simp; done) | (simp; omega) | omega) (by first | omega | (simp; omega))
  have hf2_1 : ∀ o, w2.frozen? ⟨w1.heap.size, o, none⟩ = _ := fun o => hd2.frozen (p := ⟨w1.heap.size, o, none⟩) (by first | (simp; done) | (simp; omega) | omega) (by first | omega | (simp; omega))
  have hl2_1 : w1.heap.size < w2.heap.size := by omega
  have hm2_1 : w1.heap.size ≤ w2.heap.size := by omega
  have ne1 : w.heap.size ≠ w1.heap.size := by omega
  have ne2 : w1.heap.size ≠ w.heap.size := by omega
  go_wp2_with fail
  refine (field_any g _ _ (by repeat' (first | with_reducible exact k2 | with_reducible refine Blk.drew ?_ | with_reducible refine Blk.alloc ?_ _ | with_reducible refine Blk.far ?_ ?_ _ | (simp; done) | (simp; omega) | omega | exact k2))).mono ?_
  rintro e w3 ⟨rfl, k3, hd3⟩
  have hz3 := hd3.size
  try simp at hz3
  have hD3 : Chg (fun k => k = g) w w3 := Chg.trans (by repeat' (first | with_reducible exact Chg.refl _ _ | with_reducible assumption | with_reducible refine Chg.alloc ?_ _ | with_reducible refine Chg.drew ?_ | with_reducible refine Chg.setCell ?_ (.inr ?_) _ | (simp; done) | (simp; omega) | omega)) (hd3.mono (fun k hk hs => hs))
  have hc3_0 : ∀ o, w3.cell? ⟨w.heap.size, o, none⟩ = _ := fun o => hd3.cell (p := ⟨w.heap.size, o, none⟩) (by first | (simp; done) | (simp; omega) | omega) (by first | omega | (simp; omega))
  have hf3_0 : ∀ o, w3.frozen? ⟨w.heap.size, o, none⟩ = _ := fun o => hd3.frozen (p := ⟨w.heap.size, o, none⟩) (by first | (simp; done) | (simp; omega) | omega) (by first | omega | (simp; omega))
  have hl3_0 : w.heap.size < w3.heap.size := by omega
  have hm3_0 : w.heap.size ≤ w3.heap.size := by omega
  have hc3_1 : ∀ o, w3.cell? ⟨w1.heap.size, o, none⟩ = _ := fun o => hd3.cell (p := ⟨w1.heap.size, o, none⟩) (by first | (simp; done) | (simp; omega) | omega) (by first | omega | (simp; omega))
  have hf3_1 : ∀ o, w3.frozen? ⟨w1.heap.size, o, none⟩ = _ := fun o => hd3.frozen (p := ⟨w1.heap.size, o, none⟩) (by first | (simp; done) | (simp; omega) | omega) (by first | omega | (simp; omega))
  have hl3_1 : w1.heap.size < w3.heap.size := by omega
  have hm3_1 : w1.heap.size ≤ w3.heap.size := by omega
  go_wp2_with fail
  refine (crowds_any g _ u _ hu (by repeat' (first | with_reducible exact k3 | with_reducible refine Blk.drew ?_ | with_reducible refine Blk.alloc ?_ _ | with_reducible refine Blk.far ?_ ?_ _ | (simp; done) | (simp; omega) | omega | exact k3))).mono ?_
  rintro e w4 ⟨rfl, k4, hd4⟩
  have hz4 := hd4.size
  try simp at hz4
  have hD4 : Chg (fun k => k = g) w w4 := Chg.trans (by repeat' (first | with_reducible exact Chg.refl _ _ | with_reducible assumption | with_reducible refine Chg.alloc ?_ _ | with_reducible refine Chg.drew ?_ | with_reducible refine Chg.setCell ?_ (.inr ?_) _ | (simp; done) | (simp; omega) | omega)) (hd4.mono (fun k hk hs => hs))
  have hc4_0 : ∀ o, w4.cell? ⟨w.heap.size, o, none⟩ = _ := fun o => hd4.cell (p := ⟨w.heap.size, o, none⟩) (by first | (simp; done) | (simp; omega) | omega) (by first | omega | (simp; omega))
  have hf4_0 : ∀ o, w4.frozen? ⟨w.heap.size, o, none⟩ = _ := fun o => hd4.frozen (p := ⟨w.heap.size, o, none⟩) (by first | (simp; done) | (simp; omega) | omega) (by first | omega | (simp; omega))
  have hl4_0 : w.heap.size < w4.heap.size := by omega
  have hm4_0 : w.heap.size ≤ w4.heap.size := by omega
  have hc4_1 : ∀ o, w4.cell? ⟨w1.heap.size, o, none⟩ = _ := fun o => hd4.cell (p := ⟨w1.heap.size, o, none⟩) (by first | (simp; done) | (simp; omega) | omega) (by first | omega | (simp; omega))
  have hf4_1 : ∀ o, w4.frozen? ⟨w1.heap.size, o, none⟩ = _ := fun o => hd4.frozen (p := ⟨w1.heap.size, o, none⟩) (by first | (simp; done) | (simp; omega) | omega) (by first | omega | (simp; omega))
  have hl4_1 : w1.heap.size < w4.heap.size := by omega
  have hm4_1 : w1.heap.size ≤ w4.heap.size := by omega
  go_wp2
  refine bodyPost_ret (v := .agg #[.int .u8 7, .int .i64 (take u (take 10 s).2).1, .int .i64 (field (take u (take 10 s).2).2).1.c1, .int .i64 (field (take u (take 10 s).2).2).1.r1, .int .i64 (field (take u (take 10 s).2).2).1.c2, .int .i64 (field (take u (take 10 s).2).2).1.r2, str [], .int .u64 (crowds u (field (take u (take 10 s).2).2).2).1.rd, .int .u64 (crowds u (field (take u (take 10 s).2).2).2).1.wr, .int .u64 (crowds u (field (take u (take 10 s).2).2).2).1.ow, .int .u8 (0), .int .u64 0, .int .i64 0]) (by simp (maxDischargeDepth := 9) [results, Tryz.results42, go_sem, hc1_0, hl1_0, hc2_0, hc3_0, hc4_0]) rfl ?_
  exact ⟨by rw [HX.out]; rfl, by rw [HX.out]; exact (by repeat' (first | with_reducible exact k4 | with_reducible refine Blk.drew ?_ | with_reducible refine Blk.alloc ?_ _ | with_reducible refine Blk.far ?_ ?_ _ | (simp; done) | (simp; omega) | omega | exact k4)), (by repeat' (first | with_reducible exact Chg.refl _ _ | with_reducible assumption | with_reducible refine Chg.alloc ?_ _ | with_reducible refine Chg.drew ?_ | with_reducible refine Chg.setCell ?_ (.inr ?_) _ | (simp; done) | (simp; omega) | omega))⟩
theorem oper_8 (g : Nat) (s : Bytes) (u : Nat) (w : World) (hu : (u : Int) ≤ 4) (hu0 : (0 : Int) < (u : Int)) (h1 : (take 10 s).1 = 7) (k0 : Blk w g 74 #[str s]) :
    Calls Tryz.prog 42 #[.pointer (some ⟨g, 0, none⟩), .int .i64 u] w fun e w' => e = .returned (.agg (cOpr (oper u s).1).toArray) ∧ Blk w' g 74 #[str (oper u s).2] ∧ Chg (fun k => k = g) w w' := by
  have HX := Lib.hid (show oper u s = (⟨8, (take u (take 10 s).2).1, ⟨(field (take u (take 10 s).2).2).1.c1, (field (take u (take 10 s).2).2).1.r1, (field (take u (take 10 s).2).2).1.c2, (field (take u (take 10 s).2).2).1.r2⟩, [], ⟨0, 0, 0⟩, 1 + (take 31 (field (take u (take 10 s).2).2).2).1, (crowd u (take 31 (field (take u (take 10 s).2).2).2).2).1, 0⟩, (crowd u (take 31 (field (take u (take 10 s).2).2).2).2).2) by simp [oper, h1])
  have b31 := take_bd 31 (by decide) (field (take u (take 10 s).2).2).2
  have hg := k0.lt
  have K0 := Lib.hid k0
  have H1 := Lib.hid h1
  clear k0 h1
  go_enter Tryz.func42, Tryz.ntmps42
  go_wp2_with fail
  refine (take_any g s 10 _ (by decide) (by have k0 := K0.out; exact (by repeat' (first | with_reducible exact k0 | with_reducible refine Blk.drew ?_ | with_reducible refine Blk.alloc ?_ _ | with_reducible refine Blk.far ?_ ?_ _ | (simp; done) | (simp; omega) | omega | exact k0)))).mono ?_
  rintro e w1 ⟨rfl, k1, hd1⟩
  have hz1 := hd1.size
  try simp at hz1
  have hD1 : Chg (fun k => k = g) w w1 := Chg.trans (by repeat' (first | with_reducible exact Chg.refl _ _ | with_reducible assumption | with_reducible refine Chg.alloc ?_ _ | with_reducible refine Chg.drew ?_ | with_reducible refine Chg.setCell ?_ (.inr ?_) _ | (simp; done) | (simp; omega) | omega)) (hd1.mono (fun k hk hs => hs))
  have hc1_0 : ∀ o, w1.cell? ⟨w.heap.size, o, none⟩ = _ := fun o => hd1.cell (p := ⟨w.heap.size, o, none⟩) (by first | (simp; done) | (simp; omega) | omega) (by first | omega | (simp; omega))
  have hf1_0 : ∀ o, w1.frozen? ⟨w.heap.size, o, none⟩ = _ := fun o => hd1.frozen (p := ⟨w.heap.size, o, none⟩) (by first | (simp; done) | (simp; omega) | omega) (by first | omega | (simp; omega))
  have hl1_0 : w.heap.size < w1.heap.size := by omega
  have hm1_0 : w.heap.size ≤ w1.heap.size := by omega
  rw [H1.out]
  go_wp2_with fail
  refine (take_any g _ u _ hu0 (by repeat' (first | with_reducible exact k1 | with_reducible refine Blk.drew ?_ | with_reducible refine Blk.alloc ?_ _ | with_reducible refine Blk.far ?_ ?_ _ | (simp; done) | (simp; omega) | omega | exact k1))).mono ?_
  rintro e w2 ⟨rfl, k2, hd2⟩
  have hz2 := hd2.size
  try simp at hz2
  have hD2 : Chg (fun k => k = g) w w2 := Chg.trans (by repeat' (first | with_reducible exact Chg.refl _ _ | with_reducible assumption | with_reducible refine Chg.alloc ?_ _ | with_reducible refine Chg.drew ?_ | with_reducible refine Chg.setCell ?_ (.inr ?_) _ | (simp; done) | (simp; omega) | omega)) (hd2.mono (fun k hk hs => hs))
  have hc2_0 : ∀ o, w2.cell? ⟨w.heap.size, o, none⟩ = _ := fun o => hd2.cell (p := ⟨w.heap.size, o, none⟩) (by first | (simp; done) | (simp; omega) | omega) (by first | omega | (simp; omega))
  have hf2_0 : ∀ o, w2.frozen? ⟨w.heap.size, o, none⟩ = _ := fun o => hd2.frozen (p := ⟨w.heap.size, o, none⟩) (by first | (simp; done) | (simp; omega) | omega) (by first | omega | (simp; omega))
  have hl2_0 : w.heap.size < w2.heap.size := by omega
  have hm2_0 : w.heap.size ≤ w2.heap.size := by omega
  have hc2_1 : ∀ o, w2.cell? ⟨w1.heap.size, o, none⟩ = _ := fun o => hd2.cell (p := ⟨w1.heap.size, o, none⟩) (by first | (simp; done) | (simp; omega) | omega) (by first | omega | (simp; omega))
  have hf2_1 : ∀ o, w2.frozen? ⟨w1.heap.size, o, none⟩ = _ := fun o => hd2.frozen (p := ⟨w1.heap.size, o, none⟩) (by first | (simp; done) | (simp; omega) | omega) (by first | omega | (simp; omega))
  have hl2_1 : w1.heap.size < w2.heap.size := by omega
  have hm2_1 : w1.heap.size ≤ w2.heap.size := by omega
  have ne1 : w.heap.size ≠ w1.heap.size := by omega
  have ne2 : w1.heap.size ≠ w.heap.size := by omega
  go_wp2_with fail
  refine (field_any g _ _ (by repeat' (first | with_reducible exact k2 | with_reducible refine Blk.drew ?_ | with_reducible refine Blk.alloc ?_ _ | with_reducible refine Blk.far ?_ ?_ _ | (simp; done) | (simp; omega) | omega | exact k2))).mono ?_
  rintro e w3 ⟨rfl, k3, hd3⟩
  have hz3 := hd3.size
  try simp at hz3
  have hD3 : Chg (fun k => k = g) w w3 := Chg.trans (by repeat' (first | with_reducible exact Chg.refl _ _ | with_reducible assumption | with_reducible refine Chg.alloc ?_ _ | with_reducible refine Chg.drew ?_ | with_reducible refine Chg.setCell ?_ (.inr ?_) _ | (simp; done) | (simp; omega) | omega)) (hd3.mono (fun k hk hs => hs))
  have hc3_0 : ∀ o, w3.cell? ⟨w.heap.size, o, none⟩ = _ := fun o => hd3.cell (p := ⟨w.heap.size, o, none⟩) (by first | (simp; done) | (simp; omega) | omega) (by first | omega | (simp; omega))
  have hf3_0 : ∀ o, w3.frozen? ⟨w.heap.size, o, none⟩ = _ := fun o => hd3.frozen (p := ⟨w.heap.size, o, none⟩) (by first | (simp; done) | (simp; omega) | omega) (by first | omega | (simp; omega))
  have hl3_0 : w.heap.size < w3.heap.size := by omega
  have hm3_0 : w.heap.size ≤ w3.heap.size := by omega
  have hc3_1 : ∀ o, w3.cell? ⟨w1.heap.size, o, none⟩ = _ := fun o => hd3.cell (p := ⟨w1.heap.size, o, none⟩) (by first | (simp; done) | (simp; omega) | omega) (by first | omega | (simp; omega))
  have hf3_1 : ∀ o, w3.frozen? ⟨w1.heap.size, o, none⟩ = _ := fun o => hd3.frozen (p := ⟨w1.heap.size, o, none⟩) (by first | (simp; done) | (simp; omega) | omega) (by first | omega | (simp; omega))
  have hl3_1 : w1.heap.size < w3.heap.size := by omega
  have hm3_1 : w1.heap.size ≤ w3.heap.size := by omega
  go_wp2_with fail
  refine (take_any g _ 31 _ (by decide) (by repeat' (first | with_reducible exact k3 | with_reducible refine Blk.drew ?_ | with_reducible refine Blk.alloc ?_ _ | with_reducible refine Blk.far ?_ ?_ _ | (simp; done) | (simp; omega) | omega | exact k3))).mono ?_
  rintro e w4 ⟨rfl, k4, hd4⟩
  have hz4 := hd4.size
  try simp at hz4
  have hD4 : Chg (fun k => k = g) w w4 := Chg.trans (by repeat' (first | with_reducible exact Chg.refl _ _ | with_reducible assumption | with_reducible refine Chg.alloc ?_ _ | with_reducible refine Chg.drew ?_ | with_reducible refine Chg.setCell ?_ (.inr ?_) _ | (simp; done) | (simp; omega) | omega)) (hd4.mono (fun k hk hs => hs))
  have hc4_0 : ∀ o, w4.cell? ⟨w.heap.size, o, none⟩ = _ := fun o => hd4.cell (p := ⟨w.heap.size, o, none⟩) (by first | (simp; done) | (simp; omega) | omega) (by first | omega | (simp; omega))
  have hf4_0 : ∀ o, w4.frozen? ⟨w.heap.size, o, none⟩ = _ := fun o => hd4.frozen (p := ⟨w.heap.size, o, none⟩) (by first | (simp; done) | (simp; omega) | omega) (by first | omega | (simp; omega))
  have hl4_0 : w.heap.size < w4.heap.size := by omega
  have hm4_0 : w.heap.size ≤ w4.heap.size := by omega
  have hc4_1 : ∀ o, w4.cell? ⟨w1.heap.size, o, none⟩ = _ := fun o => hd4.cell (p := ⟨w1.heap.size, o, none⟩) (by first | (simp; done) | (simp; omega) | omega) (by first | omega | (simp; omega))
  have hf4_1 : ∀ o, w4.frozen? ⟨w1.heap.size, o, none⟩ = _ := fun o => hd4.frozen (p := ⟨w1.heap.size, o, none⟩) (by first | (simp; done) | (simp; omega) | omega) (by first | omega | (simp; omega))
  have hl4_1 : w1.heap.size < w4.heap.size := by omega
  have hm4_1 : w1.heap.size ≤ w4.heap.size := by omega
  go_wp2_with fail
  refine (crowd_any g _ u _ hu (by repeat' (first | with_reducible exact k4 | with_reducible refine Blk.drew ?_ | with_reducible refine Blk.alloc ?_ _ | with_reducible refine Blk.far ?_ ?_ _ | (simp; done) | (simp; omega) | omega | exact k4))).mono ?_
  rintro e w5 ⟨rfl, k5, hd5⟩
  have hz5 := hd5.size
  try simp at hz5
  have hD5 : Chg (fun k => k = g) w w5 := Chg.trans (by repeat' (first | with_reducible exact Chg.refl _ _ | with_reducible assumption | with_reducible refine Chg.alloc ?_ _ | with_reducible refine Chg.drew ?_ | with_reducible refine Chg.setCell ?_ (.inr ?_) _ | (simp; done) | (simp; omega) | omega)) (hd5.mono (fun k hk hs => hs))
  have hc5_0 : ∀ o, w5.cell? ⟨w.heap.size, o, none⟩ = _ := fun o => hd5.cell (p := ⟨w.heap.size, o, none⟩) (by first | (simp; done) | (simp; omega) | omega) (by first | omega | (simp; omega))
  have hf5_0 : ∀ o, w5.frozen? ⟨w.heap.size, o, none⟩ = _ := fun o => hd5.frozen (p := ⟨w.heap.size, o, none⟩) (by first | (simp; done) | (simp; omega) | omega) (by first | omega | (simp; omega))
  have hl5_0 : w.heap.size < w5.heap.size := by omega
  have hm5_0 : w.heap.size ≤ w5.heap.size := by omega
  have hc5_1 : ∀ o, w5.cell? ⟨w1.heap.size, o, none⟩ = _ := fun o => hd5.cell (p := ⟨w1.heap.size, o, none⟩) (by first | (simp; done) | (simp; omega) | omega) (by first | omega | (simp; omega))
  have hf5_1 : ∀ o, w5.frozen? ⟨w1.heap.size, o, none⟩ = _ := fun o => hd5.frozen (p := ⟨w1.heap.size, o, none⟩) (by first | (simp; done) | (simp; omega) | omega) (by first | omega | (simp; omega))
  have hl5_1 : w1.heap.size < w5.heap.size := by omega
  have hm5_1 : w1.heap.size ≤ w5.heap.size := by omega
  go_wp2
  refine bodyPost_ret (v := .agg #[.int .u8 8, .int .i64 (take u (take 10 s).2).1, .int .i64 (field (take u (take 10 s).2).2).1.c1, .int .i64 (field (take u (take 10 s).2).2).1.r1, .int .i64 (field (take u (take 10 s).2).2).1.c2, .int .i64 (field (take u (take 10 s).2).2).1.r2, str [], .int .u64 0, .int .u64 0, .int .u64 0, .int .u8 (1 + (take 31 (field (take u (take 10 s).2).2).2).1), .int .u64 (crowd u (take 31 (field (take u (take 10 s).2).2).2).2).1, .int .i64 0]) (by simp (maxDischargeDepth := 9) [results, Tryz.results42, go_sem, hc1_0, hl1_0, hc2_0, hc3_0, hc4_0, hc5_0]) rfl ?_
  exact ⟨by rw [HX.out]; rfl, by rw [HX.out]; exact (by repeat' (first | with_reducible exact k5 | with_reducible refine Blk.drew ?_ | with_reducible refine Blk.alloc ?_ _ | with_reducible refine Blk.far ?_ ?_ _ | (simp; done) | (simp; omega) | omega | exact k5)), (by repeat' (first | with_reducible exact Chg.refl _ _ | with_reducible assumption | with_reducible refine Chg.alloc ?_ _ | with_reducible refine Chg.drew ?_ | with_reducible refine Chg.setCell ?_ (.inr ?_) _ | (simp; done) | (simp; omega) | omega))⟩
theorem oper_9 (g : Nat) (s : Bytes) (u : Nat) (w : World) (_hu : (u : Int) ≤ 4) (hu0 : (0 : Int) < (u : Int)) (h1 : (take 10 s).1 = 8) (k0 : Blk w g 74 #[str s]) :
    Calls Tryz.prog 42 #[.pointer (some ⟨g, 0, none⟩), .int .i64 u] w fun e w' => e = .returned (.agg (cOpr (oper u s).1).toArray) ∧ Blk w' g 74 #[str (oper u s).2] ∧ Chg (fun k => k = g) w w' := by
  have HX := Lib.hid (show oper u s = (⟨9, (take u (take 10 s).2).1, ⟨0, 0, 0, 0⟩, [], ⟨0, 0, 0⟩, 0, 0, (take 4 (take u (take 10 s).2).2).1⟩, (take 4 (take u (take 10 s).2).2).2) by simp [oper, h1])
  have hg := k0.lt
  have K0 := Lib.hid k0
  have H1 := Lib.hid h1
  clear k0 h1
  go_enter Tryz.func42, Tryz.ntmps42
  go_wp2_with fail
  refine (take_any g s 10 _ (by decide) (by have k0 := K0.out; exact (by repeat' (first | with_reducible exact k0 | with_reducible refine Blk.drew ?_ | with_reducible refine Blk.alloc ?_ _ | with_reducible refine Blk.far ?_ ?_ _ | (simp; done) | (simp; omega) | omega | exact k0)))).mono ?_
  rintro e w1 ⟨rfl, k1, hd1⟩
  have hz1 := hd1.size
  try simp at hz1
  have hD1 : Chg (fun k => k = g) w w1 := Chg.trans (by repeat' (first | with_reducible exact Chg.refl _ _ | with_reducible assumption | with_reducible refine Chg.alloc ?_ _ | with_reducible refine Chg.drew ?_ | with_reducible refine Chg.setCell ?_ (.inr ?_) _ | (simp; done) | (simp; omega) | omega)) (hd1.mono (fun k hk hs => hs))
  have hc1_0 : ∀ o, w1.cell? ⟨w.heap.size, o, none⟩ = _ := fun o => hd1.cell (p := ⟨w.heap.size, o, none⟩) (by first | (simp; done) | (simp; omega) | omega) (by first | omega | (simp; omega))
  have hf1_0 : ∀ o, w1.frozen? ⟨w.heap.size, o, none⟩ = _ := fun o => hd1.frozen (p := ⟨w.heap.size, o, none⟩) (by first | (simp; done) | (simp; omega) | omega) (by first | omega | (simp; omega))
  have hl1_0 : w.heap.size < w1.heap.size := by omega
  have hm1_0 : w.heap.size ≤ w1.heap.size := by omega
  rw [H1.out]
  go_wp2_with fail
  refine (take_any g _ u _ hu0 (by repeat' (first | with_reducible exact k1 | with_reducible refine Blk.drew ?_ | with_reducible refine Blk.alloc ?_ _ | with_reducible refine Blk.far ?_ ?_ _ | (simp; done) | (simp; omega) | omega | exact k1))).mono ?_
  rintro e w2 ⟨rfl, k2, hd2⟩
  have hz2 := hd2.size
  try simp at hz2
  have hD2 : Chg (fun k => k = g) w w2 := Chg.trans (by repeat' (first | with_reducible exact Chg.refl _ _ | with_reducible assumption | with_reducible refine Chg.alloc ?_ _ | with_reducible refine Chg.drew ?_ | with_reducible refine Chg.setCell ?_ (.inr ?_) _ | (simp; done) | (simp; omega) | omega)) (hd2.mono (fun k hk hs => hs))
  have hc2_0 : ∀ o, w2.cell? ⟨w.heap.size, o, none⟩ = _ := fun o => hd2.cell (p := ⟨w.heap.size, o, none⟩) (by first | (simp; done) | (simp; omega) | omega) (by first | omega | (simp; omega))
  have hf2_0 : ∀ o, w2.frozen? ⟨w.heap.size, o, none⟩ = _ := fun o => hd2.frozen (p := ⟨w.heap.size, o, none⟩) (by first | (simp; done) | (simp; omega) | omega) (by first | omega | (simp; omega))
  have hl2_0 : w.heap.size < w2.heap.size := by omega
  have hm2_0 : w.heap.size ≤ w2.heap.size := by omega
  have hc2_1 : ∀ o, w2.cell? ⟨w1.heap.size, o, none⟩ = _ := fun o => hd2.cell (p := ⟨w1.heap.size, o, none⟩) (by first | (simp; done) | (simp; omega) | omega) (by first | omega | (simp; omega))
  have hf2_1 : ∀ o, w2.frozen? ⟨w1.heap.size, o, none⟩ = _ := fun o => hd2.frozen (p := ⟨w1.heap.size, o, none⟩) (by first | (simp; done) | (simp; omega) | omega) (by first | omega | (simp; omega))
  have hl2_1 : w1.heap.size < w2.heap.size := by omega
  have hm2_1 : w1.heap.size ≤ w2.heap.size := by omega
  have ne1 : w.heap.size ≠ w1.heap.size := by omega
  have ne2 : w1.heap.size ≠ w.heap.size := by omega
  go_wp2_with fail
  refine (take_any g _ 4 _ (by decide) (by repeat' (first | with_reducible exact k2 | with_reducible refine Blk.drew ?_ | with_reducible refine Blk.alloc ?_ _ | with_reducible refine Blk.far ?_ ?_ _ | (simp; done) | (simp; omega) | omega | exact k2))).mono ?_
  rintro e w3 ⟨rfl, k3, hd3⟩
  have hz3 := hd3.size
  try simp at hz3
  have hD3 : Chg (fun k => k = g) w w3 := Chg.trans (by repeat' (first | with_reducible exact Chg.refl _ _ | with_reducible assumption | with_reducible refine Chg.alloc ?_ _ | with_reducible refine Chg.drew ?_ | with_reducible refine Chg.setCell ?_ (.inr ?_) _ | (simp; done) | (simp; omega) | omega)) (hd3.mono (fun k hk hs => hs))
  have hc3_0 : ∀ o, w3.cell? ⟨w.heap.size, o, none⟩ = _ := fun o => hd3.cell (p := ⟨w.heap.size, o, none⟩) (by first | (simp; done) | (simp; omega) | omega) (by first | omega | (simp; omega))
  have hf3_0 : ∀ o, w3.frozen? ⟨w.heap.size, o, none⟩ = _ := fun o => hd3.frozen (p := ⟨w.heap.size, o, none⟩) (by first | (simp; done) | (simp; omega) | omega) (by first | omega | (simp; omega))
  have hl3_0 : w.heap.size < w3.heap.size := by omega
  have hm3_0 : w.heap.size ≤ w3.heap.size := by omega
  have hc3_1 : ∀ o, w3.cell? ⟨w1.heap.size, o, none⟩ = _ := fun o => hd3.cell (p := ⟨w1.heap.size, o, none⟩) (by first | (simp; done) | (simp; omega) | omega) (by first | omega | (simp; omega))
  have hf3_1 : ∀ o, w3.frozen? ⟨w1.heap.size, o, none⟩ = _ := fun o => hd3.frozen (p := ⟨w1.heap.size, o, none⟩) (by first | (simp; done) | (simp; omega) | omega) (by first | omega | (simp; omega))
  have hl3_1 : w1.heap.size < w3.heap.size := by omega
  have hm3_1 : w1.heap.size ≤ w3.heap.size := by omega
  go_wp2
  refine bodyPost_ret (v := .agg #[.int .u8 9, .int .i64 (take u (take 10 s).2).1, .int .i64 0, .int .i64 0, .int .i64 0, .int .i64 0, str [], .int .u64 0, .int .u64 0, .int .u64 0, .int .u8 (0), .int .u64 0, .int .i64 (take 4 (take u (take 10 s).2).2).1]) (by simp (maxDischargeDepth := 9) [results, Tryz.results42, go_sem, hc1_0, hl1_0, hc2_0, hc3_0]) rfl ?_
  exact ⟨by rw [HX.out]; rfl, by rw [HX.out]; exact (by repeat' (first | with_reducible exact k3 | with_reducible refine Blk.drew ?_ | with_reducible refine Blk.alloc ?_ _ | with_reducible refine Blk.far ?_ ?_ _ | (simp; done) | (simp; omega) | omega | exact k3)), (by repeat' (first | with_reducible exact Chg.refl _ _ | with_reducible assumption | with_reducible refine Chg.alloc ?_ _ | with_reducible refine Chg.drew ?_ | with_reducible refine Chg.setCell ?_ (.inr ?_) _ | (simp; done) | (simp; omega) | omega))⟩
theorem oper_10 (g : Nat) (s : Bytes) (u : Nat) (w : World) (_hu : (u : Int) ≤ 4) (hu0 : (0 : Int) < (u : Int)) (h1 : (take 10 s).1 = 9) (k0 : Blk w g 74 #[str s]) :
    Calls Tryz.prog 42 #[.pointer (some ⟨g, 0, none⟩), .int .i64 u] w fun e w' => e = .returned (.agg (cOpr (oper u s).1).toArray) ∧ Blk w' g 74 #[str (oper u s).2] ∧ Chg (fun k => k = g) w w' := by
  have HX := Lib.hid (show oper u s = (⟨10, (take u (take 10 s).2).1, ⟨0, 0, 0, 0⟩, [], ⟨0, 0, 0⟩, 0, 0, 0⟩, (take u (take 10 s).2).2) by simp [oper, h1])
  have hg := k0.lt
  have K0 := Lib.hid k0
  have H1 := Lib.hid h1
  clear k0 h1
  go_enter Tryz.func42, Tryz.ntmps42
  go_wp2_with fail
  refine (take_any g s 10 _ (by decide) (by have k0 := K0.out; exact (by repeat' (first | with_reducible exact k0 | with_reducible refine Blk.drew ?_ | with_reducible refine Blk.alloc ?_ _ | with_reducible refine Blk.far ?_ ?_ _ | (simp; done) | (simp; omega) | omega | exact k0)))).mono ?_
  rintro e w1 ⟨rfl, k1, hd1⟩
  have hz1 := hd1.size
  try simp at hz1
  have hD1 : Chg (fun k => k = g) w w1 := Chg.trans (by repeat' (first | with_reducible exact Chg.refl _ _ | with_reducible assumption | with_reducible refine Chg.alloc ?_ _ | with_reducible refine Chg.drew ?_ | with_reducible refine Chg.setCell ?_ (.inr ?_) _ | (simp; done) | (simp; omega) | omega)) (hd1.mono (fun k hk hs => hs))
  have hc1_0 : ∀ o, w1.cell? ⟨w.heap.size, o, none⟩ = _ := fun o => hd1.cell (p := ⟨w.heap.size, o, none⟩) (by first | (simp; done) | (simp; omega) | omega) (by first | omega | (simp; omega))
  have hf1_0 : ∀ o, w1.frozen? ⟨w.heap.size, o, none⟩ = _ := fun o => hd1.frozen (p := ⟨w.heap.size, o, none⟩) (by first | (simp; done) | (simp; omega) | omega) (by first | omega | (simp; omega))
  have hl1_0 : w.heap.size < w1.heap.size := by omega
  have hm1_0 : w.heap.size ≤ w1.heap.size := by omega
  rw [H1.out]
  go_wp2_with fail
  refine (take_any g _ u _ hu0 (by repeat' (first | with_reducible exact k1 | with_reducible refine Blk.drew ?_ | with_reducible refine Blk.alloc ?_ _ | with_reducible refine Blk.far ?_ ?_ _ | (simp; done) | (simp; omega) | omega | exact k1))).mono ?_
  rintro e w2 ⟨rfl, k2, hd2⟩
  have hz2 := hd2.size
  try simp at hz2
  have hD2 : Chg (fun k => k = g) w w2 := Chg.trans (by repeat' (first | with_reducible exact Chg.refl _ _ | with_reducible assumption | with_reducible refine Chg.alloc ?_ _ | with_reducible refine Chg.drew ?_ | with_reducible refine Chg.setCell ?_ (.inr ?_) _ | (simp; done) | (simp; omega) | omega)) (hd2.mono (fun k hk hs => hs))
  have hc2_0 : ∀ o, w2.cell? ⟨w.heap.size, o, none⟩ = _ := fun o => hd2.cell (p := ⟨w.heap.size, o, none⟩) (by first | (simp; done) | (simp; omega) | omega) (by first | omega | (simp; omega))
  have hf2_0 : ∀ o, w2.frozen? ⟨w.heap.size, o, none⟩ = _ := fun o => hd2.frozen (p := ⟨w.heap.size, o, none⟩) (by first | (simp; done) | (simp; omega) | omega) (by first | omega | (simp; omega))
  have hl2_0 : w.heap.size < w2.heap.size := by omega
  have hm2_0 : w.heap.size ≤ w2.heap.size := by omega
  have hc2_1 : ∀ o, w2.cell? ⟨w1.heap.size, o, none⟩ = _ := fun o => hd2.cell (p := ⟨w1.heap.size, o, none⟩) (by first | (simp; done) | (simp; omega) | omega) (by first | omega | (simp; omega))
  have hf2_1 : ∀ o, w2.frozen? ⟨w1.heap.size, o, none⟩ = _ := fun o => hd2.frozen (p := ⟨w1.heap.size, o, none⟩) (by first | (simp; done) | (simp; omega) | omega) (by first | omega | (simp; omega))
  have hl2_1 : w1.heap.size < w2.heap.size := by omega
  have hm2_1 : w1.heap.size ≤ w2.heap.size := by omega
  have ne1 : w.heap.size ≠ w1.heap.size := by omega
  have ne2 : w1.heap.size ≠ w.heap.size := by omega
  go_wp2
  refine bodyPost_ret (v := .agg #[.int .u8 10, .int .i64 (take u (take 10 s).2).1, .int .i64 0, .int .i64 0, .int .i64 0, .int .i64 0, str [], .int .u64 0, .int .u64 0, .int .u64 0, .int .u8 (0), .int .u64 0, .int .i64 0]) (by simp (maxDischargeDepth := 9) [results, Tryz.results42, go_sem, hc1_0, hl1_0, hc2_0]) rfl ?_
  exact ⟨by rw [HX.out]; rfl, by rw [HX.out]; exact (by repeat' (first | with_reducible exact k2 | with_reducible refine Blk.drew ?_ | with_reducible refine Blk.alloc ?_ _ | with_reducible refine Blk.far ?_ ?_ _ | (simp; done) | (simp; omega) | omega | exact k2)), (by repeat' (first | with_reducible exact Chg.refl _ _ | with_reducible assumption | with_reducible refine Chg.alloc ?_ _ | with_reducible refine Chg.drew ?_ | with_reducible refine Chg.setCell ?_ (.inr ?_) _ | (simp; done) | (simp; omega) | omega))⟩
theorem oper_any (g : Nat) (s : Bytes) (u : Nat) (w : World) (hu : (u : Int) ≤ 4) (hu0 : (0 : Int) < (u : Int)) (k0 : Blk w g 74 #[str s]) :
    Calls Tryz.prog 42 #[.pointer (some ⟨g, 0, none⟩), .int .i64 u] w fun e w' => e = .returned (.agg (cOpr (oper u s).1).toArray) ∧ Blk w' g 74 #[str (oper u s).2] ∧ Chg (fun k => k = g) w w' := by
  have hb := take_bd 10 (by decide) s
  have h : (take 10 s).1 = 0 ∨ (take 10 s).1 = 1 ∨ (take 10 s).1 = 2 ∨ (take 10 s).1 = 3 ∨ (take 10 s).1 = 4 ∨ (take 10 s).1 = 5 ∨ (take 10 s).1 = 6 ∨ (take 10 s).1 = 7 ∨ (take 10 s).1 = 8 ∨ (take 10 s).1 = 9 := by omega
  rcases h with h | h | h | h | h | h | h | h | h | h
  · exact oper_1 g s u w hu hu0 h k0
  · exact oper_2 g s u w hu hu0 h k0
  · exact oper_3 g s u w hu hu0 h k0
  · exact oper_4 g s u w hu hu0 h k0
  · exact oper_5 g s u w hu hu0 h k0
  · exact oper_6 g s u w hu hu0 h k0
  · exact oper_7 g s u w hu hu0 h k0
  · exact oper_8 g s u w hu hu0 h k0
  · exact oper_9 g s u w hu hu0 h k0
  · exact oper_10 g s u w hu hu0 h k0
end Go.Proofs.YtamcgggmfghljaaGreatDoor
