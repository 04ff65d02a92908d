/- Layer 41: field (reference). -/
import Derived.Deep.RegionHeld3
import Derived.Deep.RegionWith
import Derived.BigRegion
import Derived.Test.YtamcgggmfghljaaGreatDoorR20
namespace Go.Proofs.YtamcgggmfghljaaGreatDoor
open Go.RowKit

set_option maxHeartbeats 1000000 in
theorem rfield_any (g : Nat) (s : Bytes) (w : World) (k0 : Blk w g 90 #[str s]) :
    Calls Tryz.prog 45 #[.pointer (some ⟨g, 0, none⟩)] w fun e w' =>
      e = .returned (.agg #[.int .i64 (field s).1.c1, .int .i64 (field s).1.r1, .int .i64 (field s).1.c2, .int .i64 (field s).1.r2]) ∧ Blk w' g 90 #[str (field s).2] ∧ Chg (fun k => k = g) w w' := by
  have hg := k0.lt
  have b1 := take_bd 3 (by decide) s
  have b2 := take_bd 4 (by decide) (take 3 s).2
  have b3 := take_bd 2 (by decide) (spot s).2
  have b4 := take_bd 3 (by decide) (take 2 (spot s).2).2
  have c1 : 1 ≤ (spot s).1.col ∧ (spot s).1.col ≤ 3 := by show 1 ≤ 1 + _ ∧ 1 + _ ≤ 3; omega
  have c2 : 1 ≤ (spot s).1.row ∧ (spot s).1.row ≤ 4 := by show 1 ≤ 1 + _ ∧ 1 + _ ≤ 4; omega
  have e1 : IntKind.i64.wrap ((spot s).1.col + (take 2 (spot s).2).1) = (spot s).1.col + (take 2 (spot s).2).1 := IntWalk.i64_in _ (by omega)
  have e2 : IntKind.i64.wrap ((spot s).1.row + (take 3 (take 2 (spot s).2).2).1) = (spot s).1.row + (take 3 (take 2 (spot s).2).2).1 := IntWalk.i64_in _ (by omega)
  have K0 := Lib.hid k0
  clear k0 b1 b2
  go_enter Tryz.func45, Tryz.ntmps45
  go_wp2_with fail
  refine (rspot_any g s _ (by have k0 := K0.out; exact (by repeat' (first | with_reducible exact k0 | with_reducible refine Blk.drew ?_ | with_reducible refine Blk.alloc ?_ _ | with_reducible refine Blk.far ?_ ?_ _ | (simp; done) | (simp; omega) | omega | exact k0)))).mono ?_
  rintro e w1 ⟨rfl, k1, hd1⟩
  have hz1 := hd1.size
  try simp at hz1
  have hD1 : Chg (fun k => k = g) w w1 := Chg.trans (by repeat' (first | with_reducible exact Chg.refl _ _ | with_reducible assumption | with_reducible refine Chg.alloc ?_ _ | with_reducible refine Chg.drew ?_ | with_reducible refine Chg.setCell ?_ (.inr ?_) _ | (simp; done) | (simp; omega) | omega)) (hd1.mono (fun k hk hs => hs))
  have hc1_0 : ∀ o, w1.cell? ⟨w.heap.size, o, none⟩ = _ := fun o => hd1.cell (p := ⟨w.heap.size, o, none⟩) (by first | (simp; done) | (simp; omega) | omega) (by first | omega | (simp; omega))
  have hl1_0 : w.heap.size < w1.heap.size := by omega
  have hm1_0 : w.heap.size ≤ w1.heap.size := by omega
  have hn1_0 : w.heap.size ≤ w1.heap.size + 1 := by omega
  have ho1_0 : w.heap.size ≤ w1.heap.size + 1 + 1 := by omega
  have hf1_0 : ∀ o, w1.frozen? ⟨w.heap.size, o, none⟩ = _ := fun o => hd1.frozen (p := ⟨w.heap.size, o, none⟩) (by first | (simp; done) | (simp; omega) | omega) (by first | omega | (simp; omega))
  go_wp2_with fail
  refine (r03_one _ _ _).mono ?_
  rintro e w2 ⟨rfl, hb2⟩
  have k2 : Blk w2 g 90 #[str (spot s).2] := (k1.alloc _).below_ hb2
  have hz2 := hb2.size
  simp at hz2
  have hD2 : Chg (fun k => k = g) w w2 := (hD1.alloc _).below hb2
  have hc2_0 : ∀ o, w2.cell? ⟨w.heap.size, o, none⟩ = _ := fun o => hb2.cell (p := ⟨w.heap.size, o, none⟩) (by simp; omega)
  have hf2_0 : ∀ o, w2.frozen? ⟨w.heap.size, o, none⟩ = _ := fun o => hb2.frozen (p := ⟨w.heap.size, o, none⟩) (by simp; omega)
  have hl2_0 : w.heap.size < w2.heap.size := by omega
  have hm2_0 : w.heap.size ≤ w2.heap.size := by omega
  go_wp2_with fail
  go_region_with ((go_at_call 43; refine (rtake_any g _ 2 _ (by decide) (by repeat' (first | with_reducible exact k2 | with_reducible refine Blk.drew ?_ | with_reducible refine Blk.alloc ?_ _ | with_reducible refine Blk.far ?_ ?_ _ | (simp; done) | (simp; omega) | omega | exact k2))).mono ?_; rintro e w3 ⟨rfl, k3, hd3⟩; have g2 : w3.cell? ⟨w2.heap.size, 2, none⟩ = some (.int .i64 (spot s).1.col) := (hd3.cell (p := ⟨w2.heap.size, 2, none⟩) (by simp) (by simp; omega)).trans (by go_simp); have g3 : w3.frozen? ⟨w2.heap.size, 2, none⟩ = false := (hd3.frozen (p := ⟨w2.heap.size, 2, none⟩) (by simp) (by simp; omega)).trans (by go_simp)))
  all_goals
    have hz3 := hd3.size
    try simp at hz3
    have hD3 : Chg (fun k => k = g) w w3 := Chg.trans (by repeat' (first | with_reducible exact Chg.refl _ _ | with_reducible assumption | with_reducible refine Chg.alloc ?_ _ | with_reducible refine Chg.drew ?_ | with_reducible refine Chg.setCell ?_ (.inr ?_) _ | (simp; done) | (simp; omega) | omega)) (hd3.mono (fun k hk hs => hs))
    have g4 : w3.cell? ⟨w2.heap.size, 3, none⟩ = some (.int .i64 (spot s).1.row) := (hd3.cell (p := ⟨w2.heap.size, 3, none⟩) (by simp) (by simp; omega)).trans (by go_simp)
    have g5 : w3.frozen? ⟨w2.heap.size, 3, none⟩ = false := (hd3.frozen (p := ⟨w2.heap.size, 3, none⟩) (by simp) (by simp; omega)).trans (by go_simp)
    have g6 : w3.cell? ⟨w2.heap.size, 0, none⟩ = some (.int .i64 (spot s).1.col) := (hd3.cell (p := ⟨w2.heap.size, 0, none⟩) (by simp) (by simp; omega)).trans (by go_simp)
    have g7 : w3.cell? ⟨w2.heap.size, 1, none⟩ = some (.int .i64 (spot s).1.row) := (hd3.cell (p := ⟨w2.heap.size, 1, none⟩) (by simp) (by simp; omega)).trans (by go_simp)
    go_wp2_with fail
    go_region_with ((go_at_call 43; refine (rtake_any g _ 3 _ (by decide) (by repeat' (first | with_reducible exact k3 | with_reducible refine Blk.drew ?_ | with_reducible refine Blk.alloc ?_ _ | with_reducible refine Blk.far ?_ ?_ _ | (simp; done) | (simp; omega) | omega | exact k3))).mono ?_; rintro e w4 ⟨rfl, k4, hd4⟩; have i2 : w4.cell? ⟨w2.heap.size, 3, none⟩ = some (.int .i64 (spot s).1.row) := (hd4.cell (p := ⟨w2.heap.size, 3, none⟩) (by simp; omega) (by simp; omega)).trans (by go_simp); have i3 : w4.frozen? ⟨w2.heap.size, 3, none⟩ = false := (hd4.frozen (p := ⟨w2.heap.size, 3, none⟩) (by simp; omega) (by simp; omega)).trans (by go_simp)))
    all_goals
      have hz4 := hd4.size
      try simp at hz4
      have hD4 : Chg (fun k => k = g) w w4 := Chg.trans (by repeat' (first | with_reducible exact Chg.refl _ _ | with_reducible assumption | with_reducible refine Chg.alloc ?_ _ | with_reducible refine Chg.drew ?_ | with_reducible refine Chg.setCell ?_ (.inr ?_) _ | (simp; done) | (simp; omega) | omega)) (hd4.mono (fun k hk hs => hs))
      have j0 : w4.cell? ⟨w2.heap.size, 0, none⟩ = some (.int .i64 (spot s).1.col) := (hd4.cell (p := ⟨w2.heap.size, 0, none⟩) (by simp; omega) (by simp; omega)).trans (by go_simp)
      have j1 : w4.cell? ⟨w2.heap.size, 1, none⟩ = some (.int .i64 (spot s).1.row) := (hd4.cell (p := ⟨w2.heap.size, 1, none⟩) (by simp; omega) (by simp; omega)).trans (by go_simp)
      have j2 : w4.cell? ⟨w2.heap.size, 2, none⟩ = some (.int .i64 ((spot s).1.col + (take 2 (spot s).2).1)) := (hd4.cell (p := ⟨w2.heap.size, 2, none⟩) (by simp; omega) (by simp; omega)).trans (by go_simp)
      have q3 : ∀ o, w3.cell? ⟨w.heap.size, o, none⟩ = _ := fun o => hd3.cell (p := ⟨w.heap.size, o, none⟩) (by simp; omega) (by simp; omega)
      have q4 : ∀ o, w4.cell? ⟨w.heap.size, o, none⟩ = _ := fun o => hd4.cell (p := ⟨w.heap.size, o, none⟩) (by simp; omega) (by simp; omega)
      have r3 : ∀ o, w3.frozen? ⟨w.heap.size, o, none⟩ = _ := fun o => hd3.frozen (p := ⟨w.heap.size, o, none⟩) (by simp; omega) (by simp; omega)
      have r4 : ∀ o, w4.frozen? ⟨w.heap.size, o, none⟩ = _ := fun o => hd4.frozen (p := ⟨w.heap.size, o, none⟩) (by simp; omega) (by simp; omega)
      have l1 : w.heap.size < w3.heap.size := by omega
      have l2 : w.heap.size ≠ w2.heap.size := by omega
      have l3 : w2.heap.size ≠ w.heap.size := by omega
      go_wp2
      refine bodyPost_ret (v := .agg #[.int .i64 (spot s).1.col, .int .i64 (spot s).1.row, .int .i64 ((spot s).1.col + (take 2 (spot s).2).1), .int .i64 ((spot s).1.row + (take 3 (take 2 (spot s).2).2).1)]) (by simp (maxDischargeDepth := 9) [results, Tryz.results45, go_sem, hc1_0, hc2_0, q3, q4, hl1_0, hl2_0]) rfl ?_
      exact ⟨rfl, (by repeat' (first | with_reducible exact k4 | with_reducible refine Blk.drew ?_ | with_reducible refine Blk.alloc ?_ _ | with_reducible refine Blk.far ?_ ?_ _ | (simp; done) | (simp; omega) | omega | exact k4)), (by repeat' (first | with_reducible exact Chg.refl _ _ | with_reducible assumption | with_reducible refine Chg.alloc ?_ _ | with_reducible refine Chg.drew ?_ | with_reducible refine Chg.setCell ?_ (.inr ?_) _ | (simp; done) | (simp; omega) | omega))⟩


end Go.Proofs.YtamcgggmfghljaaGreatDoor
