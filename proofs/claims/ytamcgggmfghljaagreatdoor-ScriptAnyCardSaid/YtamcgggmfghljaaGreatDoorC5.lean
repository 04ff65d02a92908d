/- Layer 41: field (program). · Layer 41 (program): the texts of a spot and a field. · Layer 41 (program): the content that bytes are taken as (printed by tools/gen_content.py). · Layer 41: what bytes are read as: entries put at their places (the program's way, the refe -/
import Derived.Deep.RegionHeld3
import Derived.Deep.RegionWith
import Derived.BigRegion
import Derived.Test.YtamcgggmfghljaaGreatDoorC4
set_option maxRecDepth 100000
set_option maxHeartbeats 8000000
namespace Go.Proofs.YtamcgggmfghljaaGreatDoor
open Go.RowKit
theorem field_any (g : Nat) (s : Bytes) (w : World) (k0 : Blk w g 74 #[str s]) :
    Calls Tryz.prog 37 #[.pointer (some ⟨g, 0, none⟩)] w fun e w' =>
      e = .returned (.agg #[.int .i64 (field s).1.c1, .int .i64 (field s).1.r1, .int .i64 (field s).1.c2, .int .i64 (field s).1.r2]) ∧ Blk w' g 74 #[str (field s).2] ∧ Chg (fun k => k = g) w w' := by
  have hg := k0.lt
  have b1 := take_bd 3 (by decide) s
  have b2 := take_bd 4 (by decide) (take 3 s).2
  have b3 := take_bd 2 (by decide) (spot s).2
  have b4 := take_bd 3 (by decide) (take 2 (spot s).2).2
  have c1 : 1 ≤ (spot s).1.col ∧ (spot s).1.col ≤ 3 := by show 1 ≤ 1 + _ ∧ 1 + _ ≤ 3; omega
  have c2 : 1 ≤ (spot s).1.row ∧ (spot s).1.row ≤ 4 := by show 1 ≤ 1 + _ ∧ 1 + _ ≤ 4; omega
  have e1 : IntKind.i64.wrap ((spot s).1.col + (take 2 (spot s).2).1) = (spot s).1.col + (take 2 (spot s).2).1 := IntWalk.i64_in _ (by omega)
  have e2 : IntKind.i64.wrap ((spot s).1.row + (take 3 (take 2 (spot s).2).2).1) = (spot s).1.row + (take 3 (take 2 (spot s).2).2).1 := IntWalk.i64_in _ (by omega)
  have K0 := Lib.hid k0
  clear k0 b1 b2
  go_enter Tryz.func37, Tryz.ntmps37
  go_wp2_with fail
  refine (spot_any g s _ (by have k0 := K0.out; exact (by repeat' (first | with_reducible exact k0 | with_reducible refine Blk.drew ?_ | with_reducible refine Blk.alloc ?_ _ | with_reducible refine Blk.far ?_ ?_ _ | (simp; done) | (simp; omega) | omega | exact k0)))).mono ?_
  rintro e w1 ⟨rfl, k1, hd1⟩
  have hz1 := hd1.size
  try simp at hz1
  have hD1 : Chg (fun k => k = g) w w1 := Chg.trans (by repeat' (first | with_reducible exact Chg.refl _ _ | with_reducible assumption | with_reducible refine Chg.alloc ?_ _ | with_reducible refine Chg.drew ?_ | with_reducible refine Chg.setCell ?_ (.inr ?_) _ | (simp; done) | (simp; omega) | omega)) (hd1.mono (fun k hk hs => hs))
  have hc1_0 : ∀ o, w1.cell? ⟨w.heap.size, o, none⟩ = _ := fun o => hd1.cell (p := ⟨w.heap.size, o, none⟩) (by first | (simp; done) | (simp; omega) | omega) (by first | omega | (simp; omega))
  have hl1_0 : w.heap.size < w1.heap.size := by omega
  have hm1_0 : w.heap.size ≤ w1.heap.size := by omega
  have hn1_0 : w.heap.size ≤ w1.heap.size + 1 := by omega
  have ho1_0 : w.heap.size ≤ w1.heap.size + 1 + 1 := by omega
  have hf1_0 : ∀ o, w1.frozen? ⟨w.heap.size, o, none⟩ = _ := fun o => hd1.frozen (p := ⟨w.heap.size, o, none⟩) (by first | (simp; done) | (simp; omega) | omega) (by first | omega | (simp; omega))
  go_wp2_with fail
  refine (rect_one _ _ _).mono ?_
  rintro e w2 ⟨rfl, hb2⟩
  have k2 : Blk w2 g 74 #[str (spot s).2] := k1.below_ hb2
  have hz2 := hb2.size
  have hD2 : Chg (fun k => k = g) w w2 := hD1.below hb2
  have hc2_0 : ∀ o, w2.cell? ⟨w.heap.size, o, none⟩ = _ := fun o => hb2.cell (p := ⟨w.heap.size, o, none⟩) (by omega)
  have hf2_0 : ∀ o, w2.frozen? ⟨w.heap.size, o, none⟩ = _ := fun o => hb2.frozen (p := ⟨w.heap.size, o, none⟩) (by omega)
  have hl2_0 : w.heap.size < w2.heap.size := by omega
  have hm2_0 : w.heap.size ≤ w2.heap.size := by omega
  go_wp2_with fail
  go_region_with ((go_at_call 35; refine (take_any g _ 2 _ (by decide) (by repeat' (first | with_reducible exact k2 | with_reducible refine Blk.drew ?_ | with_reducible refine Blk.alloc ?_ _ | with_reducible refine Blk.far ?_ ?_ _ | (simp; done) | (simp; omega) | omega | exact k2))).mono ?_; rintro e w3 ⟨rfl, k3, hd3⟩; have g2 : w3.cell? ⟨w2.heap.size, 2, none⟩ = some (.int .i64 (spot s).1.col) := (hd3.cell (p := ⟨w2.heap.size, 2, none⟩) (by simp) (by simp; omega)).trans (by go_simp); have g3 : w3.frozen? ⟨w2.heap.size, 2, none⟩ = false := (hd3.frozen (p := ⟨w2.heap.size, 2, none⟩) (by simp) (by simp; omega)).trans (by go_simp)))
  all_goals
    have hz3 := hd3.size
    try simp at hz3
    have hD3 : Chg (fun k => k = g) w w3 := Chg.trans (by repeat' (first | with_reducible exact Chg.refl _ _ | with_reducible assumption | with_reducible refine Chg.alloc ?_ _ | with_reducible refine Chg.drew ?_ | with_reducible refine Chg.setCell ?_ (.inr ?_) _ | (simp; done) | (simp; omega) | omega)) (hd3.mono (fun k hk hs => hs))
    have g4 : w3.cell? ⟨w2.heap.size, 3, none⟩ = some (.int .i64 (spot s).1.row) := (hd3.cell (p := ⟨w2.heap.size, 3, none⟩) (by simp) (by simp; omega)).trans (by go_simp)
    have g5 : w3.frozen? ⟨w2.heap.size, 3, none⟩ = false := (hd3.frozen (p := ⟨w2.heap.size, 3, none⟩) (by simp) (by simp; omega)).trans (by go_simp)
    have g6 : w3.cell? ⟨w2.heap.size, 0, none⟩ = some (.int .i64 (spot s).1.col) := (hd3.cell (p := ⟨w2.heap.size, 0, none⟩) (by simp) (by simp; omega)).trans (by go_simp)
    have g7 : w3.cell? ⟨w2.heap.size, 1, none⟩ = some (.int .i64 (spot s).1.row) := (hd3.cell (p := ⟨w2.heap.size, 1, none⟩) (by simp) (by simp; omega)).trans (by go_simp)
    go_wp2_with fail
    go_region_with ((go_at_call 35; refine (take_any g _ 3 _ (by decide) (by repeat' (first | with_reducible exact k3 | with_reducible refine Blk.drew ?_ | with_reducible refine Blk.alloc ?_ _ | with_reducible refine Blk.far ?_ ?_ _ | (simp; done) | (simp; omega) | omega | exact k3))).mono ?_; rintro e w4 ⟨rfl, k4, hd4⟩; have i2 : w4.cell? ⟨w2.heap.size, 3, none⟩ = some (.int .i64 (spot s).1.row) := (hd4.cell (p := ⟨w2.heap.size, 3, none⟩) (by simp; omega) (by simp; omega)).trans (by go_simp); have i3 : w4.frozen? ⟨w2.heap.size, 3, none⟩ = false := (hd4.frozen (p := ⟨w2.heap.size, 3, none⟩) (by simp; omega) (by simp; omega)).trans (by go_simp)))
    all_goals
      have hz4 := hd4.size
      try simp at hz4
      have hD4 : Chg (fun k => k = g) w w4 := Chg.trans (by repeat' (first | with_reducible exact Chg.refl _ _ | with_reducible assumption | with_reducible refine Chg.alloc ?_ _ | with_reducible refine Chg.drew ?_ | with_reducible refine Chg.setCell ?_ (.inr ?_) _ | (simp; done) | (simp; omega) | omega)) (hd4.mono (fun k hk hs => hs))
      have j0 : w4.cell? ⟨w2.heap.size, 0, none⟩ = some (.int .i64 (spot s).1.col) := (hd4.cell (p := ⟨w2.heap.size, 0, none⟩) (by simp; omega) (by simp; omega)).trans (by go_simp)
      have j1 : w4.cell? ⟨w2.heap.size, 1, none⟩ = some (.int .i64 (spot s).1.row) := (hd4.cell (p := ⟨w2.heap.size, 1, none⟩) (by simp; omega) (by simp; omega)).trans (by go_simp)
      have j2 : w4.cell? ⟨w2.heap.size, 2, none⟩ = some (.int .i64 ((spot s).1.col + (take 2 (spot s).2).1)) := (hd4.cell (p := ⟨w2.heap.size, 2, none⟩) (by simp; omega) (by simp; omega)).trans (by go_simp)
      have q3 : ∀ o, w3.cell? ⟨w.heap.size, o, none⟩ = _ := fun o => hd3.cell (p := ⟨w.heap.size, o, none⟩) (by simp; omega) (by simp; omega)
      have q4 : ∀ o, w4.cell? ⟨w.heap.size, o, none⟩ = _ := fun o => hd4.cell (p := ⟨w.heap.size, o, none⟩) (by simp; omega) (by simp; omega)
      have r3 : ∀ o, w3.frozen? ⟨w.heap.size, o, none⟩ = _ := fun o => hd3.frozen (p := ⟨w.heap.size, o, none⟩) (by simp; omega) (by simp; omega)
      have r4 : ∀ o, w4.frozen? ⟨w.heap.size, o, none⟩ = _ := fun o => hd4.frozen (p := ⟨w.heap.size, o, none⟩) (by simp; omega) (by simp; omega)
      have l1 : w.heap.size < w3.heap.size := by omega
      have l2 : w.heap.size ≠ w2.heap.size := by omega
      have l3 : w2.heap.size ≠ w.heap.size := by omega
      go_wp2
      refine bodyPost_ret (v := .agg #[.int .i64 (spot s).1.col, .int .i64 (spot s).1.row, .int .i64 ((spot s).1.col + (take 2 (spot s).2).1), .int .i64 ((spot s).1.row + (take 3 (take 2 (spot s).2).2).1)]) (by simp (maxDischargeDepth := 9) [results, Tryz.results37, go_sem, hc1_0, hc2_0, q3, q4, hl2_0]) rfl ?_
      exact ⟨rfl, (by repeat' (first | with_reducible exact k4 | with_reducible refine Blk.drew ?_ | with_reducible refine Blk.alloc ?_ _ | with_reducible refine Blk.far ?_ ?_ _ | (simp; done) | (simp; omega) | omega | exact k4)), (by repeat' (first | with_reducible exact Chg.refl _ _ | with_reducible assumption | with_reducible refine Chg.alloc ?_ _ | with_reducible refine Chg.drew ?_ | with_reducible refine Chg.setCell ?_ (.inr ?_) _ | (simp; done) | (simp; omega) | omega))⟩
theorem spot_small (s : Bytes) : SmallR (spot s).1 := by
  have b1 := take_bd 3 (by decide) s
  have b2 := take_bd 4 (by decide) (take 3 s).2
  unfold SmallR spot
  simp only
  omega
theorem field_small (s : Bytes) : SmallX (field s).1 := by
  have b1 := take_bd 3 (by decide) s
  have b2 := take_bd 4 (by decide) (take 3 s).2
  have b3 := take_bd 2 (by decide) (spot s).2
  have b4 := take_bd 3 (by decide) (take 2 (spot s).2).2
  unfold SmallX SmallR field spot
  simp only
  unfold spot at b3 b4
  simp only at b3 b4
  omega
theorem addr_fmt (r : Ref) (w : World) (h : SmallR r) :
    Calls Tryz.prog 184 #[.agg #[.int .i64 r.col, .int .i64 r.row]] w fun e w' => e = .returned (.tuple #[str (fmtRef r), .int .i64 0]) ∧ Below w.heap.size w w' := by
  obtain ⟨c, q⟩ := r
  have h1 := h.1
  have h2 := h.2.2.1
  simp only at h1 h2
  obtain ⟨c, rfl⟩ : ∃ n : Nat, c = n := ⟨c.toNat, by omega⟩
  obtain ⟨q, rfl⟩ : ∃ n : Nat, q = n := ⟨q.toNat, by omega⟩
  exact addr_format c q w h
theorem rect_fmt (x : Rct) (w : World) (h : SmallX x) :
    Calls Tryz.prog 185 #[.agg #[.int .i64 x.c1, .int .i64 x.r1, .int .i64 x.c2, .int .i64 x.r2]] w fun e w' => e = .returned (.tuple #[str (fmtRct x), .int .i64 0]) ∧ Below w.heap.size w w' := by
  obtain ⟨a, b, c, d⟩ := x
  have h1 := h.1.1
  have h2 := h.1.2.2.1
  have h3 := h.2.1.1
  have h4 := h.2.1.2.2.1
  simp only at h1 h2 h3 h4
  obtain ⟨a, rfl⟩ : ∃ n : Nat, a = n := ⟨a.toNat, by omega⟩
  obtain ⟨b, rfl⟩ : ∃ n : Nat, b = n := ⟨b.toNat, by omega⟩
  obtain ⟨c, rfl⟩ : ∃ n : Nat, c = n := ⟨c.toNat, by omega⟩
  obtain ⟨d, rfl⟩ : ∃ n : Nat, d = n := ⟨d.toNat, by omega⟩
  exact rect_format a b c d w h
theorem fmtX_len {x : Rct} (h : SmallX x) : (fmtRct x).length ≤ 5 := by
  unfold fmtRct
  rw [if_pos (smallX_B h)]
  have l1 := fmt_len h.1
  have l2 := fmt_len h.2.1
  split
  · omega
  · simp only [List.length_append, List.length_cons]
    omega
theorem spotText_any (g : Nat) (s : Bytes) (w : World) (k0 : Blk w g 74 #[str s]) :
    Calls Tryz.prog 130 #[.pointer (some ⟨g, 0, none⟩)] w fun e w' => e = .returned (str (spotText s).1) ∧ Blk w' g 74 #[str (spotText s).2] ∧ Chg (fun k => k = g) w w' := by
  have hg := k0.lt
  have K0 := Lib.hid k0
  clear k0
  go_enter Tryz.func130, Tryz.ntmps130
  go_wp2_with fail
  refine (spot_any g s _ K0.out).mono ?_
  rintro e w1 ⟨rfl, k1, hd1⟩
  go_wp2_with fail
  refine (addr_fmt (spot s).1 _ (spot_small s)).mono ?_
  rintro e w2 ⟨rfl, hb2⟩
  go_wp2_with fail
  go_ret
  exact ⟨rfl, k1.below_ hb2, hd1.below hb2⟩
theorem fieldText_any (g : Nat) (s : Bytes) (w : World) (k0 : Blk w g 74 #[str s]) :
    Calls Tryz.prog 131 #[.pointer (some ⟨g, 0, none⟩)] w fun e w' => e = .returned (str (fieldText s).1) ∧ Blk w' g 74 #[str (fieldText s).2] ∧ Chg (fun k => k = g) w w' := by
  have hg := k0.lt
  have K0 := Lib.hid k0
  clear k0
  go_enter Tryz.func131, Tryz.ntmps131
  go_wp2_with fail
  refine (field_any g s _ K0.out).mono ?_
  rintro e w1 ⟨rfl, k1, hd1⟩
  go_wp2_with fail
  refine (rect_fmt (field s).1 _ (field_small s)).mono ?_
  rintro e w2 ⟨rfl, hb2⟩
  go_wp2_with fail
  go_ret
  exact ⟨rfl, k1.below_ hb2, hd1.below hb2⟩
theorem ret_str {a : ByteArray} {l : Bytes} (h : a = ⟨l.toArray⟩) : Ending.returned (.string a) = .returned (str l) := by rw [h]
theorem spotText_len (s : Bytes) : (spotText s).1.length = 2 := fmt_len (spot_small s)
theorem fieldText_len (s : Bytes) : (fieldText s).1.length ≤ 5 := fmtX_len (field_small s)
theorem content_0 (g : Nat) (s : Bytes) (w : World) (h1 : (take 12 s).1 = 0) (k0 : Blk w g 74 #[str s]) :
    Calls Tryz.prog 40 #[.pointer (some ⟨g, 0, none⟩)] w fun e w' => e = .returned (str (content s).1) ∧ Blk w' g 74 #[str (content s).2] ∧ Chg (fun k => k = g) w w' := by
  have HX := Lib.hid (show content s = ([], (take 12 s).2) by unfold content; simp only [h1]; rfl)
  have hg := k0.lt
  have K0 := Lib.hid k0
  have H1 := Lib.hid h1
  clear k0 h1
  go_enter Tryz.func40, Tryz.ntmps40
  go_wp2_with fail
  refine (take_any g s 12 _ (by decide) K0.out).mono ?_
  rintro e w1 ⟨rfl, k1, hd1⟩
  rw [H1.out]
  have K1 := Lib.hid k1
  have D1 := Lib.hid hd1
  clear k1 hd1
  go_wp2_with fail
  go_ret
  rw [HX.out]
  exact ⟨rfl, K1.out, D1.out⟩
theorem content_2 (g : Nat) (s : Bytes) (w : World) (h1 : (take 12 s).1 = 2) (k0 : Blk w g 74 #[str s]) :
    Calls Tryz.prog 40 #[.pointer (some ⟨g, 0, none⟩)] w fun e w' => e = .returned (str (content s).1) ∧ Blk w' g 74 #[str (content s).2] ∧ Chg (fun k => k = g) w w' := by
  have HX := Lib.hid (show content s = ([120], (take 12 s).2) by unfold content; simp only [h1]; rfl)
  have hg := k0.lt
  have K0 := Lib.hid k0
  have H1 := Lib.hid h1
  clear k0 h1
  go_enter Tryz.func40, Tryz.ntmps40
  go_wp2_with fail
  refine (take_any g s 12 _ (by decide) K0.out).mono ?_
  rintro e w1 ⟨rfl, k1, hd1⟩
  rw [H1.out]
  have K1 := Lib.hid k1
  have D1 := Lib.hid hd1
  clear k1 hd1
  go_wp2_with fail
  go_ret
  rw [HX.out]
  exact ⟨rfl, K1.out, D1.out⟩
theorem content_3 (g : Nat) (s : Bytes) (w : World) (h1 : (take 12 s).1 = 3) (k0 : Blk w g 74 #[str s]) :
    Calls Tryz.prog 40 #[.pointer (some ⟨g, 0, none⟩)] w fun e w' => e = .returned (str (content s).1) ∧ Blk w' g 74 #[str (content s).2] ∧ Chg (fun k => k = g) w w' := by
  have HX := Lib.hid (show content s = ([84, 82, 85, 69], (take 12 s).2) by unfold content; simp only [h1]; rfl)
  have hg := k0.lt
  have K0 := Lib.hid k0
  have H1 := Lib.hid h1
  clear k0 h1
  go_enter Tryz.func40, Tryz.ntmps40
  go_wp2_with fail
  refine (take_any g s 12 _ (by decide) K0.out).mono ?_
  rintro e w1 ⟨rfl, k1, hd1⟩
  rw [H1.out]
  have K1 := Lib.hid k1
  have D1 := Lib.hid hd1
  clear k1 hd1
  go_wp2_with fail
  go_ret
  rw [HX.out]
  exact ⟨rfl, K1.out, D1.out⟩
theorem content_4 (g : Nat) (s : Bytes) (w : World) (h1 : (take 12 s).1 = 4) (k0 : Blk w g 74 #[str s]) :
    Calls Tryz.prog 40 #[.pointer (some ⟨g, 0, none⟩)] w fun e w' => e = .returned (str (content s).1) ∧ Blk w' g 74 #[str (content s).2] ∧ Chg (fun k => k = g) w w' := by
  have HX := Lib.hid (show content s = ([35, 78, 47, 65], (take 12 s).2) by unfold content; simp only [h1]; rfl)
  have hg := k0.lt
  have K0 := Lib.hid k0
  have H1 := Lib.hid h1
  clear k0 h1
  go_enter Tryz.func40, Tryz.ntmps40
  go_wp2_with fail
  refine (take_any g s 12 _ (by decide) K0.out).mono ?_
  rintro e w1 ⟨rfl, k1, hd1⟩
  rw [H1.out]
  have K1 := Lib.hid k1
  have D1 := Lib.hid hd1
  clear k1 hd1
  go_wp2_with fail
  go_ret
  rw [HX.out]
  exact ⟨rfl, K1.out, D1.out⟩
theorem contentP_1 (g : Nat) (s : Bytes) (w : World) (h1 : (take 12 s).1 = 1) (k0 : Blk w g 74 #[str s]) :
    Calls Tryz.prog 40 #[.pointer (some ⟨g, 0, none⟩)] w fun e w' => e = .returned (str (content s).1) ∧ Blk w' g 74 #[str (content s).2] ∧ Chg (fun k => k = g) w w' := by
  have HX := Lib.hid (show content s = (digits (take 10 (take 12 s).2).1.toNat, (take 10 (take 12 s).2).2) by unfold content; simp only [h1]; rfl)
  have hg := k0.lt
  have K0 := Lib.hid k0
  have H1 := Lib.hid h1
  clear k0 h1
  go_enter Tryz.func40, Tryz.ntmps40
  go_wp2_with fail
  refine (take_any g s 12 _ (by decide) K0.out).mono ?_
  rintro e w1 ⟨rfl, k1, hd1⟩
  rw [H1.out]
  have K1 := Lib.hid k1
  have D1 := Lib.hid hd1
  clear k1 hd1
  go_wp2_with fail
  refine (take_any g _ 10 _ (by decide) K1.out).mono ?_
  rintro e w2 ⟨rfl, k2, hd2⟩
  obtain ⟨n, hn, hn2⟩ : ∃ n : Nat, (take 10 (take 12 s).2).1 = (n : Int) ∧ n < 10 := by
    have := take_bd 10 (by decide) (take 12 s).2
    exact ⟨(take 10 (take 12 s).2).1.toNat, by omega, by omega⟩
  rw [hn]
  have HN := Lib.hid hn
  have K2 := Lib.hid k2
  have D2 := Lib.hid (D1.out.trans hd2)
  clear hn k2 hd2
  go_wp2_with fail
  refine (itoa_small n hn2 _).mono ?_
  rintro e w3 ⟨rfl, rfl⟩
  go_wp2_with fail
  go_ret
  rw [HX.out]
  exact ⟨by rw [HN.out, digits_small (by simpa using hn2)]; rfl, K2.out, D2.out⟩
theorem content_5 (g : Nat) (s : Bytes) (w : World) (h1 : (take 12 s).1 = 5) (k0 : Blk w g 74 #[str s]) :
    Calls Tryz.prog 40 #[.pointer (some ⟨g, 0, none⟩)] w fun e w' => e = .returned (str (content s).1) ∧ Blk w' g 74 #[str (content s).2] ∧ Chg (fun k => k = g) w w' := by
  have HX := Lib.hid (show content s = (61 :: (spotText (take 12 s).2).1, (spotText (take 12 s).2).2) by unfold content; simp only [h1]; rfl)
  have hg := k0.lt
  have K0 := Lib.hid k0
  have H1 := Lib.hid h1
  clear k0 h1
  go_enter Tryz.func40, Tryz.ntmps40
  go_wp2_with fail
  refine (take_any g s 12 _ (by decide) K0.out).mono ?_
  rintro e w1 ⟨rfl, k1, hd1⟩
  rw [H1.out]
  have K1 := Lib.hid k1
  have D1 := Lib.hid hd1
  clear k1 hd1
  go_wp2_with fail
  refine (spotText_any g (take 12 s).2 _ K1.out).mono ?_
  rintro e w2 ⟨rfl, k2, hd2⟩
  have K2 := Lib.hid k2
  have D2 := Lib.hid (D1.out.trans hd2)
  clear k2 hd2
  have L2 := spotText_len (take 12 s).2
  generalize (spotText (take 12 s).2).1 = X2 at *
  go_wp2_with fail
  go_ret
  rw [HX.out]
  refine ⟨ret_str (?_ : (⟨[61].toArray⟩ : ByteArray) ++ ⟨X2.toArray⟩ = _), K2.out, D2.out⟩
  rw [bytes_app]
  rfl
theorem content_10 (g : Nat) (s : Bytes) (w : World) (h1 : (take 12 s).1 = 10) (k0 : Blk w g 74 #[str s]) :
    Calls Tryz.prog 40 #[.pointer (some ⟨g, 0, none⟩)] w fun e w' => e = .returned (str (content s).1) ∧ Blk w' g 74 #[str (content s).2] ∧ Chg (fun k => k = g) w w' := by
  have HX := Lib.hid (show content s = ([61, 73, 70, 69, 82, 82, 79, 82, 40] ++ (spotText (take 12 s).2).1 ++ [44, 48, 41], (spotText (take 12 s).2).2) by unfold content; simp only [h1]; rfl)
  have hg := k0.lt
  have K0 := Lib.hid k0
  have H1 := Lib.hid h1
  clear k0 h1
  go_enter Tryz.func40, Tryz.ntmps40
  go_wp2_with fail
  refine (take_any g s 12 _ (by decide) K0.out).mono ?_
  rintro e w1 ⟨rfl, k1, hd1⟩
  rw [H1.out]
  have K1 := Lib.hid k1
  have D1 := Lib.hid hd1
  clear k1 hd1
  go_wp2_with fail
  refine (spotText_any g (take 12 s).2 _ K1.out).mono ?_
  rintro e w2 ⟨rfl, k2, hd2⟩
  have K2 := Lib.hid k2
  have D2 := Lib.hid (D1.out.trans hd2)
  clear k2 hd2
  have L2 := spotText_len (take 12 s).2
  generalize (spotText (take 12 s).2).1 = X2 at *
  go_wp2_with fail
  go_ret
  rw [HX.out]
  refine ⟨ret_str (?_ : (⟨[61, 73, 70, 69, 82, 82, 79, 82, 40].toArray⟩ : ByteArray) ++ ⟨X2.toArray⟩ ++ ⟨[44, 48, 41].toArray⟩ = _), K2.out, D2.out⟩
  rw [bytes_app, bytes_app]
theorem content_11 (g : Nat) (s : Bytes) (w : World) (h1 : (take 12 s).1 = 11) (k0 : Blk w g 74 #[str s]) :
    Calls Tryz.prog 40 #[.pointer (some ⟨g, 0, none⟩)] w fun e w' => e = .returned (str (content s).1) ∧ Blk w' g 74 #[str (content s).2] ∧ Chg (fun k => k = g) w w' := by
  have HX := Lib.hid (show content s = ([61, 49, 47] ++ (spotText (take 12 s).2).1, (spotText (take 12 s).2).2) by unfold content; simp only [h1]; rfl)
  have hg := k0.lt
  have K0 := Lib.hid k0
  have H1 := Lib.hid h1
  clear k0 h1
  go_enter Tryz.func40, Tryz.ntmps40
  go_wp2_with fail
  refine (take_any g s 12 _ (by decide) K0.out).mono ?_
  rintro e w1 ⟨rfl, k1, hd1⟩
  rw [H1.out]
  have K1 := Lib.hid k1
  have D1 := Lib.hid hd1
  clear k1 hd1
  go_wp2_with fail
  refine (spotText_any g (take 12 s).2 _ K1.out).mono ?_
  rintro e w2 ⟨rfl, k2, hd2⟩
  have K2 := Lib.hid k2
  have D2 := Lib.hid (D1.out.trans hd2)
  clear k2 hd2
  have L2 := spotText_len (take 12 s).2
  generalize (spotText (take 12 s).2).1 = X2 at *
  go_wp2_with fail
  go_ret
  rw [HX.out]
  refine ⟨ret_str (?_ : (⟨[61, 49, 47].toArray⟩ : ByteArray) ++ ⟨X2.toArray⟩ = _), K2.out, D2.out⟩
  rw [bytes_app]
theorem content_6 (g : Nat) (s : Bytes) (w : World) (h1 : (take 12 s).1 = 6) (k0 : Blk w g 74 #[str s]) :
    Calls Tryz.prog 40 #[.pointer (some ⟨g, 0, none⟩)] w fun e w' => e = .returned (str (content s).1) ∧ Blk w' g 74 #[str (content s).2] ∧ Chg (fun k => k = g) w w' := by
  have HX := Lib.hid (show content s = (61 :: (spotText (take 12 s).2).1 ++ 43 :: (spotText (spotText (take 12 s).2).2).1, (spotText (spotText (take 12 s).2).2).2) by unfold content; simp only [h1]; rfl)
  have hg := k0.lt
  have K0 := Lib.hid k0
  have H1 := Lib.hid h1
  clear k0 h1
  go_enter Tryz.func40, Tryz.ntmps40
  go_wp2_with fail
  refine (take_any g s 12 _ (by decide) K0.out).mono ?_
  rintro e w1 ⟨rfl, k1, hd1⟩
  rw [H1.out]
  have K1 := Lib.hid k1
  have D1 := Lib.hid hd1
  clear k1 hd1
  go_wp2_with fail
  refine (spotText_any g (take 12 s).2 _ K1.out).mono ?_
  rintro e w2 ⟨rfl, k2, hd2⟩
  have K2 := Lib.hid k2
  have D2 := Lib.hid (D1.out.trans hd2)
  clear k2 hd2
  have L2 := spotText_len (take 12 s).2
  generalize hsp : spotText (take 12 s).2 = sp at *
  obtain ⟨X2, s2⟩ := sp
  simp only at K2 L2 HX
  go_wp2_with fail
  refine (spotText_any g s2 _ K2.out).mono ?_
  rintro e w3 ⟨rfl, k3, hd3⟩
  have K3 := Lib.hid k3
  have D3 := Lib.hid (D2.out.trans hd3)
  clear k3 hd3
  have L3 := spotText_len s2
  generalize (spotText s2).1 = X3 at *
  go_wp2_with fail
  go_ret
  rw [HX.out]
  refine ⟨ret_str (?_ : (⟨[61].toArray⟩ : ByteArray) ++ ⟨X2.toArray⟩ ++ ⟨[43].toArray⟩ ++ ⟨X3.toArray⟩ = _), K3.out, D3.out⟩
  rw [bytes_app, bytes_app, bytes_app]
  simp
theorem content_7 (g : Nat) (s : Bytes) (w : World) (h1 : (take 12 s).1 = 7) (k0 : Blk w g 74 #[str s]) :
    Calls Tryz.prog 40 #[.pointer (some ⟨g, 0, none⟩)] w fun e w' => e = .returned (str (content s).1) ∧ Blk w' g 74 #[str (content s).2] ∧ Chg (fun k => k = g) w w' := by
  have HX := Lib.hid (show content s = ([61, 83, 85, 77, 40] ++ (fieldText (take 12 s).2).1 ++ [41], (fieldText (take 12 s).2).2) by unfold content; simp only [h1]; rfl)
  have hg := k0.lt
  have K0 := Lib.hid k0
  have H1 := Lib.hid h1
  clear k0 h1
  go_enter Tryz.func40, Tryz.ntmps40
  go_wp2_with fail
  refine (take_any g s 12 _ (by decide) K0.out).mono ?_
  rintro e w1 ⟨rfl, k1, hd1⟩
  rw [H1.out]
  have K1 := Lib.hid k1
  have D1 := Lib.hid hd1
  clear k1 hd1
  go_wp2_with fail
  refine (fieldText_any g (take 12 s).2 _ K1.out).mono ?_
  rintro e w2 ⟨rfl, k2, hd2⟩
  have K2 := Lib.hid k2
  have D2 := Lib.hid (D1.out.trans hd2)
  clear k2 hd2
  have L2 := fieldText_len (take 12 s).2
  generalize (fieldText (take 12 s).2).1 = X2 at *
  go_wp2_with fail
  go_ret
  rw [HX.out]
  refine ⟨ret_str (?_ : (⟨[61, 83, 85, 77, 40].toArray⟩ : ByteArray) ++ ⟨X2.toArray⟩ ++ ⟨[41].toArray⟩ = _), K2.out, D2.out⟩
  rw [bytes_app, bytes_app]
theorem content_8 (g : Nat) (s : Bytes) (w : World) (h1 : (take 12 s).1 = 8) (k0 : Blk w g 74 #[str s]) :
    Calls Tryz.prog 40 #[.pointer (some ⟨g, 0, none⟩)] w fun e w' => e = .returned (str (content s).1) ∧ Blk w' g 74 #[str (content s).2] ∧ Chg (fun k => k = g) w w' := by
  have HX := Lib.hid (show content s = ([61, 68, 83, 85, 77, 40] ++ (fieldText (take 12 s).2).1 ++ [41], (fieldText (take 12 s).2).2) by unfold content; simp only [h1]; rfl)
  have hg := k0.lt
  have K0 := Lib.hid k0
  have H1 := Lib.hid h1
  clear k0 h1
  go_enter Tryz.func40, Tryz.ntmps40
  go_wp2_with fail
  refine (take_any g s 12 _ (by decide) K0.out).mono ?_
  rintro e w1 ⟨rfl, k1, hd1⟩
  rw [H1.out]
  have K1 := Lib.hid k1
  have D1 := Lib.hid hd1
  clear k1 hd1
  go_wp2_with fail
  refine (fieldText_any g (take 12 s).2 _ K1.out).mono ?_
  rintro e w2 ⟨rfl, k2, hd2⟩
  have K2 := Lib.hid k2
  have D2 := Lib.hid (D1.out.trans hd2)
  clear k2 hd2
  have L2 := fieldText_len (take 12 s).2
  generalize (fieldText (take 12 s).2).1 = X2 at *
  go_wp2_with fail
  go_ret
  rw [HX.out]
  refine ⟨ret_str (?_ : (⟨[61, 68, 83, 85, 77, 40].toArray⟩ : ByteArray) ++ ⟨X2.toArray⟩ ++ ⟨[41].toArray⟩ = _), K2.out, D2.out⟩
  rw [bytes_app, bytes_app]
theorem content_9 (g : Nat) (s : Bytes) (w : World) (h1 : (take 12 s).1 = 9) (k0 : Blk w g 74 #[str s]) :
    Calls Tryz.prog 40 #[.pointer (some ⟨g, 0, none⟩)] w fun e w' => e = .returned (str (content s).1) ∧ Blk w' g 74 #[str (content s).2] ∧ Chg (fun k => k = g) w w' := by
  have HX := Lib.hid (show content s = ([61, 68, 67, 79, 85, 78, 84, 40] ++ (fieldText (take 12 s).2).1 ++ [41], (fieldText (take 12 s).2).2) by unfold content; simp only [h1]; rfl)
  have hg := k0.lt
  have K0 := Lib.hid k0
  have H1 := Lib.hid h1
  clear k0 h1
  go_enter Tryz.func40, Tryz.ntmps40
  go_wp2_with fail
  refine (take_any g s 12 _ (by decide) K0.out).mono ?_
  rintro e w1 ⟨rfl, k1, hd1⟩
  rw [H1.out]
  have K1 := Lib.hid k1
  have D1 := Lib.hid hd1
  clear k1 hd1
  go_wp2_with fail
  refine (fieldText_any g (take 12 s).2 _ K1.out).mono ?_
  rintro e w2 ⟨rfl, k2, hd2⟩
  have K2 := Lib.hid k2
  have D2 := Lib.hid (D1.out.trans hd2)
  clear k2 hd2
  have L2 := fieldText_len (take 12 s).2
  generalize (fieldText (take 12 s).2).1 = X2 at *
  go_wp2_with fail
  go_ret
  rw [HX.out]
  refine ⟨ret_str (?_ : (⟨[61, 68, 67, 79, 85, 78, 84, 40].toArray⟩ : ByteArray) ++ ⟨X2.toArray⟩ ++ ⟨[41].toArray⟩ = _), K2.out, D2.out⟩
  rw [bytes_app, bytes_app]
theorem content_any (g : Nat) (s : Bytes) (w : World) (k0 : Blk w g 74 #[str s]) :
    Calls Tryz.prog 40 #[.pointer (some ⟨g, 0, none⟩)] w fun e w' => e = .returned (str (content s).1) ∧ Blk w' g 74 #[str (content s).2] ∧ Chg (fun k => k = g) w w' := by
  have hb := take_bd 12 (by decide) s
  have h : (take 12 s).1 = 0 ∨ (take 12 s).1 = 1 ∨ (take 12 s).1 = 2 ∨ (take 12 s).1 = 3 ∨ (take 12 s).1 = 4 ∨ (take 12 s).1 = 5 ∨ (take 12 s).1 = 6 ∨ (take 12 s).1 = 7 ∨ (take 12 s).1 = 8 ∨ (take 12 s).1 = 9 ∨ (take 12 s).1 = 10 ∨ (take 12 s).1 = 11 := by omega
  rcases h with h | h | h | h | h | h | h | h | h | h | h | h
  · exact content_0 g s w h k0
  · exact contentP_1 g s w h k0
  · exact content_2 g s w h k0
  · exact content_3 g s w h k0
  · exact content_4 g s w h k0
  · exact content_5 g s w h k0
  · exact content_6 g s w h k0
  · exact content_7 g s w h k0
  · exact content_8 g s w h k0
  · exact content_9 g s w h k0
  · exact content_10 g s w h k0
  · exact content_11 g s w h k0
/-! ### Put -/
def putI (l : List Ent) (a : Ref) : Nat := l.findIdx (fun y => !lessB y.at_ a)
def delB (l : List Ent) (a : Ref) : List Ent := match l[putI l a]? with
  | some y => if y.at_ = a then l.eraseIdx (putI l a) else l
  | none => l
def putB (l : List Ent) (x : Ent) : List Ent := if x.input = [] then delB l x.at_ else (delB l x.at_).insertIdx (putI l x.at_) x
def without (l : List Ent) (a : Ref) : List Ent := l.filter fun y => !decide (y.at_ = a)
def withR (l : List Ent) (x : Ent) : List Ent :=
  (without l x.at_).takeWhile (fun y => lessB y.at_ x.at_) ++ x :: (without l x.at_).dropWhile (fun y => lessB y.at_ x.at_)
def putR (l : List Ent) (x : Ent) : List Ent := if x.input = [] then without l x.at_ else withR (without l x.at_) x
def Sorted (l : List Ent) : Prop := l.Pairwise fun a b => lessB a.at_ b.at_ = true
theorem less_iff (a b : Ref) : lessB a b = true ↔ (a.row < b.row ∨ (a.row = b.row ∧ a.col < b.col)) := by simp [lessB]
theorem less_ne {a b : Ref} (h : lessB a b = true) : a ≠ b := by
  rintro rfl
  rw [less_iff] at h
  omega
theorem less_trans {a b c : Ref} (h : lessB a b = true) (k : lessB b c = true) : lessB a c = true := by
  rw [less_iff] at h k ⊢
  omega
theorem less_asymm {a b : Ref} (h : lessB a b = true) : lessB b a = false := by
  rw [Bool.eq_false_iff]
  intro k
  rw [less_iff] at h k
  omega
theorem less_of_not {a b : Ref} (h : lessB a b = false) (hn : a ≠ b) : lessB b a = true := by
  rw [Bool.eq_false_iff] at h
  rw [less_iff]
  have h2 : ¬ (a.row < b.row ∨ (a.row = b.row ∧ a.col < b.col)) := fun k => h ((less_iff a b).2 k)
  obtain ⟨ac, ar⟩ := a
  obtain ⟨bc, br⟩ := b
  simp only [ne_eq, Ref.mk.injEq, not_and] at hn
  simp only at h2 ⊢
  by_cases e : ac = bc
  · have := hn e; omega
  · omega
theorem putI_less {y : Ent} {t : List Ent} {a : Ref} (h : lessB y.at_ a = true) : putI (y :: t) a = putI t a + 1 := by simp [putI, List.findIdx_cons, h]
theorem putI_not {y : Ent} {t : List Ent} {a : Ref} (h : lessB y.at_ a = false) : putI (y :: t) a = 0 := by simp [putI, List.findIdx_cons, h]
theorem delB_less {y : Ent} {t : List Ent} {a : Ref} (h : lessB y.at_ a = true) : delB (y :: t) a = y :: delB t a := by
  unfold delB
  rw [putI_less h, List.getElem?_cons_succ]
  rcases t[putI t a]? with _ | z
  · rfl
  · simp only
    split
    · rw [List.eraseIdx_cons_succ]
    · rfl
theorem delB_same {y : Ent} {t : List Ent} {a : Ref} (h : y.at_ = a) : delB (y :: t) a = t := by
  have hl : lessB y.at_ a = false := by subst h; rw [Bool.eq_false_iff]; intro k; exact less_ne k rfl
  unfold delB
  rw [putI_not hl]
  simp [h]
theorem delB_past {y : Ent} {t : List Ent} {a : Ref} (h : lessB a y.at_ = true) : delB (y :: t) a = y :: t := by
  unfold delB
  rw [putI_not (less_asymm h)]
  have hne : ¬ y.at_ = a := fun e => less_ne h e.symm
  simp [hne]
theorem without_past {t : List Ent} {a : Ref} (h : ∀ y ∈ t, lessB a y.at_ = true) : without t a = t := by
  unfold without
  rw [List.filter_eq_self]
  intro y hy
  have hne : ¬ y.at_ = a := fun e => less_ne (h y hy) e.symm
  simp [hne]
theorem without_twice (l : List Ent) (a : Ref) : without (without l a) a = without l a := by simp [without]
theorem with_past {t : List Ent} {x : Ent} (h : ∀ y ∈ t, lessB x.at_ y.at_ = true) : withR t x = x :: t := by
  unfold withR
  rw [without_past h]
  rcases t with _ | ⟨y, t⟩
  · rfl
  · have := less_asymm (h y (by simp))
    simp [this]
/-- On a list in order the two ways are one. -/
theorem put_same (x : Ent) : ∀ (l : List Ent), Sorted l → putB l x = putR l x
  | [], _ => by
    unfold putB putR delB withR
    split <;> simp [without, putI]
  | y :: t, h => by
    obtain ⟨hy, ht⟩ := List.pairwise_cons.1 h
    have ih := put_same x t ht
    by_cases hl : lessB y.at_ x.at_ = true
    · have hne := less_ne hl
      have hw : without (y :: t) x.at_ = y :: without t x.at_ := by simp [without, hne]
      unfold putB putR at ih ⊢
      split at ih
      · rename_i h0
        rw [if_pos h0, if_pos h0]
        rw [delB_less hl, hw, ih]
      · rename_i h0
        rw [if_neg h0, if_neg h0]
        rw [delB_less hl, putI_less hl, List.insertIdx_succ_cons, ih, hw]
        unfold withR
        rw [show without (y :: without t x.at_) x.at_ = y :: without t x.at_ by rw [← hw, without_twice], without_twice]
        simp [hl]
    · have hl' : lessB y.at_ x.at_ = false := by simpa using hl
      by_cases he : y.at_ = x.at_
      · have hp : ∀ z ∈ t, lessB x.at_ z.at_ = true := fun z hz => he ▸ hy z hz
        have hw : without (y :: t) x.at_ = t := by
          have := without_past hp
          unfold without at this ⊢
          rw [List.filter_cons]
          simp [he, this]
        unfold putB putR
        split
        · rw [delB_same he, hw]
        · rw [delB_same he, putI_not hl', hw, with_past hp]
          rfl
      · have h1 := less_of_not hl' he
        have hp : ∀ z ∈ y :: t, lessB x.at_ z.at_ = true := by
          intro z hz
          rcases List.mem_cons.1 hz with rfl | hz
          · exact h1
          · exact less_trans h1 (hy z hz)
        unfold putB putR
        split
        · rw [delB_past h1, without_past hp]
        · rw [delB_past h1, putI_not hl', without_past hp, with_past hp]
          rfl
theorem sorted_put (l : List Ent) (x : Ent) (h : Sorted l) : Sorted (putB l x) := by
  rw [put_same x l h]
  have hf : Sorted (without l x.at_) := List.Pairwise.filter _ h
  unfold putR
  split
  · exact hf
  · unfold withR
    rw [without_twice]
    generalize hr : without l x.at_ = r at hf
    have hne : ∀ y ∈ r, y.at_ ≠ x.at_ := by
      intro y hy
      rw [← hr] at hy
      simpa [without] using (List.mem_filter.1 hy).2
    clear hr
    induction r with
    | nil => simp [Sorted]
    | cons y t ih =>
      obtain ⟨hy, ht⟩ := List.pairwise_cons.1 hf
      by_cases hl : lessB y.at_ x.at_ = true
      · simp only [List.takeWhile_cons, hl, if_true, List.dropWhile_cons, List.cons_append]
        refine List.pairwise_cons.2 ⟨?_, ih ht (fun z hz => hne z (by simp [hz]))⟩
        intro z hz
        rcases List.mem_append.1 hz with hz | hz
        · exact hy z (List.takeWhile_subset _ hz)
        · rcases List.mem_cons.1 hz with rfl | hz
          · exact hl
          · exact hy z (List.dropWhile_subset _ hz)
      · have hl' : lessB y.at_ x.at_ = false := by simpa using hl
        simp only [List.takeWhile_cons, hl', List.dropWhile_cons]
        have h1 := less_of_not hl' (hne y (by simp))
        refine List.pairwise_cons.2 ⟨?_, hf⟩
        intro z hz
        rcases List.mem_cons.1 hz with rfl | hz
        · exact h1
        · exact less_trans h1 (hy z hz)
/-! ### Operations -/
def oper (u : Nat) (s : Bytes) : Opr × Bytes :=
  let k := take 10 s
  let kind := 1 + k.1
  let a := take u k.2
  let r : Rct × Bytes := if kind = 3 ∨ kind = 6 then (⟨(spot a.2).1.col, (spot a.2).1.row, (spot a.2).1.col, (spot a.2).1.row⟩, (spot a.2).2)
    else if kind = 4 ∨ kind = 5 ∨ kind = 7 ∨ kind = 8 then field a.2 else (⟨0, 0, 0, 0⟩, a.2)
  if kind = 3 then (⟨kind, a.1, r.1, (content r.2).1, ⟨0, 0, 0⟩, 0, 0, 0⟩, (content r.2).2)
  else if kind = 7 then (⟨kind, a.1, r.1, [], (crowds u r.2).1, 0, 0, 0⟩, (crowds u r.2).2)
  else if kind = 8 then (⟨kind, a.1, r.1, [], ⟨0, 0, 0⟩, 1 + (take 31 r.2).1, (crowd u (take 31 r.2).2).1, 0⟩, (crowd u (take 31 r.2).2).2)
  else if kind = 9 then (⟨kind, a.1, r.1, [], ⟨0, 0, 0⟩, 0, 0, (take 4 r.2).1⟩, (take 4 r.2).2)
  else (⟨kind, a.1, r.1, [], ⟨0, 0, 0⟩, 0, 0, 0⟩, r.2)
def opsR (u : Nat) : Nat → Bytes → List Opr
  | 0, _ => []
  | n + 1, s => if s = [] then [] else (oper u s).1 :: opsR u n (oper u s).2
/-! ### Whole scripts -/
def rulesS (u : Nat) (r : Rul) (s : Bytes) : Nat → List Rul × Bytes
  | 0 => ([r], s)
  | k + 1 =>
    let p := rulesS u r s k
    (p.1 ++ [⟨(field p.2).1, (crowds u (field p.2).2).1⟩], (crowds u (field p.2).2).2)
def entsS (put : List Ent → Ent → List Ent) (s : Bytes) : Nat → List Ent × Bytes
  | 0 => ([], s)
  | k + 1 =>
    let p := entsS put s k
    (put p.1 ⟨(spot p.2).1, (content (spot p.2).2).1⟩, (content (spot p.2).2).2)
def grtsS (u : Nat) (s : Bytes) : Nat → List Grt × Bytes
  | 0 => ([], s)
  | k + 1 =>
    let p := grtsS u s k
    let f := field p.2
    let n := take 31 f.2
    let t := crowd u n.2
    let b := take u t.2
    (p.1 ++ [⟨f.1, 1 + n.1, t.1, b.1, false⟩], b.2)
def readB (put : List Ent → Ent → List Ent) (s : Bytes) : Scp :=
  let a := take 4 s
  let u := (1 + a.1).toNat
  let c := crowds u a.2
  let n := take 3 c.2
  let r := rulesS u ⟨⟨1, 1, 1024, 1024⟩, c.1⟩ n.2 n.1.toNat
  let m := take 8 r.2
  let e := entsS put m.2 m.1.toNat
  let q := take 3 e.2
  let g := grtsS u q.2 q.1.toNat
  ⟨⟨u, e.1, r.1, g.1, [], [], 0⟩, opsR u 4096 g.2⟩
theorem ents_same (s : Bytes) : ∀ k, entsS putB s k = entsS putR s k ∧ Sorted (entsS putB s k).1
  | 0 => ⟨rfl, List.Pairwise.nil⟩
  | k + 1 => by
    obtain ⟨h1, h2⟩ := ents_same s k
    have e : entsS putB s (k + 1) = entsS putR s (k + 1) := by
      simp only [entsS]
      rw [put_same _ _ h2, h1]
    exact ⟨e, by simp only [entsS]; exact sorted_put _ _ h2⟩
end Go.Proofs.YtamcgggmfghljaaGreatDoor
