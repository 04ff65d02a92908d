/- Small addresses and ranges as text: columns to 26, rows to 9 (reference). · Layer 41 (reference): spot, crowd, crowds. -/
import Derived.Laws.IdiomStrings
import Derived.Test.YtamcgggmfghljaaGreatDoorR14
namespace Go.Proofs.YtamcgggmfghljaaGreatDoor
open Go.RowKit

/-- string([]byte{b}). -/
theorem conv_one (b : Int) (W : World) (h0 : 0 ≤ b) (h1 : b < 256) : (convert 59 9 (.slice (some ⟨W.heap.size, 0, none⟩) 1 1)).run Tryz.prog (W.alloc (.cells #[.int .u8 b] 5)) = .ok (str [UInt8.ofNat b.toNat]) (W.alloc (.cells #[.int .u8 b] 5)) := by
  refine run_convert_bytes_back (P := Tryz.prog) _ 59 9 5 ⟨W.heap.size, 0, none⟩ 1 [UInt8.ofNat b.toNat] Tryz.underlying59 Tryz.underlying5 Tryz.underlying9 (fun j hj => ?_)
  obtain rfl : j = 0 := by simp at hj; exact hj
  have e : ((UInt8.ofNat b.toNat).toNat : Int) = b := by rw [UInt8.toNat_ofNat']; omega
  have e2 : (⟨W.heap.size, 0, none⟩ : Addr).add 0 = ⟨W.heap.size, 0, none⟩ := by unfold Addr.add; split <;> simp_all
  show _ = some (Value.int .u8 ((UInt8.ofNat b.toNat).toNat : Int))
  rw [e, e2]
  exact World.cell?_alloc_at _ _ _ _ rfl

set_option maxRecDepth 100000 in
set_option maxHeartbeats 4000000 in
theorem r01_digits (n : Nat) (w : World) (h : n < 10) :
    Calls Tryz.prog 186 #[.int .u64 n] w fun e w' => e = .returned (str [dig n]) ∧ Below w.heap.size w w' := by
  have HD : UInt8.ofNat (48 + (n : Int)).toNat = dig n := by unfold dig; congr 1; omega
  have HC := fun W => conv_one (48 + (n : Int)) W (by omega) (by omega)
  rw [HD] at HC
  clear HD
  generalize dig n = x at *
  go_enter Tryz.func186, Tryz.ntmps186
  go_wp2
  refine wp_loop_rounds 1 ?_
  rw [rounds_succ]
  go_wp2
  go_ret
  exact ⟨congrArg (fun s => Ending.returned (Value.string s)) (bytes_app [x] []), by go_grown⟩

set_option maxRecDepth 100000 in
set_option maxHeartbeats 4000000 in
theorem r02_letters (n : Nat) (w : World) (h1 : 1 ≤ n) (h2 : n ≤ 26) :
    Calls Tryz.prog 209 #[.int .i64 n] w fun e w' => e = .returned (.tuple #[str (letters n), .int .i64 0]) ∧ Below w.heap.size w w' := by
  obtain ⟨x, hx⟩ : ∃ x, UInt8.ofNat (65 + ((n : Int) - 1) % 26).toNat = x := ⟨_, rfl⟩
  have HL := Lib.hid (show letters n = [x] by rw [letters_small h1 h2, ← hx]; congr 2; omega)
  have HC := fun W => conv_one (65 + ((n : Int) - 1) % 26) W (by omega) (by omega)
  rw [hx] at HC
  clear hx
  have hq : ((n : Int) - 1) / 26 = 0 := by omega
  go_enter Tryz.func209, Tryz.ntmps209
  go_wp2
  refine wp_loop_rounds 2 ?_
  rw [rounds_succ]
  go_wp2
  rw [rounds_succ]
  go_wp2
  go_ret2
  exact ⟨by rw [HL.out]; exact congrArg (fun s => Ending.returned (.tuple #[Value.string s, Value.int .i64 0])) (bytes_app [x] []), by go_grown⟩

set_option maxRecDepth 100000 in
set_option maxHeartbeats 4000000 in
theorem r02_format (c r : Nat) (w : World) (h : SmallR ⟨c, r⟩) :
    Calls Tryz.prog 187 #[.agg #[.int .i64 c, .int .i64 r]] w fun e w' => e = .returned (.tuple #[str (fmtRef ⟨c, r⟩), .int .i64 0]) ∧ Below w.heap.size w w' := by
  have hv := small_valid h
  simp only at hv
  have hf := fmt_small h
  obtain ⟨h1, h2, h3, h4⟩ := h
  simp only at h1 h2 h3 h4
  obtain ⟨x, hx⟩ : ∃ x, x = UInt8.ofNat (64 + c) := ⟨_, rfl⟩
  have hL : letters c = [x] := by rw [hx]; exact letters_small (by omega) (by omega)
  have hf : fmtRef ⟨c, r⟩ = [x, dig r] := by rw [hf, hx]; rfl
  clear hx
  have HL := Lib.hid (r02_letters c · (by omega) (by omega))
  have HV := Lib.hid hv
  have HF := Lib.hid hf
  clear hv hf
  go_enter Tryz.func187, Tryz.ntmps187
  go_wp2_with fail
  refine (r02_valid c r _).mono ?_
  rintro e w1 ⟨rfl, hb1⟩
  have hz1 := hb1.size
  try simp at hz1
  have hB1 : Below w.heap.size w w1 := Below.next (by go_grown) hb1 (by first | (simp; done) | (simp; omega) | omega)
  have hc1_0 : ∀ o, w1.cell? ⟨w.heap.size, o, none⟩ = _ := fun o => hb1.cell (p := ⟨w.heap.size, o, none⟩) (by first | (simp; done) | (simp; omega) | omega)
  have hl1_0 : w.heap.size < w1.heap.size := by omega
  have hm1_0 : w.heap.size ≤ w1.heap.size := by omega
  have hn1_0 : w.heap.size ≤ w1.heap.size + 1 := by omega
  have ho1_0 : w.heap.size ≤ w1.heap.size + 1 + 1 := by omega
  have hf1_0 : ∀ o, w1.frozen? ⟨w.heap.size, o, none⟩ = _ := fun o => hb1.frozen (p := ⟨w.heap.size, o, none⟩) (by first | (simp; done) | (simp; omega) | omega)
  rw [HV.out]
  go_wp2_with fail
  refine (HL.out _).mono ?_
  rintro e w2 ⟨rfl, hb2⟩
  have hz2 := hb2.size
  try simp at hz2
  have hB2 : Below w.heap.size w w2 := Below.next (by go_grown) hb2 (by first | (simp; done) | (simp; omega) | omega)
  have hc2_0 : ∀ o, w2.cell? ⟨w.heap.size, o, none⟩ = _ := fun o => hb2.cell (p := ⟨w.heap.size, o, none⟩) (by first | (simp; done) | (simp; omega) | omega)
  have hl2_0 : w.heap.size < w2.heap.size := by omega
  have hm2_0 : w.heap.size ≤ w2.heap.size := by omega
  have hn2_0 : w.heap.size ≤ w2.heap.size + 1 := by omega
  have ho2_0 : w.heap.size ≤ w2.heap.size + 1 + 1 := by omega
  have hf2_0 : ∀ o, w2.frozen? ⟨w.heap.size, o, none⟩ = _ := fun o => hb2.frozen (p := ⟨w.heap.size, o, none⟩) (by first | (simp; done) | (simp; omega) | omega)
  rw [hL]
  go_wp2_with fail
  refine (r01_digits r _ (by omega)).mono ?_
  rintro e w3 ⟨rfl, hb3⟩
  have hB3 := Below.next_ hB2 hb3
  go_wp2
  go_ret2
  exact ⟨by rw [HF.out]; exact congrArg (fun s => Ending.returned (.tuple #[Value.string s, Value.int .i64 0])) (bytes_app [x] [dig r]), by go_grown⟩

set_option maxRecDepth 100000 in
set_option maxHeartbeats 4000000 in
theorem r03_format (a b c d : Nat) (w : World) (h : SmallX ⟨a, b, c, d⟩) :
    Calls Tryz.prog 134 #[.agg #[.int .i64 a, .int .i64 b, .int .i64 c, .int .i64 d]] w fun e w' => e = .returned (.tuple #[str (fmtRct ⟨a, b, c, d⟩), .int .i64 0]) ∧ Below w.heap.size w w' := by
  have hb := smallX_B h
  have hE : rctE ⟨a, b, c, d⟩ = 0 := by unfold rctE; rw [if_pos hb]
  obtain ⟨h1, h2, _, _⟩ := h
  simp only at h1 h2
  have l1 := fmt_len h1
  have l2 := fmt_len h2
  have HJ := Lib.hid (@fmt_inj _ _ h1 h2)
  have HE := Lib.hid hE
  have H1 := Lib.hid (r02_format a b · h1)
  have H2 := Lib.hid (r02_format c d · h2)
  have L1 := Lib.hid l1
  have L2 := Lib.hid l2
  have HB := Lib.hid hb
  clear hE hb h1 h2 l1 l2
  go_enter Tryz.func134, Tryz.ntmps134
  go_wp2_with fail
  refine (r03_check a b c d _).mono ?_
  rintro e w1 ⟨rfl, hb1⟩
  have hz1 := hb1.size
  try simp at hz1
  have hB1 : Below w.heap.size w w1 := Below.next (by go_grown) hb1 (by first | (simp; done) | (simp; omega) | omega)
  have hc1_0 : ∀ o, w1.cell? ⟨w.heap.size, o, none⟩ = _ := fun o => hb1.cell (p := ⟨w.heap.size, o, none⟩) (by first | (simp; done) | (simp; omega) | omega)
  have hl1_0 : w.heap.size < w1.heap.size := by omega
  have hm1_0 : w.heap.size ≤ w1.heap.size := by omega
  have hn1_0 : w.heap.size ≤ w1.heap.size + 1 := by omega
  have ho1_0 : w.heap.size ≤ w1.heap.size + 1 + 1 := by omega
  have hf1_0 : ∀ o, w1.frozen? ⟨w.heap.size, o, none⟩ = _ := fun o => hb1.frozen (p := ⟨w.heap.size, o, none⟩) (by first | (simp; done) | (simp; omega) | omega)
  rw [HE.out]
  go_wp2_with fail
  refine (r03_from a b c d _).mono ?_
  rintro e w2 ⟨rfl, hb2⟩
  have hz2 := hb2.size
  try simp at hz2
  have hB2 : Below w.heap.size w w2 := Below.next (by go_grown) hb2 (by first | (simp; done) | (simp; omega) | omega)
  have hc2_0 : ∀ o, w2.cell? ⟨w.heap.size, o, none⟩ = _ := fun o => hb2.cell (p := ⟨w.heap.size, o, none⟩) (by first | (simp; done) | (simp; omega) | omega)
  have hl2_0 : w.heap.size < w2.heap.size := by omega
  have hm2_0 : w.heap.size ≤ w2.heap.size := by omega
  have hn2_0 : w.heap.size ≤ w2.heap.size + 1 := by omega
  have ho2_0 : w.heap.size ≤ w2.heap.size + 1 + 1 := by omega
  have hf2_0 : ∀ o, w2.frozen? ⟨w.heap.size, o, none⟩ = _ := fun o => hb2.frozen (p := ⟨w.heap.size, o, none⟩) (by first | (simp; done) | (simp; omega) | omega)
  go_wp2_with fail
  refine (H1.out _).mono ?_
  rintro e w3 ⟨rfl, hb3⟩
  have hz3 := hb3.size
  try simp at hz3
  have hB3 : Below w.heap.size w w3 := Below.next (by go_grown) hb3 (by first | (simp; done) | (simp; omega) | omega)
  have hc3_0 : ∀ o, w3.cell? ⟨w.heap.size, o, none⟩ = _ := fun o => hb3.cell (p := ⟨w.heap.size, o, none⟩) (by first | (simp; done) | (simp; omega) | omega)
  have hl3_0 : w.heap.size < w3.heap.size := by omega
  have hm3_0 : w.heap.size ≤ w3.heap.size := by omega
  have hn3_0 : w.heap.size ≤ w3.heap.size + 1 := by omega
  have ho3_0 : w.heap.size ≤ w3.heap.size + 1 + 1 := by omega
  have hf3_0 : ∀ o, w3.frozen? ⟨w.heap.size, o, none⟩ = _ := fun o => hb3.frozen (p := ⟨w.heap.size, o, none⟩) (by first | (simp; done) | (simp; omega) | omega)
  go_wp2_with fail
  refine (r03_to a b c d _).mono ?_
  rintro e w4 ⟨rfl, hb4⟩
  have hz4 := hb4.size
  try simp at hz4
  have hB4 : Below w.heap.size w w4 := Below.next (by go_grown) hb4 (by first | (simp; done) | (simp; omega) | omega)
  have hc4_0 : ∀ o, w4.cell? ⟨w.heap.size, o, none⟩ = _ := fun o => hb4.cell (p := ⟨w.heap.size, o, none⟩) (by first | (simp; done) | (simp; omega) | omega)
  have hl4_0 : w.heap.size < w4.heap.size := by omega
  have hm4_0 : w.heap.size ≤ w4.heap.size := by omega
  have hn4_0 : w.heap.size ≤ w4.heap.size + 1 := by omega
  have ho4_0 : w.heap.size ≤ w4.heap.size + 1 + 1 := by omega
  have hf4_0 : ∀ o, w4.frozen? ⟨w.heap.size, o, none⟩ = _ := fun o => hb4.frozen (p := ⟨w.heap.size, o, none⟩) (by first | (simp; done) | (simp; omega) | omega)
  go_wp2_with fail
  refine (H2.out _).mono ?_
  rintro e w5 ⟨rfl, hb5⟩
  have hz5 := hb5.size
  try simp at hz5
  have hB5 : Below w.heap.size w w5 := Below.next (by go_grown) hb5 (by first | (simp; done) | (simp; omega) | omega)
  have hc5_0 : ∀ o, w5.cell? ⟨w.heap.size, o, none⟩ = _ := fun o => hb5.cell (p := ⟨w.heap.size, o, none⟩) (by first | (simp; done) | (simp; omega) | omega)
  have hl5_0 : w.heap.size < w5.heap.size := by omega
  have hm5_0 : w.heap.size ≤ w5.heap.size := by omega
  have hn5_0 : w.heap.size ≤ w5.heap.size + 1 := by omega
  have ho5_0 : w.heap.size ≤ w5.heap.size + 1 + 1 := by omega
  have hf5_0 : ∀ o, w5.frozen? ⟨w.heap.size, o, none⟩ = _ := fun o => hb5.frozen (p := ⟨w.heap.size, o, none⟩) (by first | (simp; done) | (simp; omega) | omega)
  by_cases he : a = c ∧ b = d
  · obtain ⟨rfl, rfl⟩ := he
    have HX := Lib.hid (show fmtRct ⟨a, b, a, b⟩ = fmtRef ⟨a, b⟩ by unfold fmtRct; rw [if_pos HB.out, if_pos (by simp)])
    go_wp2_with fail
    go_ret2
    exact ⟨by rw [HX.out]; rfl, by go_grown⟩
  · have HX := Lib.hid (show fmtRct ⟨a, b, c, d⟩ = fmtRef ⟨a, b⟩ ++ 58 :: fmtRef ⟨c, d⟩ by unfold fmtRct; rw [if_pos HB.out, if_neg (by simp only; omega)])
    have hne : fmtRef ⟨a, b⟩ ≠ fmtRef ⟨c, d⟩ := fun e => he (by have := HJ.out e; simp only [Ref.mk.injEq] at this; omega)
    clear HJ he HB
    generalize fmtRef ⟨a, b⟩ = X at *
    generalize fmtRef ⟨c, d⟩ = Y at *
    have m1 := L1.out
    have m2 := L2.out
    have hq : (X == Y) = false := by simpa using hne
    go_wp2_with fail
    go_ret2
    refine ⟨?_, hB5⟩
    rw [HX.out]
    refine congrArg (fun s => Ending.returned (.tuple #[Value.string s, Value.int .i64 0])) (?_ : (⟨X.toArray⟩ : ByteArray) ++ ⟨[58].toArray⟩ ++ ⟨Y.toArray⟩ = _)
    rw [bytes_app, bytes_app]
    simp

end Go.Proofs.YtamcgggmfghljaaGreatDoor

namespace Go.Proofs.YtamcgggmfghljaaGreatDoor
open Go.RowKit

set_option maxHeartbeats 400000 in
theorem rspot_any (g : Nat) (s : Bytes) (w : World) (k0 : Blk w g 90 #[str s]) :
    Calls Tryz.prog 46 #[.pointer (some ⟨g, 0, none⟩)] w fun e w' => e = .returned (.agg #[.int .i64 (spot s).1.col, .int .i64 (spot s).1.row]) ∧ Blk w' g 90 #[str (spot s).2] ∧ Chg (fun k => k = g) w w' := by
  have hg := k0.lt
  have b1 := take_bd 3 (by decide) s
  have b2 := take_bd 4 (by decide) (take 3 s).2
  have K0 := Lib.hid k0
  clear k0
  go_enter Tryz.func46, Tryz.ntmps46
  go_wp2_with fail
  refine (rtake_any g s 3 _ (by decide) (by have k0 := K0.out; exact (by repeat' (first | with_reducible exact k0 | with_reducible refine Blk.drew ?_ | with_reducible refine Blk.alloc ?_ _ | with_reducible refine Blk.far ?_ ?_ _ | (simp; done) | (simp; omega) | omega | exact k0)))).mono ?_
  rintro e w1 ⟨rfl, k1, hd1⟩
  have hz1 := hd1.size
  try simp at hz1
  have hD1 : Chg (fun k => k = g) w w1 := Chg.trans (by repeat' (first | with_reducible exact Chg.refl _ _ | with_reducible assumption | with_reducible refine Chg.alloc ?_ _ | with_reducible refine Chg.drew ?_ | with_reducible refine Chg.setCell ?_ (.inr ?_) _ | (simp; done) | (simp; omega) | omega)) (hd1.mono (fun k hk hs => hs))
  have hc1_0 : ∀ o, w1.cell? ⟨w.heap.size, o, none⟩ = _ := fun o => hd1.cell (p := ⟨w.heap.size, o, none⟩) (by first | (simp; done) | (simp; omega) | omega) (by first | omega | (simp; omega))
  have hl1_0 : w.heap.size < w1.heap.size := by omega
  have hm1_0 : w.heap.size ≤ w1.heap.size := by omega
  have hn1_0 : w.heap.size ≤ w1.heap.size + 1 := by omega
  have ho1_0 : w.heap.size ≤ w1.heap.size + 1 + 1 := by omega
  have hf1_0 : ∀ o, w1.frozen? ⟨w.heap.size, o, none⟩ = _ := fun o => hd1.frozen (p := ⟨w.heap.size, o, none⟩) (by first | (simp; done) | (simp; omega) | omega) (by first | omega | (simp; omega))
  go_wp2_with fail
  refine (rtake_any g _ 4 _ (by decide) (by repeat' (first | with_reducible exact k1 | with_reducible refine Blk.drew ?_ | with_reducible refine Blk.alloc ?_ _ | with_reducible refine Blk.far ?_ ?_ _ | (simp; done) | (simp; omega) | omega | exact k1))).mono ?_
  rintro e w2 ⟨rfl, k2, hd2⟩
  have hz2 := hd2.size
  try simp at hz2
  have hD2 : Chg (fun k => k = g) w w2 := Chg.trans (by repeat' (first | with_reducible exact Chg.refl _ _ | with_reducible assumption | with_reducible refine Chg.alloc ?_ _ | with_reducible refine Chg.drew ?_ | with_reducible refine Chg.setCell ?_ (.inr ?_) _ | (simp; done) | (simp; omega) | omega)) (hd2.mono (fun k hk hs => hs))
  have hc2_0 : ∀ o, w2.cell? ⟨w.heap.size, o, none⟩ = _ := fun o => hd2.cell (p := ⟨w.heap.size, o, none⟩) (by first | (simp; done) | (simp; omega) | omega) (by first | omega | (simp; omega))
  have hl2_0 : w.heap.size < w2.heap.size := by omega
  have hm2_0 : w.heap.size ≤ w2.heap.size := by omega
  have hn2_0 : w.heap.size ≤ w2.heap.size + 1 := by omega
  have ho2_0 : w.heap.size ≤ w2.heap.size + 1 + 1 := by omega
  have hf2_0 : ∀ o, w2.frozen? ⟨w.heap.size, o, none⟩ = _ := fun o => hd2.frozen (p := ⟨w.heap.size, o, none⟩) (by first | (simp; done) | (simp; omega) | omega) (by first | omega | (simp; omega))
  have hc2_1 : ∀ o, w2.cell? ⟨w1.heap.size, o, none⟩ = _ := fun o => hd2.cell (p := ⟨w1.heap.size, o, none⟩) (by first | (simp; done) | (simp; omega) | omega) (by first | omega | (simp; omega))
  have hl2_1 : w1.heap.size < w2.heap.size := by omega
  have hm2_1 : w1.heap.size ≤ w2.heap.size := by omega
  have hn2_1 : w1.heap.size ≤ w2.heap.size + 1 := by omega
  have ho2_1 : w1.heap.size ≤ w2.heap.size + 1 + 1 := by omega
  have hf2_1 : ∀ o, w2.frozen? ⟨w1.heap.size, o, none⟩ = _ := fun o => hd2.frozen (p := ⟨w1.heap.size, o, none⟩) (by first | (simp; done) | (simp; omega) | omega) (by first | omega | (simp; omega))
  have ne1 : w.heap.size ≠ w1.heap.size := by omega
  have ne2 : w1.heap.size ≠ w.heap.size := by omega
  go_wp2
  refine bodyPost_ret (v := .agg #[.int .i64 (1 + (take 3 s).1), .int .i64 (1 + (take 4 (take 3 s).2).1)]) (by simp (maxDischargeDepth := 9) [results, Tryz.results46, go_sem, hc1_0, hc2_0, hl1_0]) rfl ?_
  exact ⟨rfl, (by repeat' (first | with_reducible exact k2 | with_reducible refine Blk.drew ?_ | with_reducible refine Blk.alloc ?_ _ | with_reducible refine Blk.far ?_ ?_ _ | (simp; done) | (simp; omega) | omega | exact k2)), (by repeat' (first | with_reducible exact Chg.refl _ _ | with_reducible assumption | with_reducible refine Chg.alloc ?_ _ | with_reducible refine Chg.drew ?_ | with_reducible refine Chg.setCell ?_ (.inr ?_) _ | (simp; done) | (simp; omega) | omega))⟩

set_option maxHeartbeats 400000 in
theorem rcrowd_any (g : Nat) (s : Bytes) (u : Nat) (w : World) (hu : (u : Int) ≤ 4) (k0 : Blk w g 90 #[str s]) :
    Calls Tryz.prog 51 #[.pointer (some ⟨g, 0, none⟩), .int .i64 u] w fun e w' => e = .returned (.int .u64 (crowd u s).1) ∧ Blk w' g 90 #[str (crowd u s).2] ∧ Chg (fun k => k = g) w w' := by
  have hp := pow_users u (by omega)
  have hb := take_bd (2 ^ u) hp.1 s
  have HT := Lib.hid (rtake_any g s (2 ^ u) w hp.1 k0)
  clear k0
  go_enter Tryz.func51, Tryz.ntmps51
  go_wp2_with fail
  refine HT.out.mono ?_
  rintro e w1 ⟨rfl, k1, hd1⟩
  go_wp2
  go_ret
  exact ⟨rfl, k1, hd1⟩

set_option maxHeartbeats 400000 in
theorem rcrowds_any (g : Nat) (s : Bytes) (u : Nat) (w : World) (hu : (u : Int) ≤ 4) (k0 : Blk w g 90 #[str s]) :
    Calls Tryz.prog 44 #[.pointer (some ⟨g, 0, none⟩), .int .i64 u] w fun e w' =>
      e = .returned (.agg #[.int .u64 (crowds u s).1.rd, .int .u64 (crowds u s).1.wr, .int .u64 (crowds u s).1.ow]) ∧ Blk w' g 90 #[str (crowds u s).2] ∧ Chg (fun k => k = g) w w' := by
  have hg := k0.lt
  have K0 := Lib.hid k0
  clear k0
  go_enter Tryz.func44, Tryz.ntmps44
  go_wp2_with fail
  refine (rcrowd_any g s u _ hu (by have k0 := K0.out; exact (by repeat' (first | with_reducible exact k0 | with_reducible refine Blk.drew ?_ | with_reducible refine Blk.alloc ?_ _ | with_reducible refine Blk.far ?_ ?_ _ | (simp; done) | (simp; omega) | omega | exact k0)))).mono ?_
  rintro e w1 ⟨rfl, k1, hd1⟩
  have hz1 := hd1.size
  try simp at hz1
  have hD1 : Chg (fun k => k = g) w w1 := Chg.trans (by repeat' (first | with_reducible exact Chg.refl _ _ | with_reducible assumption | with_reducible refine Chg.alloc ?_ _ | with_reducible refine Chg.drew ?_ | with_reducible refine Chg.setCell ?_ (.inr ?_) _ | (simp; done) | (simp; omega) | omega)) (hd1.mono (fun k hk hs => hs))
  have hc1_0 : ∀ o, w1.cell? ⟨w.heap.size, o, none⟩ = _ := fun o => hd1.cell (p := ⟨w.heap.size, o, none⟩) (by first | (simp; done) | (simp; omega) | omega) (by first | omega | (simp; omega))
  have hl1_0 : w.heap.size < w1.heap.size := by omega
  have hm1_0 : w.heap.size ≤ w1.heap.size := by omega
  have hn1_0 : w.heap.size ≤ w1.heap.size + 1 := by omega
  have ho1_0 : w.heap.size ≤ w1.heap.size + 1 + 1 := by omega
  have hf1_0 : ∀ o, w1.frozen? ⟨w.heap.size, o, none⟩ = _ := fun o => hd1.frozen (p := ⟨w.heap.size, o, none⟩) (by first | (simp; done) | (simp; omega) | omega) (by first | omega | (simp; omega))
  go_wp2_with fail
  refine (rcrowd_any g _ u _ hu (by repeat' (first | with_reducible exact k1 | with_reducible refine Blk.drew ?_ | with_reducible refine Blk.alloc ?_ _ | with_reducible refine Blk.far ?_ ?_ _ | (simp; done) | (simp; omega) | omega | exact k1))).mono ?_
  rintro e w2 ⟨rfl, k2, hd2⟩
  have hz2 := hd2.size
  try simp at hz2
  have hD2 : Chg (fun k => k = g) w w2 := Chg.trans (by repeat' (first | with_reducible exact Chg.refl _ _ | with_reducible assumption | with_reducible refine Chg.alloc ?_ _ | with_reducible refine Chg.drew ?_ | with_reducible refine Chg.setCell ?_ (.inr ?_) _ | (simp; done) | (simp; omega) | omega)) (hd2.mono (fun k hk hs => hs))
  have hc2_0 : ∀ o, w2.cell? ⟨w.heap.size, o, none⟩ = _ := fun o => hd2.cell (p := ⟨w.heap.size, o, none⟩) (by first | (simp; done) | (simp; omega) | omega) (by first | omega | (simp; omega))
  have hl2_0 : w.heap.size < w2.heap.size := by omega
  have hm2_0 : w.heap.size ≤ w2.heap.size := by omega
  have hn2_0 : w.heap.size ≤ w2.heap.size + 1 := by omega
  have ho2_0 : w.heap.size ≤ w2.heap.size + 1 + 1 := by omega
  have hf2_0 : ∀ o, w2.frozen? ⟨w.heap.size, o, none⟩ = _ := fun o => hd2.frozen (p := ⟨w.heap.size, o, none⟩) (by first | (simp; done) | (simp; omega) | omega) (by first | omega | (simp; omega))
  have hc2_1 : ∀ o, w2.cell? ⟨w1.heap.size, o, none⟩ = _ := fun o => hd2.cell (p := ⟨w1.heap.size, o, none⟩) (by first | (simp; done) | (simp; omega) | omega) (by first | omega | (simp; omega))
  have hl2_1 : w1.heap.size < w2.heap.size := by omega
  have hm2_1 : w1.heap.size ≤ w2.heap.size := by omega
  have hn2_1 : w1.heap.size ≤ w2.heap.size + 1 := by omega
  have ho2_1 : w1.heap.size ≤ w2.heap.size + 1 + 1 := by omega
  have hf2_1 : ∀ o, w2.frozen? ⟨w1.heap.size, o, none⟩ = _ := fun o => hd2.frozen (p := ⟨w1.heap.size, o, none⟩) (by first | (simp; done) | (simp; omega) | omega) (by first | omega | (simp; omega))
  go_wp2_with fail
  refine (rcrowd_any g _ u _ hu (by repeat' (first | with_reducible exact k2 | with_reducible refine Blk.drew ?_ | with_reducible refine Blk.alloc ?_ _ | with_reducible refine Blk.far ?_ ?_ _ | (simp; done) | (simp; omega) | omega | exact k2))).mono ?_
  rintro e w3 ⟨rfl, k3, hd3⟩
  have hz3 := hd3.size
  try simp at hz3
  have hD3 : Chg (fun k => k = g) w w3 := Chg.trans (by repeat' (first | with_reducible exact Chg.refl _ _ | with_reducible assumption | with_reducible refine Chg.alloc ?_ _ | with_reducible refine Chg.drew ?_ | with_reducible refine Chg.setCell ?_ (.inr ?_) _ | (simp; done) | (simp; omega) | omega)) (hd3.mono (fun k hk hs => hs))
  have hc3_0 : ∀ o, w3.cell? ⟨w.heap.size, o, none⟩ = _ := fun o => hd3.cell (p := ⟨w.heap.size, o, none⟩) (by first | (simp; done) | (simp; omega) | omega) (by first | omega | (simp; omega))
  have hl3_0 : w.heap.size < w3.heap.size := by omega
  have hm3_0 : w.heap.size ≤ w3.heap.size := by omega
  have hn3_0 : w.heap.size ≤ w3.heap.size + 1 := by omega
  have ho3_0 : w.heap.size ≤ w3.heap.size + 1 + 1 := by omega
  have hf3_0 : ∀ o, w3.frozen? ⟨w.heap.size, o, none⟩ = _ := fun o => hd3.frozen (p := ⟨w.heap.size, o, none⟩) (by first | (simp; done) | (simp; omega) | omega) (by first | omega | (simp; omega))
  have hc3_1 : ∀ o, w3.cell? ⟨w1.heap.size, o, none⟩ = _ := fun o => hd3.cell (p := ⟨w1.heap.size, o, none⟩) (by first | (simp; done) | (simp; omega) | omega) (by first | omega | (simp; omega))
  have hl3_1 : w1.heap.size < w3.heap.size := by omega
  have hm3_1 : w1.heap.size ≤ w3.heap.size := by omega
  have hn3_1 : w1.heap.size ≤ w3.heap.size + 1 := by omega
  have ho3_1 : w1.heap.size ≤ w3.heap.size + 1 + 1 := by omega
  have hf3_1 : ∀ o, w3.frozen? ⟨w1.heap.size, o, none⟩ = _ := fun o => hd3.frozen (p := ⟨w1.heap.size, o, none⟩) (by first | (simp; done) | (simp; omega) | omega) (by first | omega | (simp; omega))
  have ne1 : w.heap.size ≠ w1.heap.size := by omega
  have ne2 : w1.heap.size ≠ w.heap.size := by omega
  go_wp2
  refine bodyPost_ret (v := .agg #[.int .u64 (crowd u s).1, .int .u64 (crowd u (crowd u s).2).1, .int .u64 (crowd u (crowd u (crowd u s).2).2).1]) (by simp (maxDischargeDepth := 9) [results, Tryz.results44, go_sem, hc1_0, hc2_0, hc3_0, hl1_0]) rfl ?_
  exact ⟨rfl, (by repeat' (first | with_reducible exact k3 | with_reducible refine Blk.drew ?_ | with_reducible refine Blk.alloc ?_ _ | with_reducible refine Blk.far ?_ ?_ _ | (simp; done) | (simp; omega) | omega | exact k3)), (by repeat' (first | with_reducible exact Chg.refl _ _ | with_reducible assumption | with_reducible refine Chg.alloc ?_ _ | with_reducible refine Chg.drew ?_ | with_reducible refine Chg.setCell ?_ (.inr ?_) _ | (simp; done) | (simp; omega) | omega))⟩

end Go.Proofs.YtamcgggmfghljaaGreatDoor
