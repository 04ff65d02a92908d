/- Layer 41 (reference): texts of spots, fields, numbers. · Layer 41 (reference): the content that bytes are taken as (printed by tools/gen_content.py). · Layer 29 (reference): which fields a kind uses. -/
import Derived.Test.YtamcgggmfghljaaGreatDoorR20
import Derived.Test.YtamcgggmfghljaaGreatDoorR21
import Derived.Test.YtamcgggmfghljaaGreatDoorR15
import Derived.Test.YtamcgggmfghljaaGreatDoorR2
namespace Go.Proofs.YtamcgggmfghljaaGreatDoor
open Go.RowKit

theorem r02_fmt (r : Ref) (w : World) (h : SmallR r) :
    Calls Tryz.prog 187 #[.agg #[.int .i64 r.col, .int .i64 r.row]] w fun e w' => e = .returned (.tuple #[str (fmtRef r), .int .i64 0]) ∧ Below w.heap.size w w' := by
  obtain ⟨c, q⟩ := r
  have h1 := h.1
  have h2 := h.2.2.1
  simp only at h1 h2
  obtain ⟨c, rfl⟩ : ∃ n : Nat, c = n := ⟨c.toNat, by omega⟩
  obtain ⟨q, rfl⟩ : ∃ n : Nat, q = n := ⟨q.toNat, by omega⟩
  exact r02_format c q w h
theorem r03_fmt (x : Rct) (w : World) (h : SmallX x) :
    Calls Tryz.prog 134 #[.agg #[.int .i64 x.c1, .int .i64 x.r1, .int .i64 x.c2, .int .i64 x.r2]] w fun e w' => e = .returned (.tuple #[str (fmtRct x), .int .i64 0]) ∧ Below w.heap.size w w' := by
  obtain ⟨a, b, c, d⟩ := x
  have h1 := h.1.1
  have h2 := h.1.2.2.1
  have h3 := h.2.1.1
  have h4 := h.2.1.2.2.1
  simp only at h1 h2 h3 h4
  obtain ⟨a, rfl⟩ : ∃ n : Nat, a = n := ⟨a.toNat, by omega⟩
  obtain ⟨b, rfl⟩ : ∃ n : Nat, b = n := ⟨b.toNat, by omega⟩
  obtain ⟨c, rfl⟩ : ∃ n : Nat, c = n := ⟨c.toNat, by omega⟩
  obtain ⟨d, rfl⟩ : ∃ n : Nat, d = n := ⟨d.toNat, by omega⟩
  exact r03_format a b c d w h
set_option maxRecDepth 100000 in
set_option maxHeartbeats 4000000 in
theorem rref_any (g : Nat) (s : Bytes) (w : World) (k0 : Blk w g 90 #[str s]) :
    Calls Tryz.prog 133 #[.pointer (some ⟨g, 0, none⟩)] w fun e w' => e = .returned (str (spotText s).1) ∧ Blk w' g 90 #[str (spotText s).2] ∧ Chg (fun k => k = g) w w' := by
  have hg := k0.lt
  have K0 := Lib.hid k0
  clear k0
  go_enter Tryz.func133, Tryz.ntmps133
  go_wp2_with fail
  refine (rspot_any g s _ K0.out).mono ?_
  rintro e w1 ⟨rfl, k1, hd1⟩
  go_wp2_with fail
  refine (r02_fmt (spot s).1 _ (spot_small s)).mono ?_
  rintro e w2 ⟨rfl, hb2⟩
  go_wp2_with fail
  go_ret
  exact ⟨rfl, k1.below_ hb2, hd1.below hb2⟩

set_option maxRecDepth 100000 in
set_option maxHeartbeats 4000000 in
theorem r29_number (n : Nat) (w : World) (h : n < 10) :
    Calls Tryz.prog 132 #[.int .i64 n] w fun e w' => e = .returned (str [dig n]) ∧ Below w.heap.size w w' := by
  go_enter Tryz.func132, Tryz.ntmps132
  go_wp2_with fail
  refine (r01_digits n _ h).mono ?_
  rintro e w1 ⟨rfl, hb1⟩
  have hz1 := hb1.size
  try simp at hz1
  have hB1 : Below w.heap.size w w1 := Below.next (by go_grown) hb1 (by first | (simp; done) | (simp; omega) | omega)
  go_wp2
  go_ret
  exact ⟨rfl, by go_grown⟩

end Go.Proofs.YtamcgggmfghljaaGreatDoor

namespace Go.Proofs.YtamcgggmfghljaaGreatDoor
open Go.RowKit

set_option maxRecDepth 100000 in
set_option maxHeartbeats 4000000 in
theorem rcontent_0 (g : Nat) (s : Bytes) (w : World) (h1 : (take 12 s).1 = 0) (k0 : Blk w g 90 #[str s]) :
    Calls Tryz.prog 47 #[.pointer (some ⟨g, 0, none⟩)] w fun e w' => e = .returned (str (content s).1) ∧ Blk w' g 90 #[str (content s).2] ∧ Chg (fun k => k = g) w w' := by
  have HX := Lib.hid (show content s = ([], (take 12 s).2) by unfold content; simp only [h1]; rfl)
  have hg := k0.lt
  have K0 := Lib.hid k0
  have H1 := Lib.hid h1
  clear k0 h1
  go_enter Tryz.func47, Tryz.ntmps47
  go_wp2_with fail
  refine (rtake_any g s 12 _ (by decide) K0.out).mono ?_
  rintro e w1 ⟨rfl, k1, hd1⟩
  rw [H1.out]
  have K1 := Lib.hid k1
  have D1 := Lib.hid hd1
  clear k1 hd1
  go_wp2_with fail
  go_ret
  rw [HX.out]
  exact ⟨rfl, K1.out, D1.out⟩

set_option maxRecDepth 100000 in
set_option maxHeartbeats 4000000 in
theorem rcontent_2 (g : Nat) (s : Bytes) (w : World) (h1 : (take 12 s).1 = 2) (k0 : Blk w g 90 #[str s]) :
    Calls Tryz.prog 47 #[.pointer (some ⟨g, 0, none⟩)] w fun e w' => e = .returned (str (content s).1) ∧ Blk w' g 90 #[str (content s).2] ∧ Chg (fun k => k = g) w w' := by
  have HX := Lib.hid (show content s = ([120], (take 12 s).2) by unfold content; simp only [h1]; rfl)
  have hg := k0.lt
  have K0 := Lib.hid k0
  have H1 := Lib.hid h1
  clear k0 h1
  go_enter Tryz.func47, Tryz.ntmps47
  go_wp2_with fail
  refine (rtake_any g s 12 _ (by decide) K0.out).mono ?_
  rintro e w1 ⟨rfl, k1, hd1⟩
  rw [H1.out]
  have K1 := Lib.hid k1
  have D1 := Lib.hid hd1
  clear k1 hd1
  go_wp2_with fail
  go_ret
  rw [HX.out]
  exact ⟨rfl, K1.out, D1.out⟩

set_option maxRecDepth 100000 in
set_option maxHeartbeats 4000000 in
theorem rcontent_3 (g : Nat) (s : Bytes) (w : World) (h1 : (take 12 s).1 = 3) (k0 : Blk w g 90 #[str s]) :
    Calls Tryz.prog 47 #[.pointer (some ⟨g, 0, none⟩)] w fun e w' => e = .returned (str (content s).1) ∧ Blk w' g 90 #[str (content s).2] ∧ Chg (fun k => k = g) w w' := by
  have HX := Lib.hid (show content s = ([84, 82, 85, 69], (take 12 s).2) by unfold content; simp only [h1]; rfl)
  have hg := k0.lt
  have K0 := Lib.hid k0
  have H1 := Lib.hid h1
  clear k0 h1
  go_enter Tryz.func47, Tryz.ntmps47
  go_wp2_with fail
  refine (rtake_any g s 12 _ (by decide) K0.out).mono ?_
  rintro e w1 ⟨rfl, k1, hd1⟩
  rw [H1.out]
  have K1 := Lib.hid k1
  have D1 := Lib.hid hd1
  clear k1 hd1
  go_wp2_with fail
  go_ret
  rw [HX.out]
  exact ⟨rfl, K1.out, D1.out⟩

set_option maxRecDepth 100000 in
set_option maxHeartbeats 4000000 in
theorem rcontent_4 (g : Nat) (s : Bytes) (w : World) (h1 : (take 12 s).1 = 4) (k0 : Blk w g 90 #[str s]) :
    Calls Tryz.prog 47 #[.pointer (some ⟨g, 0, none⟩)] w fun e w' => e = .returned (str (content s).1) ∧ Blk w' g 90 #[str (content s).2] ∧ Chg (fun k => k = g) w w' := by
  have HX := Lib.hid (show content s = ([35, 78, 47, 65], (take 12 s).2) by unfold content; simp only [h1]; rfl)
  have hg := k0.lt
  have K0 := Lib.hid k0
  have H1 := Lib.hid h1
  clear k0 h1
  go_enter Tryz.func47, Tryz.ntmps47
  go_wp2_with fail
  refine (rtake_any g s 12 _ (by decide) K0.out).mono ?_
  rintro e w1 ⟨rfl, k1, hd1⟩
  rw [H1.out]
  have K1 := Lib.hid k1
  have D1 := Lib.hid hd1
  clear k1 hd1
  go_wp2_with fail
  go_ret
  rw [HX.out]
  exact ⟨rfl, K1.out, D1.out⟩

set_option maxRecDepth 100000 in
set_option maxHeartbeats 4000000 in
theorem rcontent_1 (g : Nat) (s : Bytes) (w : World) (h1 : (take 12 s).1 = 1) (k0 : Blk w g 90 #[str s]) :
    Calls Tryz.prog 47 #[.pointer (some ⟨g, 0, none⟩)] w fun e w' => e = .returned (str (content s).1) ∧ Blk w' g 90 #[str (content s).2] ∧ Chg (fun k => k = g) w w' := by
  have HX := Lib.hid (show content s = (digits (take 10 (take 12 s).2).1.toNat, (take 10 (take 12 s).2).2) by unfold content; simp only [h1]; rfl)
  have hg := k0.lt
  have K0 := Lib.hid k0
  have H1 := Lib.hid h1
  clear k0 h1
  go_enter Tryz.func47, Tryz.ntmps47
  go_wp2_with fail
  refine (rtake_any g s 12 _ (by decide) K0.out).mono ?_
  rintro e w1 ⟨rfl, k1, hd1⟩
  rw [H1.out]
  have K1 := Lib.hid k1
  have D1 := Lib.hid hd1
  clear k1 hd1
  go_wp2_with fail
  refine (rtake_any g _ 10 _ (by decide) K1.out).mono ?_
  rintro e w2 ⟨rfl, k2, hd2⟩
  obtain ⟨n, hn, hn2⟩ : ∃ n : Nat, (take 10 (take 12 s).2).1 = (n : Int) ∧ n < 10 := by
    have := take_bd 10 (by decide) (take 12 s).2
    exact ⟨(take 10 (take 12 s).2).1.toNat, by omega, by omega⟩
  rw [hn]
  have HN := Lib.hid hn
  have K2 := Lib.hid k2
  have D2 := Lib.hid (D1.out.trans hd2)
  clear hn k2 hd2
  go_wp2_with fail
  refine (r29_number n _ hn2).mono ?_
  rintro e w3 ⟨rfl, hb3⟩
  go_wp2_with fail
  go_ret
  rw [HX.out]
  exact ⟨by rw [HN.out, digits_small (by simpa using hn2)]; rfl, K2.out.below_ hb3, D2.out.below hb3⟩

set_option maxRecDepth 100000 in
set_option maxHeartbeats 4000000 in
theorem rcontent_5 (g : Nat) (s : Bytes) (w : World) (h1 : (take 12 s).1 = 5) (k0 : Blk w g 90 #[str s]) :
    Calls Tryz.prog 47 #[.pointer (some ⟨g, 0, none⟩)] w fun e w' => e = .returned (str (content s).1) ∧ Blk w' g 90 #[str (content s).2] ∧ Chg (fun k => k = g) w w' := by
  have HX := Lib.hid (show content s = (61 :: (spotText (take 12 s).2).1, (spotText (take 12 s).2).2) by unfold content; simp only [h1]; rfl)
  have hg := k0.lt
  have K0 := Lib.hid k0
  have H1 := Lib.hid h1
  clear k0 h1
  go_enter Tryz.func47, Tryz.ntmps47
  go_wp2_with fail
  refine (rtake_any g s 12 _ (by decide) K0.out).mono ?_
  rintro e w1 ⟨rfl, k1, hd1⟩
  rw [H1.out]
  have K1 := Lib.hid k1
  have D1 := Lib.hid hd1
  clear k1 hd1
  go_wp2_with fail
  refine (rref_any g (take 12 s).2 _ K1.out).mono ?_
  rintro e w2 ⟨rfl, k2, hd2⟩
  have K2 := Lib.hid k2
  have D2 := Lib.hid (D1.out.trans hd2)
  clear k2 hd2
  have L2 := spotText_len (take 12 s).2
  generalize (spotText (take 12 s).2).1 = X2 at *
  go_wp2_with fail
  go_ret
  rw [HX.out]
  refine ⟨ret_str (?_ : (⟨[61].toArray⟩ : ByteArray) ++ ⟨X2.toArray⟩ = _), K2.out, D2.out⟩
  rw [bytes_app]
  rfl

set_option maxRecDepth 100000 in
set_option maxHeartbeats 4000000 in
theorem rcontent_10 (g : Nat) (s : Bytes) (w : World) (h1 : (take 12 s).1 = 10) (k0 : Blk w g 90 #[str s]) :
    Calls Tryz.prog 47 #[.pointer (some ⟨g, 0, none⟩)] w fun e w' => e = .returned (str (content s).1) ∧ Blk w' g 90 #[str (content s).2] ∧ Chg (fun k => k = g) w w' := by
  have HX := Lib.hid (show content s = ([61, 73, 70, 69, 82, 82, 79, 82, 40] ++ (spotText (take 12 s).2).1 ++ [44, 48, 41], (spotText (take 12 s).2).2) by unfold content; simp only [h1]; rfl)
  have hg := k0.lt
  have K0 := Lib.hid k0
  have H1 := Lib.hid h1
  clear k0 h1
  go_enter Tryz.func47, Tryz.ntmps47
  go_wp2_with fail
  refine (rtake_any g s 12 _ (by decide) K0.out).mono ?_
  rintro e w1 ⟨rfl, k1, hd1⟩
  rw [H1.out]
  have K1 := Lib.hid k1
  have D1 := Lib.hid hd1
  clear k1 hd1
  go_wp2_with fail
  refine (rref_any g (take 12 s).2 _ K1.out).mono ?_
  rintro e w2 ⟨rfl, k2, hd2⟩
  have K2 := Lib.hid k2
  have D2 := Lib.hid (D1.out.trans hd2)
  clear k2 hd2
  have L2 := spotText_len (take 12 s).2
  generalize (spotText (take 12 s).2).1 = X2 at *
  go_wp2_with fail
  go_ret
  rw [HX.out]
  refine ⟨ret_str (?_ : (⟨[61, 73, 70, 69, 82, 82, 79, 82, 40].toArray⟩ : ByteArray) ++ ⟨X2.toArray⟩ ++ ⟨[44, 48, 41].toArray⟩ = _), K2.out, D2.out⟩
  rw [bytes_app, bytes_app]

set_option maxRecDepth 100000 in
set_option maxHeartbeats 4000000 in
theorem rcontent_11 (g : Nat) (s : Bytes) (w : World) (h1 : (take 12 s).1 = 11) (k0 : Blk w g 90 #[str s]) :
    Calls Tryz.prog 47 #[.pointer (some ⟨g, 0, none⟩)] w fun e w' => e = .returned (str (content s).1) ∧ Blk w' g 90 #[str (content s).2] ∧ Chg (fun k => k = g) w w' := by
  have HX := Lib.hid (show content s = ([61, 49, 47] ++ (spotText (take 12 s).2).1, (spotText (take 12 s).2).2) by unfold content; simp only [h1]; rfl)
  have hg := k0.lt
  have K0 := Lib.hid k0
  have H1 := Lib.hid h1
  clear k0 h1
  go_enter Tryz.func47, Tryz.ntmps47
  go_wp2_with fail
  refine (rtake_any g s 12 _ (by decide) K0.out).mono ?_
  rintro e w1 ⟨rfl, k1, hd1⟩
  rw [H1.out]
  have K1 := Lib.hid k1
  have D1 := Lib.hid hd1
  clear k1 hd1
  go_wp2_with fail
  refine (rref_any g (take 12 s).2 _ K1.out).mono ?_
  rintro e w2 ⟨rfl, k2, hd2⟩
  have K2 := Lib.hid k2
  have D2 := Lib.hid (D1.out.trans hd2)
  clear k2 hd2
  have L2 := spotText_len (take 12 s).2
  generalize (spotText (take 12 s).2).1 = X2 at *
  go_wp2_with fail
  go_ret
  rw [HX.out]
  refine ⟨ret_str (?_ : (⟨[61, 49, 47].toArray⟩ : ByteArray) ++ ⟨X2.toArray⟩ = _), K2.out, D2.out⟩
  rw [bytes_app]

set_option maxRecDepth 100000 in
set_option maxHeartbeats 4000000 in
theorem rcontent_6 (g : Nat) (s : Bytes) (w : World) (h1 : (take 12 s).1 = 6) (k0 : Blk w g 90 #[str s]) :
    Calls Tryz.prog 47 #[.pointer (some ⟨g, 0, none⟩)] w fun e w' => e = .returned (str (content s).1) ∧ Blk w' g 90 #[str (content s).2] ∧ Chg (fun k => k = g) w w' := by
  have HX := Lib.hid (show content s = (61 :: (spotText (take 12 s).2).1 ++ 43 :: (spotText (spotText (take 12 s).2).2).1, (spotText (spotText (take 12 s).2).2).2) by unfold content; simp only [h1]; rfl)
  have hg := k0.lt
  have K0 := Lib.hid k0
  have H1 := Lib.hid h1
  clear k0 h1
  go_enter Tryz.func47, Tryz.ntmps47
  go_wp2_with fail
  refine (rtake_any g s 12 _ (by decide) K0.out).mono ?_
  rintro e w1 ⟨rfl, k1, hd1⟩
  rw [H1.out]
  have K1 := Lib.hid k1
  have D1 := Lib.hid hd1
  clear k1 hd1
  go_wp2_with fail
  refine (rref_any g (take 12 s).2 _ K1.out).mono ?_
  rintro e w2 ⟨rfl, k2, hd2⟩
  have K2 := Lib.hid k2
  have D2 := Lib.hid (D1.out.trans hd2)
  clear k2 hd2
  have L2 := spotText_len (take 12 s).2
  generalize hsp : spotText (take 12 s).2 = sp at *
  obtain ⟨X2, s2⟩ := sp
  simp only at K2 L2 HX
  go_wp2_with fail
  refine (rref_any g s2 _ K2.out).mono ?_
  rintro e w3 ⟨rfl, k3, hd3⟩
  have K3 := Lib.hid k3
  have D3 := Lib.hid (D2.out.trans hd3)
  clear k3 hd3
  have L3 := spotText_len s2
  generalize (spotText s2).1 = X3 at *
  go_wp2_with fail
  go_ret
  rw [HX.out]
  refine ⟨ret_str (?_ : (⟨[61].toArray⟩ : ByteArray) ++ ⟨X2.toArray⟩ ++ ⟨[43].toArray⟩ ++ ⟨X3.toArray⟩ = _), K3.out, D3.out⟩
  rw [bytes_app, bytes_app, bytes_app]
  simp

set_option maxRecDepth 100000 in
set_option maxHeartbeats 4000000 in
theorem rcontent_7 (g : Nat) (s : Bytes) (w : World) (h1 : (take 12 s).1 = 7) (k0 : Blk w g 90 #[str s]) :
    Calls Tryz.prog 47 #[.pointer (some ⟨g, 0, none⟩)] w fun e w' => e = .returned (str (content s).1) ∧ Blk w' g 90 #[str (content s).2] ∧ Chg (fun k => k = g) w w' := by
  have HX := Lib.hid (show content s = ([61, 83, 85, 77, 40] ++ (fieldText (take 12 s).2).1 ++ [41], (fieldText (take 12 s).2).2) by unfold content; simp only [h1]; rfl)
  have hg := k0.lt
  have K0 := Lib.hid k0
  have H1 := Lib.hid h1
  clear k0 h1
  go_enter Tryz.func47, Tryz.ntmps47
  go_wp2_with fail
  refine (rtake_any g s 12 _ (by decide) K0.out).mono ?_
  rintro e w1 ⟨rfl, k1, hd1⟩
  rw [H1.out]
  have K1 := Lib.hid k1
  have D1 := Lib.hid hd1
  clear k1 hd1
  go_wp2_with fail
  refine (rfield_any g (take 12 s).2 _ K1.out).mono ?_
  rintro e w2 ⟨rfl, k2, hd2⟩
  have K2 := Lib.hid k2
  have D2 := Lib.hid (D1.out.trans hd2)
  clear k2 hd2
  go_wp2_with fail
  refine (r03_fmt (field (take 12 s).2).1 _ (field_small (take 12 s).2)).mono ?_
  rintro e w3 ⟨rfl, hb3⟩
  have K3 := Lib.hid (K2.out.below_ hb3)
  have D3 := Lib.hid (D2.out.below hb3)
  clear hb3
  have L2 : (fmtRct (field (take 12 s).2).1).length ≤ 5 := fieldText_len (take 12 s).2
  have HX := Lib.hid (show content s = ([61, 83, 85, 77, 40] ++ fmtRct (field (take 12 s).2).1 ++ [41], (field (take 12 s).2).2) from HX.out)
  generalize fmtRct (field (take 12 s).2).1 = X2 at *
  go_wp2_with fail
  go_ret
  rw [HX.out]
  refine ⟨ret_str (?_ : (⟨[61].toArray⟩ : ByteArray) ++ ⟨[83, 85, 77].toArray⟩ ++ ⟨[40].toArray⟩ ++ ⟨X2.toArray⟩ ++ ⟨[41].toArray⟩ = _), K3.out, D3.out⟩
  rw [bytes_app, bytes_app, bytes_app, bytes_app]
  simp

set_option maxRecDepth 100000 in
set_option maxHeartbeats 4000000 in
theorem rcontent_8 (g : Nat) (s : Bytes) (w : World) (h1 : (take 12 s).1 = 8) (k0 : Blk w g 90 #[str s]) :
    Calls Tryz.prog 47 #[.pointer (some ⟨g, 0, none⟩)] w fun e w' => e = .returned (str (content s).1) ∧ Blk w' g 90 #[str (content s).2] ∧ Chg (fun k => k = g) w w' := by
  have HX := Lib.hid (show content s = ([61, 68, 83, 85, 77, 40] ++ (fieldText (take 12 s).2).1 ++ [41], (fieldText (take 12 s).2).2) by unfold content; simp only [h1]; rfl)
  have hg := k0.lt
  have K0 := Lib.hid k0
  have H1 := Lib.hid h1
  clear k0 h1
  go_enter Tryz.func47, Tryz.ntmps47
  go_wp2_with fail
  refine (rtake_any g s 12 _ (by decide) K0.out).mono ?_
  rintro e w1 ⟨rfl, k1, hd1⟩
  rw [H1.out]
  have K1 := Lib.hid k1
  have D1 := Lib.hid hd1
  clear k1 hd1
  go_wp2_with fail
  refine (rfield_any g (take 12 s).2 _ K1.out).mono ?_
  rintro e w2 ⟨rfl, k2, hd2⟩
  have K2 := Lib.hid k2
  have D2 := Lib.hid (D1.out.trans hd2)
  clear k2 hd2
  go_wp2_with fail
  refine (r03_fmt (field (take 12 s).2).1 _ (field_small (take 12 s).2)).mono ?_
  rintro e w3 ⟨rfl, hb3⟩
  have K3 := Lib.hid (K2.out.below_ hb3)
  have D3 := Lib.hid (D2.out.below hb3)
  clear hb3
  have L2 : (fmtRct (field (take 12 s).2).1).length ≤ 5 := fieldText_len (take 12 s).2
  have HX := Lib.hid (show content s = ([61, 68, 83, 85, 77, 40] ++ fmtRct (field (take 12 s).2).1 ++ [41], (field (take 12 s).2).2) from HX.out)
  generalize fmtRct (field (take 12 s).2).1 = X2 at *
  go_wp2_with fail
  go_ret
  rw [HX.out]
  refine ⟨ret_str (?_ : (⟨[61].toArray⟩ : ByteArray) ++ ⟨[68, 83, 85, 77].toArray⟩ ++ ⟨[40].toArray⟩ ++ ⟨X2.toArray⟩ ++ ⟨[41].toArray⟩ = _), K3.out, D3.out⟩
  rw [bytes_app, bytes_app, bytes_app, bytes_app]
  simp

set_option maxRecDepth 100000 in
set_option maxHeartbeats 4000000 in
theorem rcontent_9 (g : Nat) (s : Bytes) (w : World) (h1 : (take 12 s).1 = 9) (k0 : Blk w g 90 #[str s]) :
    Calls Tryz.prog 47 #[.pointer (some ⟨g, 0, none⟩)] w fun e w' => e = .returned (str (content s).1) ∧ Blk w' g 90 #[str (content s).2] ∧ Chg (fun k => k = g) w w' := by
  have HX := Lib.hid (show content s = ([61, 68, 67, 79, 85, 78, 84, 40] ++ (fieldText (take 12 s).2).1 ++ [41], (fieldText (take 12 s).2).2) by unfold content; simp only [h1]; rfl)
  have hg := k0.lt
  have K0 := Lib.hid k0
  have H1 := Lib.hid h1
  clear k0 h1
  go_enter Tryz.func47, Tryz.ntmps47
  go_wp2_with fail
  refine (rtake_any g s 12 _ (by decide) K0.out).mono ?_
  rintro e w1 ⟨rfl, k1, hd1⟩
  rw [H1.out]
  have K1 := Lib.hid k1
  have D1 := Lib.hid hd1
  clear k1 hd1
  go_wp2_with fail
  refine (rfield_any g (take 12 s).2 _ K1.out).mono ?_
  rintro e w2 ⟨rfl, k2, hd2⟩
  have K2 := Lib.hid k2
  have D2 := Lib.hid (D1.out.trans hd2)
  clear k2 hd2
  go_wp2_with fail
  refine (r03_fmt (field (take 12 s).2).1 _ (field_small (take 12 s).2)).mono ?_
  rintro e w3 ⟨rfl, hb3⟩
  have K3 := Lib.hid (K2.out.below_ hb3)
  have D3 := Lib.hid (D2.out.below hb3)
  clear hb3
  have L2 : (fmtRct (field (take 12 s).2).1).length ≤ 5 := fieldText_len (take 12 s).2
  have HX := Lib.hid (show content s = ([61, 68, 67, 79, 85, 78, 84, 40] ++ fmtRct (field (take 12 s).2).1 ++ [41], (field (take 12 s).2).2) from HX.out)
  generalize fmtRct (field (take 12 s).2).1 = X2 at *
  go_wp2_with fail
  go_ret
  rw [HX.out]
  refine ⟨ret_str (?_ : (⟨[61].toArray⟩ : ByteArray) ++ ⟨[68, 67, 79, 85, 78, 84].toArray⟩ ++ ⟨[40].toArray⟩ ++ ⟨X2.toArray⟩ ++ ⟨[41].toArray⟩ = _), K3.out, D3.out⟩
  rw [bytes_app, bytes_app, bytes_app, bytes_app]
  simp

theorem rcontent_any (g : Nat) (s : Bytes) (w : World) (k0 : Blk w g 90 #[str s]) :
    Calls Tryz.prog 47 #[.pointer (some ⟨g, 0, none⟩)] w fun e w' => e = .returned (str (content s).1) ∧ Blk w' g 90 #[str (content s).2] ∧ Chg (fun k => k = g) w w' := by
  have hb := take_bd 12 (by decide) s
  have h : (take 12 s).1 = 0 ∨ (take 12 s).1 = 1 ∨ (take 12 s).1 = 2 ∨ (take 12 s).1 = 3 ∨ (take 12 s).1 = 4 ∨ (take 12 s).1 = 5 ∨ (take 12 s).1 = 6 ∨ (take 12 s).1 = 7 ∨ (take 12 s).1 = 8 ∨ (take 12 s).1 = 9 ∨ (take 12 s).1 = 10 ∨ (take 12 s).1 = 11 := by omega
  rcases h with h | h | h | h | h | h | h | h | h | h | h | h
  · exact rcontent_0 g s w h k0
  · exact rcontent_1 g s w h k0
  · exact rcontent_2 g s w h k0
  · exact rcontent_3 g s w h k0
  · exact rcontent_4 g s w h k0
  · exact rcontent_5 g s w h k0
  · exact rcontent_6 g s w h k0
  · exact rcontent_7 g s w h k0
  · exact rcontent_8 g s w h k0
  · exact rcontent_9 g s w h k0
  · exact rcontent_10 g s w h k0
  · exact rcontent_11 g s w h k0

end Go.Proofs.YtamcgggmfghljaaGreatDoor

namespace Go.Proofs.YtamcgggmfghljaaGreatDoor
open Go.RowKit

set_option maxRecDepth 100000 in
theorem uses_1 (w : World) : Calls Tryz.prog 138 #[.int .u8 1] w fun e w' => e = .returned (.int .i64 1) ∧ Below w.heap.size w w' := by
  go_enter Tryz.func138, Tryz.ntmps138
  go_wp2
  go_ret
  exact ⟨rfl, by go_grown⟩
set_option maxRecDepth 100000 in
theorem uses_2 (w : World) : Calls Tryz.prog 138 #[.int .u8 2] w fun e w' => e = .returned (.int .i64 1) ∧ Below w.heap.size w w' := by
  go_enter Tryz.func138, Tryz.ntmps138
  go_wp2
  go_ret
  exact ⟨rfl, by go_grown⟩
set_option maxRecDepth 100000 in
theorem uses_3 (w : World) : Calls Tryz.prog 138 #[.int .u8 3] w fun e w' => e = .returned (.int .i64 7) ∧ Below w.heap.size w w' := by
  go_enter Tryz.func138, Tryz.ntmps138
  go_wp2
  go_ret
  exact ⟨rfl, by go_grown⟩
set_option maxRecDepth 100000 in
theorem uses_4 (w : World) : Calls Tryz.prog 138 #[.int .u8 4] w fun e w' => e = .returned (.int .i64 3) ∧ Below w.heap.size w w' := by
  go_enter Tryz.func138, Tryz.ntmps138
  go_wp2
  go_ret
  exact ⟨rfl, by go_grown⟩
set_option maxRecDepth 100000 in
theorem uses_5 (w : World) : Calls Tryz.prog 138 #[.int .u8 5] w fun e w' => e = .returned (.int .i64 3) ∧ Below w.heap.size w w' := by
  go_enter Tryz.func138, Tryz.ntmps138
  go_wp2
  go_ret
  exact ⟨rfl, by go_grown⟩
set_option maxRecDepth 100000 in
theorem uses_6 (w : World) : Calls Tryz.prog 138 #[.int .u8 6] w fun e w' => e = .returned (.int .i64 3) ∧ Below w.heap.size w w' := by
  go_enter Tryz.func138, Tryz.ntmps138
  go_wp2
  go_ret
  exact ⟨rfl, by go_grown⟩
set_option maxRecDepth 100000 in
theorem uses_7 (w : World) : Calls Tryz.prog 138 #[.int .u8 7] w fun e w' => e = .returned (.int .i64 11) ∧ Below w.heap.size w w' := by
  go_enter Tryz.func138, Tryz.ntmps138
  go_wp2
  go_ret
  exact ⟨rfl, by go_grown⟩
set_option maxRecDepth 100000 in
theorem uses_8 (w : World) : Calls Tryz.prog 138 #[.int .u8 8] w fun e w' => e = .returned (.int .i64 51) ∧ Below w.heap.size w w' := by
  go_enter Tryz.func138, Tryz.ntmps138
  go_wp2
  go_ret
  exact ⟨rfl, by go_grown⟩
set_option maxRecDepth 100000 in
theorem uses_9 (w : World) : Calls Tryz.prog 138 #[.int .u8 9] w fun e w' => e = .returned (.int .i64 65) ∧ Below w.heap.size w w' := by
  go_enter Tryz.func138, Tryz.ntmps138
  go_wp2
  go_ret
  exact ⟨rfl, by go_grown⟩
set_option maxRecDepth 100000 in
theorem uses_10 (w : World) : Calls Tryz.prog 138 #[.int .u8 10] w fun e w' => e = .returned (.int .i64 1) ∧ Below w.heap.size w w' := by
  go_enter Tryz.func138, Tryz.ntmps138
  go_wp2
  go_ret
  exact ⟨rfl, by go_grown⟩

end Go.Proofs.YtamcgggmfghljaaGreatDoor
