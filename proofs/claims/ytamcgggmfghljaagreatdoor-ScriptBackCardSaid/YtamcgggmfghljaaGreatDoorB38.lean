/- Layer 41 (program): the known bytes, read. · Layer 41: the known script, read and written (by the general contract of Encode). -/
import Derived.Deep.RegionWith
import Derived.BigRegion
import Derived.BigQuiet
import Derived.Deep.QuietTactic
import Derived.Laws.IdiomStrings
import Derived.Laws.CopyOwn
import Derived.Test.YtamcgggmfghljaaGreatDoorB35
set_option maxRecDepth 100000
set_option maxHeartbeats 8000000
namespace Go.Proofs.YtamcgggmfghljaaGreatDoor
open Go.RowKit
def knownB : Bytes := [2, 7, 7, 7, 0, 1, 2, 3, 1, 9, 0]
def knownS : Scp := ⟨⟨3, [⟨⟨3, 4⟩, [57]⟩], [⟨⟨1, 1, 1024, 1024⟩, ⟨7, 7, 7⟩⟩], [], [], [], 0⟩, []⟩
theorem SlsN.chg {α : Type} {c : α → List Value} {base : Nat} {w w' : World} {v : Value} {l : List α} {S : Nat → Prop} (h : SlsN c base w v l) (hb : Chg S w w') (hS : ∀ k, base ≤ k → ¬ S k) : SlsN c base w' v l := by
  refine ⟨?_, h.2⟩
  obtain ⟨A, cap, rfl, h1, hm, h2⟩ := h.1
  refine ⟨A, cap, rfl, h1, hm, fun hn => ?_⟩
  obtain ⟨b, o, rfl, hlt, hr⟩ := h2 hn
  have hz := hb.size
  have hq := h.2 b rfl
  refine ⟨b, o, rfl, by omega, fun j t ht => ?_⟩
  rw [hb.cell (p := ⟨b, o + j, none⟩) hlt (hS b hq)]
  exact hr j t ht
theorem known_read (w : World) :
    Calls Tryz.prog 17 #[str knownB] w fun u w' => ∃ e r g l x o, u = .returned (vScp knownS e r g l x o) ∧ RdScp w' w'.heap.size knownS e r g l x o ∧ Below w.heap.size w w' := by
  unfold knownB
  go_enter Tryz.func17, Tryz.ntmps17
  go_wp2_with fail
  have kr : Blk (((w.alloc (.cells #[.int .i64 0, .slice none 0 0, .slice none 0 0, .slice none 0 0, .slice none 0 0, .slice none 0 0, .int .i64 0, .slice none 0 0] 31)).alloc (.cells #[str [2, 7, 7, 7, 0, 1, 2, 3, 1, 9, 0]] 74)).alloc (.cells #[.int .i64 0, .slice none 0 0, .slice none 0 0, .slice none 0 0, .slice none 0 0, .slice none 0 0, .int .i64 0, .slice none 0 0] 31)) w.heap.size 31 #[.int .i64 0, .slice none 0 0, .slice none 0 0, .slice none 0 0, .slice none 0 0, .slice none 0 0, .int .i64 0, .slice none 0 0] := ((Blk.new w _ _).alloc _).alloc _
  have kt : Blk (((w.alloc (.cells #[.int .i64 0, .slice none 0 0, .slice none 0 0, .slice none 0 0, .slice none 0 0, .slice none 0 0, .int .i64 0, .slice none 0 0] 31)).alloc (.cells #[str [2, 7, 7, 7, 0, 1, 2, 3, 1, 9, 0]] 74)).alloc (.cells #[.int .i64 0, .slice none 0 0, .slice none 0 0, .slice none 0 0, .slice none 0 0, .slice none 0 0, .int .i64 0, .slice none 0 0] 31)) (w.heap.size + 1) 74 #[str [2, 7, 7, 7, 0, 1, 2, 3, 1, 9, 0]] := by
    have := (Blk.new (w.alloc (.cells #[.int .i64 0, .slice none 0 0, .slice none 0 0, .slice none 0 0, .slice none 0 0, .slice none 0 0, .int .i64 0, .slice none 0 0] 31)) 74 #[str [2, 7, 7, 7, 0, 1, 2, 3, 1, 9, 0]]).alloc (.cells #[.int .i64 0, .slice none 0 0, .slice none 0 0, .slice none 0 0, .slice none 0 0, .slice none 0 0, .int .i64 0, .slice none 0 0] 31)
    simpa using this
  have kx : Blk (((w.alloc (.cells #[.int .i64 0, .slice none 0 0, .slice none 0 0, .slice none 0 0, .slice none 0 0, .slice none 0 0, .int .i64 0, .slice none 0 0] 31)).alloc (.cells #[str [2, 7, 7, 7, 0, 1, 2, 3, 1, 9, 0]] 74)).alloc (.cells #[.int .i64 0, .slice none 0 0, .slice none 0 0, .slice none 0 0, .slice none 0 0, .slice none 0 0, .int .i64 0, .slice none 0 0] 31)) (w.heap.size + 1 + 1) 31 #[.int .i64 0, .slice none 0 0, .slice none 0 0, .slice none 0 0, .slice none 0 0, .slice none 0 0, .int .i64 0, .slice none 0 0] := by
    have := Blk.new ((w.alloc (.cells #[.int .i64 0, .slice none 0 0, .slice none 0 0, .slice none 0 0, .slice none 0 0, .slice none 0 0, .int .i64 0, .slice none 0 0] 31)).alloc (.cells #[str [2, 7, 7, 7, 0, 1, 2, 3, 1, 9, 0]] 74)) 31 #[.int .i64 0, .slice none 0 0, .slice none 0 0, .slice none 0 0, .slice none 0 0, .slice none 0 0, .int .i64 0, .slice none 0 0]
    simpa using this
  have bw : Below w.heap.size w (((w.alloc (.cells #[.int .i64 0, .slice none 0 0, .slice none 0 0, .slice none 0 0, .slice none 0 0, .slice none 0 0, .int .i64 0, .slice none 0 0] 31)).alloc (.cells #[str [2, 7, 7, 7, 0, 1, 2, 3, 1, 9, 0]] 74)).alloc (.cells #[.int .i64 0, .slice none 0 0, .slice none 0 0, .slice none 0 0, .slice none 0 0, .slice none 0 0, .int .i64 0, .slice none 0 0] 31)) := by go_grown
  refine (take_any _ [2, 7, 7, 7, 0, 1, 2, 3, 1, 9, 0] 4 _ (by decide) kt).mono ?_
  rintro e w1 ⟨rfl, kt1, hd1⟩
  rw [show (take 4 [2, 7, 7, 7, 0, 1, 2, 3, 1, 9, 0]).1 = 2 from rfl]
  have KT := Lib.hid (show Blk w1 (w.heap.size + 1) 74 #[str [7, 7, 7, 0, 1, 2, 3, 1, 9, 0]] from kt1)
  have KR := Lib.hid (kr.chg hd1 (by omega))
  have KX := Lib.hid (kx.chg hd1 (by omega))
  have BW := Lib.hid (Below.trans bw (hd1.to_below (B := w.heap.size) (by simp; omega) (by omega)))
  have hx := KX.out.cell 0
  have fx := KX.out.frozen
  clear kr kt kx bw kt1 hd1
  go_wp2_with fail
  have KT1 := Lib.hid (KT.out.far (p := ⟨w.heap.size + 1 + 1, 0, none⟩) (by simp) (.int .i64 3))
  have KR1 := Lib.hid (KR.out.far (p := ⟨w.heap.size + 1 + 1, 0, none⟩) (by simp; try omega) (.int .i64 3))
  have KX1 := Lib.hid (KX.out.set_ 0 (.int .i64 3))
  have BW1 := Lib.hid (Below.setCell BW.out (p := ⟨w.heap.size + 1 + 1, 0, none⟩) (by simp; try omega) (.int .i64 3))
  refine (crowds_any (w.heap.size + 1) [7, 7, 7, 0, 1, 2, 3, 1, 9, 0] 3 _ (by decide) KT1.out).mono ?_
  rintro e w2 ⟨rfl, kt, hd⟩
  rw [show (crowds 3 [7, 7, 7, 0, 1, 2, 3, 1, 9, 0]).1 = ⟨7, 7, 7⟩ from rfl]
  have KT2 := Lib.hid (show Blk w2 (w.heap.size + 1) 74 #[str [0, 1, 2, 3, 1, 9, 0]] from kt)
  have KR2 := Lib.hid (KR1.out.chg hd (by omega))
  have KX2 := Lib.hid (KX1.out.chg hd (by omega))
  have BW2 := Lib.hid (Below.trans BW1.out (hd.to_below (B := w.heap.size) BW1.out.size (by omega)))
  clear KT KR KX BW KT1 KR1 KX1 BW1 hx fx kt hd
  have hx := KX2.out.cell 2
  have fx := KX2.out.frozen
  have lx := KX2.out.lt
  go_wp2_with fail
  have KT3 := Lib.hid ((KT2.out.far (p := ⟨w.heap.size + 1 + 1, 2, none⟩) (by simp; try omega) (.slice (some ⟨w2.heap.size, 0, none⟩) 1 1)).alloc (.cells #[.int .i64 1, .int .i64 1, .int .i64 1024, .int .i64 1024, .int .u64 7, .int .u64 7, .int .u64 7] 79))
  have KR3 := Lib.hid ((KR2.out.far (p := ⟨w.heap.size + 1 + 1, 2, none⟩) (by simp; try omega) (.slice (some ⟨w2.heap.size, 0, none⟩) 1 1)).alloc (.cells #[.int .i64 1, .int .i64 1, .int .i64 1024, .int .i64 1024, .int .u64 7, .int .u64 7, .int .u64 7] 79))
  have KX3 := Lib.hid ((KX2.out.set_ 2 (.slice (some ⟨w2.heap.size, 0, none⟩) 1 1)).alloc (.cells #[.int .i64 1, .int .i64 1, .int .i64 1024, .int .i64 1024, .int .u64 7, .int .u64 7, .int .u64 7] 79))
  have KL3 := Lib.hid (show Blk ((w2.setCell ⟨w.heap.size + 1 + 1, 2, none⟩ (.slice (some ⟨w2.heap.size, 0, none⟩) 1 1)).alloc (.cells #[.int .i64 1, .int .i64 1, .int .i64 1024, .int .i64 1024, .int .u64 7, .int .u64 7, .int .u64 7] 79)) w2.heap.size 79 #[.int .i64 1, .int .i64 1, .int .i64 1024, .int .i64 1024, .int .u64 7, .int .u64 7, .int .u64 7] by have := Blk.new (w2.setCell ⟨w.heap.size + 1 + 1, 2, none⟩ (.slice (some ⟨w2.heap.size, 0, none⟩) 1 1)) 79 #[.int .i64 1, .int .i64 1, .int .i64 1024, .int .i64 1024, .int .u64 7, .int .u64 7, .int .u64 7]; simpa using this)
  have BW3 := Lib.hid (Below.alloc (Below.setCell BW2.out (p := ⟨w.heap.size + 1 + 1, 2, none⟩) (by simp; try omega) (.slice (some ⟨w2.heap.size, 0, none⟩) 1 1)) (by have := BW2.out.size; simp; omega) (.cells #[.int .i64 1, .int .i64 1, .int .i64 1024, .int .i64 1024, .int .u64 7, .int .u64 7, .int .u64 7] 79))
  refine (take_any _ [0, 1, 2, 3, 1, 9, 0] 3 _ (by decide) KT3.out).mono ?_
  rintro e w3 ⟨rfl, kt, hd⟩
  rw [show (take 3 [0, 1, 2, 3, 1, 9, 0]).1 = 0 from rfl]
  have KT := Lib.hid (show Blk w3 (w.heap.size + 1) 74 #[str [1, 2, 3, 1, 9, 0]] from kt)
  have KR := Lib.hid (KR3.out.chg hd (by omega))
  have KX := Lib.hid (KX3.out.chg hd (by omega))
  have KL := Lib.hid (KL3.out.chg hd (by omega))
  have BW := Lib.hid (Below.trans BW3.out (hd.to_below (B := w.heap.size) BW3.out.size (by omega)))
  have hL : w.heap.size + 1 + 1 < w2.heap.size := lx
  clear KT2 KR2 KX2 BW2 KT3 KR3 KX3 KL3 BW3 hx fx lx kt hd
  go_wp2
  refine wp_loop_rounds 1 ?_
  rw [rounds_succ]
  go_wp2_with fail
  refine (take_any _ [1, 2, 3, 1, 9, 0] 8 _ (by decide) KT.out).mono ?_
  rintro e w4 ⟨rfl, kt, hd⟩
  rw [show (take 8 [1, 2, 3, 1, 9, 0]).1 = 1 from rfl]
  have KT4 := Lib.hid (show Blk w4 (w.heap.size + 1) 74 #[str [2, 3, 1, 9, 0]] from kt)
  have KR4 := Lib.hid (KR.out.chg hd (by omega))
  have KX4 := Lib.hid (KX.out.chg hd (by omega))
  have KL4 := Lib.hid (KL.out.chg hd (by omega))
  have BW4 := Lib.hid (Below.trans BW.out (hd.to_below (B := w.heap.size) BW.out.size (by omega)))
  clear KT KR KX KL BW kt hd
  go_wp2
  refine wp_loop_rounds 2 ?_
  rw [rounds_succ]
  go_wp2_with fail
  refine (spot_any _ [2, 3, 1, 9, 0] _ KT4.out).mono ?_
  rintro e w5 ⟨rfl, kt, hd⟩
  rw [show (spot [2, 3, 1, 9, 0]).1 = ⟨3, 4⟩ from rfl]
  have KT5 := Lib.hid (show Blk w5 (w.heap.size + 1) 74 #[str [1, 9, 0]] from kt)
  have KR5 := Lib.hid (KR4.out.chg hd (by omega))
  have KX5 := Lib.hid (KX4.out.chg hd (by omega))
  have KL5 := Lib.hid (KL4.out.chg hd (by omega))
  have BW5 := Lib.hid (Below.trans BW4.out (hd.to_below (B := w.heap.size) BW4.out.size (by omega)))
  clear KT4 KR4 KX4 KL4 BW4 kt hd
  have hx := KX5.out.cell 1
  have fx := KX5.out.frozen
  have lx := KX5.out.lt
  go_wp2_with fail
  have kA := Lib.hid (KT5.out.alloc (.cells #[.int .i64 3, .int .i64 4] 56))
  have kB := Lib.hid (Blk.new w5 56 #[.int .i64 3, .int .i64 4])
  have lw := KT5.out.lt
  go_region_with (first
    | (go_at_call 40; refine (content_1 _ [1, 9, 0] _ rfl (by first | exact kA.out | exact kA.out.drew | exact (kA.out.drewN _))).mono ?_; rintro e w6 ⟨rfl, kt, hd⟩; have hz6 := hd.size; simp at hz6; have f6 : w6.frozen? ⟨w.heap.size + 1 + 1, 1, none⟩ = false := (hd.frozen (p := ⟨w.heap.size + 1 + 1, 1, none⟩) (by simp; omega) (by simp)).trans (by go_simp; try exact fx 1); have x6 : w6.cell? ⟨w.heap.size + 1 + 1, 1, none⟩ = some (.slice none 0 0) := (hd.cell (p := ⟨w.heap.size + 1 + 1, 1, none⟩) (by simp; omega) (by simp)).trans (by go_simp; try exact hx); have a6 : w6.cell? ⟨w5.heap.size, 0, none⟩ = some (.int .i64 3) := (hd.cell (p := ⟨w5.heap.size, 0, none⟩) (by simp) (by simp; omega)).trans (by go_simp); have a7 : w6.cell? ⟨w5.heap.size, 1, none⟩ = some (.int .i64 4) := (hd.cell (p := ⟨w5.heap.size, 1, none⟩) (by simp) (by simp; omega)).trans (by go_simp))
    | (go_at_call 39; refine (put_nil ⟨⟨3, 4⟩, [57]⟩ _ (by simp)).mono ?_; rintro e w7 ⟨v7, rfl, hs7, hb7⟩; obtain ⟨A7, cap7, rfl, _⟩ := id hs7.1; have x7 := (hb7.cell (p := ⟨w.heap.size + 1 + 1, 1, none⟩) (by (try simp); omega)).trans x6; have f7 := (hb7.frozen (p := ⟨w.heap.size + 1 + 1, 1, none⟩) (by (try simp); omega)).trans f6))
  all_goals
    have kt7 : Blk w7 (w.heap.size + 1) 74 #[str [0]] := Blk.below_ (show Blk w6 (w.heap.size + 1) 74 #[str [0]] from kt) hb7
    have kr7 := Blk.below_ (Blk.chg (S := fun k => k = w.heap.size + 1) ((KR5.out.alloc (.cells #[.int .i64 3, .int .i64 4] 56)).drew) hd (by simp)) hb7
    have kx7 := Blk.below_ (Blk.chg (S := fun k => k = w.heap.size + 1) ((KX5.out.alloc (.cells #[.int .i64 3, .int .i64 4] 56)).drew) hd (by simp)) hb7
    have kl7 := Blk.below_ (Blk.chg (S := fun k => k = w.heap.size + 1) ((KL5.out.alloc (.cells #[.int .i64 3, .int .i64 4] 56)).drew) hd (by show ¬ (_ = _); omega)) hb7
    have bw7 := Below.trans (Below.trans (Below.drewN_ (Below.alloc BW5.out BW5.out.size (.cells #[.int .i64 3, .int .i64 4] 56)) 1) (hd.to_below (B := w.heap.size) (by have := BW5.out.size; simp; omega) (by omega))) (hb7.mono (by have := BW5.out.size; omega))
    have hn7 : ∀ q, (Value.slice A7 1 cap7).ownBlock = some q → w6.heap.size ≤ q := hs7.2
    have KT8 := Lib.hid (kt7.far (p := ⟨w.heap.size + 1 + 1, 1, none⟩) (by simp) (.slice A7 1 cap7))
    have KR8 := Lib.hid (kr7.far (p := ⟨w.heap.size + 1 + 1, 1, none⟩) (by simp; try omega) (.slice A7 1 cap7))
    have KX8 := Lib.hid (kx7.set_ 1 (.slice A7 1 cap7))
    have KL8 := Lib.hid (kl7.far (p := ⟨w.heap.size + 1 + 1, 1, none⟩) (by simp; try omega) (.slice A7 1 cap7))
    have BW8 := Lib.hid (Below.setCell bw7 (p := ⟨w.heap.size + 1 + 1, 1, none⟩) (by simp; try omega) (.slice A7 1 cap7))
    have HS8 := Lib.hid (SlsN.set hs7 (p := ⟨w.heap.size + 1 + 1, 1, none⟩) (by simp; omega) (.slice A7 1 cap7))
    clear kt7 kr7 kx7 kl7 bw7 hn7 kt hd x6 f6 a6 a7 x7 f7 hb7 hs7 KT5 KR5 KX5 KL5 BW5 kA kB hx fx
    go_wp2
    rw [rounds_succ]
    go_wp2_with fail
    refine (take_any _ [0] 3 _ (by decide) KT8.out).mono ?_
    rintro e w9 ⟨rfl, kt, hd⟩
    rw [show (take 3 [0]).1 = 0 from rfl]
    have KR := Lib.hid (KR8.out.chg hd (by simp))
    have kt9 : w9.cell? ⟨w.heap.size + 1, 0, none⟩ = some (str []) := kt.cell 0
    have KX := Lib.hid (KX8.out.chg hd (by simp))
    have KL := Lib.hid (KL8.out.chg hd (by show ¬ (_ = _); omega))
    have BW := Lib.hid (Below.trans BW8.out (hd.to_below (B := w.heap.size) BW8.out.size (by omega)))
    have x0 : w9.cell? ⟨w.heap.size + 1 + 1, 0, none⟩ = some (.int .i64 3) := KX.out.cell 0
    have x1 : w9.cell? ⟨w.heap.size + 1 + 1, 1, none⟩ = some (.slice A7 1 cap7) := KX.out.cell 1
    have x2 : w9.cell? ⟨w.heap.size + 1 + 1, 2, none⟩ = some (.slice (some ⟨w2.heap.size, 0, none⟩) 1 1) := KX.out.cell 2
    have x3 : w9.cell? ⟨w.heap.size + 1 + 1, 3, none⟩ = some (.slice none 0 0) := KX.out.cell 3
    have x4 : w9.cell? ⟨w.heap.size + 1 + 1, 4, none⟩ = some (.slice none 0 0) := KX.out.cell 4
    have x5 : w9.cell? ⟨w.heap.size + 1 + 1, 5, none⟩ = some (.slice none 0 0) := KX.out.cell 5
    have x6 : w9.cell? ⟨w.heap.size + 1 + 1, 6, none⟩ = some (.int .i64 0) := KX.out.cell 6
    have x7 : w9.cell? ⟨w.heap.size + 1 + 1, 7, none⟩ = some (.slice none 0 0) := KX.out.cell 7
    have r0 : w9.cell? ⟨w.heap.size, 0, none⟩ = some (.int .i64 0) := KR.out.cell 0
    have r1 : w9.cell? ⟨w.heap.size, 1, none⟩ = some (.slice none 0 0) := KR.out.cell 1
    have r2 : w9.cell? ⟨w.heap.size, 2, none⟩ = some (.slice none 0 0) := KR.out.cell 2
    have r3 : w9.cell? ⟨w.heap.size, 3, none⟩ = some (.slice none 0 0) := KR.out.cell 3
    have r4 : w9.cell? ⟨w.heap.size, 4, none⟩ = some (.slice none 0 0) := KR.out.cell 4
    have r5 : w9.cell? ⟨w.heap.size, 5, none⟩ = some (.slice none 0 0) := KR.out.cell 5
    have r6 : w9.cell? ⟨w.heap.size, 6, none⟩ = some (.int .i64 0) := KR.out.cell 6
    have r7 : w9.cell? ⟨w.heap.size, 7, none⟩ = some (.slice none 0 0) := KR.out.cell 7
    have fr := KR.out.frozen
    have kt0 : w9.cell? ⟨w.heap.size + 1, 0, none⟩ = some (str []) := kt9
    clear KT8 KR8 KX8 KL8 BW8 kt
    have HS := Lib.hid (SlsN.chg HS8.out hd (by intro k hk e; subst e; omega))
    clear HS8 hd
    go_wp2
    refine wp_loop_rounds 1 ?_
    rw [rounds_succ]
    go_wp2
    refine wp_loop_rounds 1 ?_
    rw [rounds_succ]
    go_wp2
    refine bodyPost_ret (v := vScp knownS (.slice A7 1 cap7) (.slice (some ⟨w2.heap.size, 0, none⟩) 1 1) (.slice none 0 0) (.slice none 0 0) (.slice none 0 0) (.slice none 0 0)) (by simp (maxDischargeDepth := 9) [results, Tryz.results17, go_sem, knownS, r0, r1, r2, r3, r4, r5, r6, r7]) rfl ?_
    refine ⟨_, _, _, _, _, _, rfl, ⟨⟨?_, Sls.one (t := 79) (cs := #[.int .i64 1, .int .i64 1, .int .i64 1024, .int .i64 1024, .int .u64 7, .int .u64 7, .int .u64 7]) ?_ rfl, Sls.nil _ _ _ _ _, Sls.nil _ _ _ _ _, Sls.nil _ _ _ _ _⟩, Sls.nil _ _ _ _ _⟩, ?_⟩
    · have hS : SlsN cEnt w6.heap.size _ _ _ := HS.out
      refine (?_ : SlsN cEnt w6.heap.size _ _ _).1
      iterate 8 refine SlsN.set ?_ (by simp; omega) _
      exact hS
    · iterate 8 refine Blk.far ?_ (by simp; omega) _
      exact KL.out
    · iterate 8 refine Below.setCell ?_ (by simp) _
      exact BW.out
theorem nI0G : numI 0 = [0] := by simp [numI, numB, beB]
theorem nI1G : numI 1 = [1, 1] := by simp [numI, numB, beB]
theorem nI3G : numI 3 = [1, 3] := by simp [numI, numB, beB]
theorem nI4G : numI 4 = [1, 4] := by simp [numI, numB, beB]
theorem nI7G : numI 7 = [1, 7] := by simp [numI, numB, beB]
theorem nI1024G : numI 1024 = [2, 4, 0] := by simp [numI, numB, beB]
theorem known_len0G : (scpB knownS).length = 34 := by simp [scpB, knownS, listB, entB, rulB, placeB, textB, cornB, setsB, nI0G, nI1G, nI3G, nI4G, nI7G, nI1024G]
theorem known_lenG : 20 < (scpB knownS).length ∧ (scpB knownS).length ≤ 65536 := by rw [known_len0G]; exact ⟨by decide, by decide⟩
theorem known_scp : scpE knownS = 0 := by decide +kernel
theorem known_enc : encR knownS = (scpB knownS, 0) := by
  unfold encR
  rw [known_scp, if_neg (by decide), if_neg (by have := known_lenG.2; omega)]
theorem known_fit : FitS knownS where
  ok :=
    { book :=
        { users := by constructor <;> decide
          entries := fun x hx => by
            simp [knownS] at hx
            subst hx
            exact ⟨⟨by constructor <;> decide, by constructor <;> decide⟩, by unfold OkStr; simp⟩
          rules := fun x hx => by
            simp [knownS] at hx
            subst hx
            exact ⟨⟨by constructor <;> decide, by constructor <;> decide, by constructor <;> decide, by constructor <;> decide⟩, ⟨by constructor <;> decide, by constructor <;> decide, by constructor <;> decide⟩⟩
          grants := fun x hx => by simp [knownS] at hx
          log := fun x hx => by simp [knownS] at hx
          releases := fun x hx => by simp [knownS] at hx
          step := by constructor <;> decide
          lens := by simp [knownS] }
      ops := fun x hx => by simp [knownS] at hx
      len := by simp [knownS] }
  ents := fun x hx => by
    simp [knownS] at hx
    subst hx
    simp
  oprs := fun x hx => by simp [knownS] at hx
  size := by have := known_lenG.2; omega
theorem eql_entG (x y : Ent) (w : World) : (binOp .eql 58 (.agg (cEnt x).toArray) (.agg (cEnt y).toArray)).run Tryz.prog w = .ok (.bool (decide (x = y))) w := by
  obtain ⟨⟨a, b⟩, s⟩ := x
  obtain ⟨⟨a', b'⟩, s'⟩ := y
  simp [go_sem, cEnt]
  by_cases q0 : a = a'
  · by_cases q1 : b = b'
    · by_cases q2 : s = s'
      · simp [q0, q1, q2]
      · simp [q0, q1, q2]
    · simp [q0, q1]
  · simp [q0]
theorem known_convG (w : World) : (convert 59 9 (.slice (some ⟨w.heap.size, 0, none⟩) 11 11)).run Tryz.prog (w.alloc (.cells #[.int .u8 2, .int .u8 7, .int .u8 7, .int .u8 7, .int .u8 0, .int .u8 1, .int .u8 2, .int .u8 3, .int .u8 1, .int .u8 9, .int .u8 0] 5)) = .ok (str [2, 7, 7, 7, 0, 1, 2, 3, 1, 9, 0]) (w.alloc (.cells #[.int .u8 2, .int .u8 7, .int .u8 7, .int .u8 7, .int .u8 0, .int .u8 1, .int .u8 2, .int .u8 3, .int .u8 1, .int .u8 9, .int .u8 0] 5)) := by
  have hb : Blk (w.alloc (.cells #[.int .u8 2, .int .u8 7, .int .u8 7, .int .u8 7, .int .u8 0, .int .u8 1, .int .u8 2, .int .u8 3, .int .u8 1, .int .u8 9, .int .u8 0] 5)) w.heap.size 5 #[.int .u8 2, .int .u8 7, .int .u8 7, .int .u8 7, .int .u8 0, .int .u8 1, .int .u8 2, .int .u8 3, .int .u8 1, .int .u8 9, .int .u8 0] := Blk.new w _ _
  refine run_convert_bytes_back (P := Tryz.prog) _ 59 9 5 ⟨w.heap.size, 0, none⟩ 11 [2, 7, 7, 7, 0, 1, 2, 3, 1, 9, 0] Tryz.underlying59 Tryz.underlying5 Tryz.underlying9 (fun j hj => ?_)
  rw [addr_add0, hb.cell j]
  match j, hj with
  | 0, _ => rfl
  | 1, _ => rfl
  | 2, _ => rfl
  | 3, _ => rfl
  | 4, _ => rfl
  | 5, _ => rfl
  | 6, _ => rfl
  | 7, _ => rfl
  | 8, _ => rfl
  | 9, _ => rfl
  | 10, _ => rfl
  | j + 11, h => simp at h; omega
theorem known_gen (w : World) (hw : Words w) :
    Calls Tryz.prog 10 #[] w fun u w' => u = .returned (.bool true) ∧ Below w.heap.size w w' := by
  have HW := Lib.hid hw
  clear hw
  have kc := known_convG
  have kl : (20 : Int) < ((scpB knownS).length : Int) := by have := known_lenG.1; omega
  have KE := Lib.hid (eql_entG ⟨⟨3, 4⟩, [57]⟩ ⟨⟨3, 4⟩, [57]⟩)
  go_enter Tryz.func10, Tryz.ntmps10
  go_wp2_with fail
  refine (known_read _).mono ?_
  rintro u w1 ⟨ve, vr, vg, vl, vx, vo, rfl, hb, hb1⟩
  obtain ⟨Ae, ce, rfl, _⟩ := id hb.book.ents
  obtain ⟨Ar, cr, rfl, _⟩ := id hb.book.ruls
  obtain ⟨Ag, cg, rfl, _⟩ := id hb.book.grts
  obtain ⟨Al, cl, rfl, _⟩ := id hb.book.evts
  obtain ⟨Ax, cx, rfl, _⟩ := id hb.book.rlss
  obtain ⟨Ao, co, rfl, _⟩ := id hb.ops
  have HB := Lib.hid hb
  have HB1 := Lib.hid (show Below w.heap.size w w1 from Below.next (by go_grown) hb1 (by simp))
  obtain ⟨be, oe, rfl, hbe, re⟩ := hb.book.ents.get 3 cEnt_len (i := 0) rfl
  have hwb : Words w1 := (HW.out.below (by go_grown)).below hb1
  have KS := Lib.hid (Blk.new w1 31 #[.int .i64 knownS.book.users, .slice (some ⟨be, oe, none⟩) knownS.book.entries.length ce, .slice Ar knownS.book.rules.length cr, .slice Ag knownS.book.grants.length cg, .slice Al knownS.book.log.length cl, .slice Ax knownS.book.releases.length cx, .int .i64 knownS.book.step, .slice Ao knownS.ops.length co])
  have RE := Lib.hid re
  have HWB := Lib.hid hwb
  have HBE := Lib.hid hbe
  clear hb hb1 kc re hwb hbe
  go_wp2_with fail
  refine (encode_any knownS _ _ _ _ _ _ w1.heap.size _ (by simp) (HB.out.below (by go_grown)) (HWB.out.below (by go_grown)) known_fit).mono ?_
  rintro u w2 ⟨rfl, hb2⟩
  rw [known_enc]
  have KS2 := Lib.hid (KS.out.below_ hb2)
  have hb3 : Below w1.heap.size w1 w2 := Below.next_ (by go_grown) hb2
  have HB2 := Lib.hid (Below.trans HB1.out (hb3.mono HB1.out.size))
  have e0 : w2.cell? ⟨be, oe, none⟩ = some (.int .i64 3) := (hb3.cell (p := ⟨be, oe, none⟩) HBE.out).trans (by have := RE.out 0 _ rfl; simpa using this)
  have e1 : w2.cell? ⟨be, oe + 1, none⟩ = some (.int .i64 4) := (hb3.cell (p := ⟨be, oe + 1, none⟩) HBE.out).trans (by have := RE.out 1 _ rfl; simpa using this)
  have e2 : w2.cell? ⟨be, oe + 2, none⟩ = some (str [57]) := (hb3.cell (p := ⟨be, oe + 2, none⟩) HBE.out).trans (by have := RE.out 2 _ rfl; simpa using this)
  have ku : knownS.book.users = 3 := rfl
  have kn : (knownS.book.entries.length : Int) = 1 := rfl
  have kn2 : knownS.book.entries.length = 1 := rfl
  have s0 := KS2.out.cell 0
  have s1 := KS2.out.cell 1
  clear hb2 hb3 KS HB1 HWB HB
  go_wp2_with fail
  go_ret
  exact ⟨rfl, HB2.out⟩
end Go.Proofs.YtamcgggmfghljaaGreatDoor
