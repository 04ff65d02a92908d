/- Layer 11 (program): what "9" means. -/
import Derived.Test.YtamcgggmfghljaaGreatDoorR32
namespace Go.Proofs.YtamcgggmfghljaaGreatDoor
open Go.RowKit

set_option maxRecDepth 100000 in
set_option maxHeartbeats 4000000 in
theorem constant_9 (w : World) (hw : Words w) :
    Calls Tryz.prog 196 #[str [57]] w fun u w' => ∃ k n : Int, ∃ s : Bytes, u = .returned (vVal k n s) ∧ Below w.heap.size w w' := by
  have hmf : ∀ (fn : Fn) (first cap : Array Value) (w : World), (Instr.makeFunc fn first cap).run Tryz.prog w = .ok (.func fn first cap) w := fun _ _ _ _ => rfl
  go_enter Tryz.func196, Tryz.ntmps196
  go_wp2
  go_step3
  go_wp2
  go_step3
  go_wp2
  have kA : Blk (((w.alloc (.cells #[str [57]] 9)).alloc (.cells #[.int .u8 0, .int .i64 0, str []] 189)).alloc (.cells #[.func (.func 212) #[] #[.pointer (some ⟨w.heap.size, 0, none⟩)], .func (.func 213) #[] #[.pointer (some ⟨w.heap.size, 0, none⟩)], .func (.func 214) #[] #[.pointer (some ⟨w.heap.size, 0, none⟩)], .func (.func 216) #[] #[.pointer (some ⟨w.heap.size, 0, none⟩)], .func (.func 219) #[] #[.pointer (some ⟨w.heap.size, 0, none⟩)]] 223)) w.heap.size 9 #[str [57]] := ((Blk.new w _ _).alloc _).alloc _
  have kB : Blk (((w.alloc (.cells #[str [57]] 9)).alloc (.cells #[.int .u8 0, .int .i64 0, str []] 189)).alloc (.cells #[.func (.func 212) #[] #[.pointer (some ⟨w.heap.size, 0, none⟩)], .func (.func 213) #[] #[.pointer (some ⟨w.heap.size, 0, none⟩)], .func (.func 214) #[] #[.pointer (some ⟨w.heap.size, 0, none⟩)], .func (.func 216) #[] #[.pointer (some ⟨w.heap.size, 0, none⟩)], .func (.func 219) #[] #[.pointer (some ⟨w.heap.size, 0, none⟩)]] 223)) (w.heap.size + 1) 189 #[.int .u8 0, .int .i64 0, str []] := by
    have := (Blk.new (w.alloc (.cells #[str [57]] 9)) 189 #[.int .u8 0, .int .i64 0, str []]).alloc (.cells #[.func (.func 212) #[] #[.pointer (some ⟨w.heap.size, 0, none⟩)], .func (.func 213) #[] #[.pointer (some ⟨w.heap.size, 0, none⟩)], .func (.func 214) #[] #[.pointer (some ⟨w.heap.size, 0, none⟩)], .func (.func 216) #[] #[.pointer (some ⟨w.heap.size, 0, none⟩)], .func (.func 219) #[] #[.pointer (some ⟨w.heap.size, 0, none⟩)]] 223)
    simpa using this
  have kC : Blk (((w.alloc (.cells #[str [57]] 9)).alloc (.cells #[.int .u8 0, .int .i64 0, str []] 189)).alloc (.cells #[.func (.func 212) #[] #[.pointer (some ⟨w.heap.size, 0, none⟩)], .func (.func 213) #[] #[.pointer (some ⟨w.heap.size, 0, none⟩)], .func (.func 214) #[] #[.pointer (some ⟨w.heap.size, 0, none⟩)], .func (.func 216) #[] #[.pointer (some ⟨w.heap.size, 0, none⟩)], .func (.func 219) #[] #[.pointer (some ⟨w.heap.size, 0, none⟩)]] 223)) (w.heap.size + 1 + 1) 223 #[.func (.func 212) #[] #[.pointer (some ⟨w.heap.size, 0, none⟩)], .func (.func 213) #[] #[.pointer (some ⟨w.heap.size, 0, none⟩)], .func (.func 214) #[] #[.pointer (some ⟨w.heap.size, 0, none⟩)], .func (.func 216) #[] #[.pointer (some ⟨w.heap.size, 0, none⟩)], .func (.func 219) #[] #[.pointer (some ⟨w.heap.size, 0, none⟩)]] := by
    have := Blk.new ((w.alloc (.cells #[str [57]] 9)).alloc (.cells #[.int .u8 0, .int .i64 0, str []] 189)) 223 #[.func (.func 212) #[] #[.pointer (some ⟨w.heap.size, 0, none⟩)], .func (.func 213) #[] #[.pointer (some ⟨w.heap.size, 0, none⟩)], .func (.func 214) #[] #[.pointer (some ⟨w.heap.size, 0, none⟩)], .func (.func 216) #[] #[.pointer (some ⟨w.heap.size, 0, none⟩)], .func (.func 219) #[] #[.pointer (some ⟨w.heap.size, 0, none⟩)]]
    simpa using this
  have bb : Below w.heap.size w (((w.alloc (.cells #[str [57]] 9)).alloc (.cells #[.int .u8 0, .int .i64 0, str []] 189)).alloc (.cells #[.func (.func 212) #[] #[.pointer (some ⟨w.heap.size, 0, none⟩)], .func (.func 213) #[] #[.pointer (some ⟨w.heap.size, 0, none⟩)], .func (.func 214) #[] #[.pointer (some ⟨w.heap.size, 0, none⟩)], .func (.func 216) #[] #[.pointer (some ⟨w.heap.size, 0, none⟩)], .func (.func 219) #[] #[.pointer (some ⟨w.heap.size, 0, none⟩)]] 223)) := by go_grown
  have KA := Lib.hid kA
  have KB := Lib.hid kB
  have KC := Lib.hid kC
  have BB := Lib.hid bb
  have HW := Lib.hid hw
  clear kA kB kC bb hw
  go_loopw [4, 15] (fun q i wr => ∃ (k : Int) (a b : Int) (c : Bytes), 0 ≤ k ∧ k ≤ 5 ∧ q = .bool false ∧ i = .int .i64 k ∧ Blk wr w.heap.size 9 #[str [57]] ∧ Blk wr (w.heap.size + 1) 189 #[.int .u8 a, .int .i64 b, str c] ∧ Blk wr (w.heap.size + 1 + 1) 223 #[.func (.func 212) #[] #[.pointer (some ⟨w.heap.size, 0, none⟩)], .func (.func 213) #[] #[.pointer (some ⟨w.heap.size, 0, none⟩)], .func (.func 214) #[] #[.pointer (some ⟨w.heap.size, 0, none⟩)], .func (.func 216) #[] #[.pointer (some ⟨w.heap.size, 0, none⟩)], .func (.func 219) #[] #[.pointer (some ⟨w.heap.size, 0, none⟩)]] ∧ Below w.heap.size w wr) (fun _ i _ => 5 - (intOf i).toNat)
  case atStart => exact ⟨0, 0, 0, [], by omega, by omega, rfl, rfl, KA.out, KB.out, KC.out, BB.out⟩
  case round =>
    obtain ⟨k, a, b, c, k0, k5, rfl, rfl, ka, kb, kc, hb⟩ := hrel
    clear KA KB KC BB
    have KA := Lib.hid ka
    have KB := Lib.hid kb
    have KC := Lib.hid kc
    have HB := Lib.hid hb
    have f0 := kc.cell 0
    have f1 := kc.cell 1
    have f2 := kc.cell 2
    have f3 := kc.cell 3
    have f4 := kc.cell 4
    have ca := ka.cell 0
    have la := ka.lt
    have lb := kb.lt
    clear ka kb kc hb
    have e : k = 0 ∨ k = 1 ∨ k = 2 ∨ k = 3 ∨ k = 4 ∨ k = 5 := by omega
    rcases e with rfl | rfl | rfl | rfl | rfl | rfl
    · go_wp2_with fail
      refine (try_1 _ _ ca la (HW.out.below (HB.out.mono (Nat.le_refl _)))).mono ?_
      rintro e w1 ⟨k, n, s, q, rfl, hb1⟩
      have KA1 := Lib.hid (KA.out.below_ hb1)
      have KB1 := Lib.hid (KB.out.below_ hb1)
      have KC1 := Lib.hid (KC.out.below_ hb1)
      have HB1 := Lib.hid (Below.trans HB.out (hb1.mono HB.out.size))
      have g0 := KB1.out.cell 0
      have g1 := KB1.out.cell 1
      have g2 := KB1.out.cell 2
      have fr := KB1.out.frozen
      have lb1 := KB1.out.lt
      clear hb1 f0 f1 f2 f3 f4 ca la lb
      cases q
      · go_wp2
        exact ⟨⟨1, k, n, s, by omega, by omega, rfl, rfl, (((KA1.out.far (p := ⟨w.heap.size + 1, 0, none⟩) (by simp; try omega) _).far (p := ⟨w.heap.size + 1, 1, none⟩) (by simp; try omega) _).far (p := ⟨w.heap.size + 1, 2, none⟩) (by simp; try omega) _), ((KB1.out.set_ 0 (.int .u8 k)).set_ 1 (.int .i64 n)).set_ 2 (str s), (((KC1.out.far (p := ⟨w.heap.size + 1, 0, none⟩) (by simp; try omega) _).far (p := ⟨w.heap.size + 1, 1, none⟩) (by simp; try omega) _).far (p := ⟨w.heap.size + 1, 2, none⟩) (by simp; try omega) _), Below.setCell (Below.setCell (Below.setCell HB1.out (by simp) _) (by simp) _) (by simp) _⟩, by simp [intOf]⟩
      · go_wp2
        rw [Exit.noGoto_ret]
        refine bodyPost_ret (v := .agg #[.int .u8 k, .int .i64 n, str s]) (by simp (maxDischargeDepth := 9) [results, Tryz.results196, go_sem, g0, g1, g2]) rfl ?_
        exact ⟨k, n, s, rfl, (Below.setCell (Below.setCell (Below.setCell (Below.setCell (Below.setCell (Below.setCell HB1.out (by simp) _) (by simp) _) (by simp) _) (by simp) _) (by simp) _) (by simp) _)⟩
    · go_wp2_with fail
      refine (try_2 _ _ ca la (HW.out.below (HB.out.mono (Nat.le_refl _)))).mono ?_
      rintro e w1 ⟨k, n, s, q, rfl, hb1⟩
      have KA1 := Lib.hid (KA.out.below_ hb1)
      have KB1 := Lib.hid (KB.out.below_ hb1)
      have KC1 := Lib.hid (KC.out.below_ hb1)
      have HB1 := Lib.hid (Below.trans HB.out (hb1.mono HB.out.size))
      have g0 := KB1.out.cell 0
      have g1 := KB1.out.cell 1
      have g2 := KB1.out.cell 2
      have fr := KB1.out.frozen
      have lb1 := KB1.out.lt
      clear hb1 f0 f1 f2 f3 f4 ca la lb
      cases q
      · go_wp2
        exact ⟨⟨2, k, n, s, by omega, by omega, rfl, rfl, (((KA1.out.far (p := ⟨w.heap.size + 1, 0, none⟩) (by simp; try omega) _).far (p := ⟨w.heap.size + 1, 1, none⟩) (by simp; try omega) _).far (p := ⟨w.heap.size + 1, 2, none⟩) (by simp; try omega) _), ((KB1.out.set_ 0 (.int .u8 k)).set_ 1 (.int .i64 n)).set_ 2 (str s), (((KC1.out.far (p := ⟨w.heap.size + 1, 0, none⟩) (by simp; try omega) _).far (p := ⟨w.heap.size + 1, 1, none⟩) (by simp; try omega) _).far (p := ⟨w.heap.size + 1, 2, none⟩) (by simp; try omega) _), Below.setCell (Below.setCell (Below.setCell HB1.out (by simp) _) (by simp) _) (by simp) _⟩, by simp [intOf]⟩
      · go_wp2
        rw [Exit.noGoto_ret]
        refine bodyPost_ret (v := .agg #[.int .u8 k, .int .i64 n, str s]) (by simp (maxDischargeDepth := 9) [results, Tryz.results196, go_sem, g0, g1, g2]) rfl ?_
        exact ⟨k, n, s, rfl, (Below.setCell (Below.setCell (Below.setCell (Below.setCell (Below.setCell (Below.setCell HB1.out (by simp) _) (by simp) _) (by simp) _) (by simp) _) (by simp) _) (by simp) _)⟩
    · go_wp2_with fail
      refine (try_3 _ _ ca la (HW.out.below (HB.out.mono (Nat.le_refl _)))).mono ?_
      rintro e w1 ⟨k, n, s, q, rfl, hb1⟩
      have KA1 := Lib.hid (KA.out.below_ hb1)
      have KB1 := Lib.hid (KB.out.below_ hb1)
      have KC1 := Lib.hid (KC.out.below_ hb1)
      have HB1 := Lib.hid (Below.trans HB.out (hb1.mono HB.out.size))
      have g0 := KB1.out.cell 0
      have g1 := KB1.out.cell 1
      have g2 := KB1.out.cell 2
      have fr := KB1.out.frozen
      have lb1 := KB1.out.lt
      clear hb1 f0 f1 f2 f3 f4 ca la lb
      cases q
      · go_wp2
        exact ⟨⟨3, k, n, s, by omega, by omega, rfl, rfl, (((KA1.out.far (p := ⟨w.heap.size + 1, 0, none⟩) (by simp; try omega) _).far (p := ⟨w.heap.size + 1, 1, none⟩) (by simp; try omega) _).far (p := ⟨w.heap.size + 1, 2, none⟩) (by simp; try omega) _), ((KB1.out.set_ 0 (.int .u8 k)).set_ 1 (.int .i64 n)).set_ 2 (str s), (((KC1.out.far (p := ⟨w.heap.size + 1, 0, none⟩) (by simp; try omega) _).far (p := ⟨w.heap.size + 1, 1, none⟩) (by simp; try omega) _).far (p := ⟨w.heap.size + 1, 2, none⟩) (by simp; try omega) _), Below.setCell (Below.setCell (Below.setCell HB1.out (by simp) _) (by simp) _) (by simp) _⟩, by simp [intOf]⟩
      · go_wp2
        rw [Exit.noGoto_ret]
        refine bodyPost_ret (v := .agg #[.int .u8 k, .int .i64 n, str s]) (by simp (maxDischargeDepth := 9) [results, Tryz.results196, go_sem, g0, g1, g2]) rfl ?_
        exact ⟨k, n, s, rfl, (Below.setCell (Below.setCell (Below.setCell (Below.setCell (Below.setCell (Below.setCell HB1.out (by simp) _) (by simp) _) (by simp) _) (by simp) _) (by simp) _) (by simp) _)⟩
    · go_wp2_with fail
      refine (try_4 _ _ ca la (HW.out.below (HB.out.mono (Nat.le_refl _)))).mono ?_
      rintro e w1 ⟨k, n, s, q, rfl, hb1⟩
      have KA1 := Lib.hid (KA.out.below_ hb1)
      have KB1 := Lib.hid (KB.out.below_ hb1)
      have KC1 := Lib.hid (KC.out.below_ hb1)
      have HB1 := Lib.hid (Below.trans HB.out (hb1.mono HB.out.size))
      have g0 := KB1.out.cell 0
      have g1 := KB1.out.cell 1
      have g2 := KB1.out.cell 2
      have fr := KB1.out.frozen
      have lb1 := KB1.out.lt
      clear hb1 f0 f1 f2 f3 f4 ca la lb
      cases q
      · go_wp2
        exact ⟨⟨4, k, n, s, by omega, by omega, rfl, rfl, (((KA1.out.far (p := ⟨w.heap.size + 1, 0, none⟩) (by simp; try omega) _).far (p := ⟨w.heap.size + 1, 1, none⟩) (by simp; try omega) _).far (p := ⟨w.heap.size + 1, 2, none⟩) (by simp; try omega) _), ((KB1.out.set_ 0 (.int .u8 k)).set_ 1 (.int .i64 n)).set_ 2 (str s), (((KC1.out.far (p := ⟨w.heap.size + 1, 0, none⟩) (by simp; try omega) _).far (p := ⟨w.heap.size + 1, 1, none⟩) (by simp; try omega) _).far (p := ⟨w.heap.size + 1, 2, none⟩) (by simp; try omega) _), Below.setCell (Below.setCell (Below.setCell HB1.out (by simp) _) (by simp) _) (by simp) _⟩, by simp [intOf]⟩
      · go_wp2
        rw [Exit.noGoto_ret]
        refine bodyPost_ret (v := .agg #[.int .u8 k, .int .i64 n, str s]) (by simp (maxDischargeDepth := 9) [results, Tryz.results196, go_sem, g0, g1, g2]) rfl ?_
        exact ⟨k, n, s, rfl, (Below.setCell (Below.setCell (Below.setCell (Below.setCell (Below.setCell (Below.setCell HB1.out (by simp) _) (by simp) _) (by simp) _) (by simp) _) (by simp) _) (by simp) _)⟩
    · go_wp2_with fail
      refine (try_5 _ _ ca la (HW.out.below (HB.out.mono (Nat.le_refl _)))).mono ?_
      rintro e w1 ⟨k, n, s, q, rfl, hb1⟩
      have KA1 := Lib.hid (KA.out.below_ hb1)
      have KB1 := Lib.hid (KB.out.below_ hb1)
      have KC1 := Lib.hid (KC.out.below_ hb1)
      have HB1 := Lib.hid (Below.trans HB.out (hb1.mono HB.out.size))
      have g0 := KB1.out.cell 0
      have g1 := KB1.out.cell 1
      have g2 := KB1.out.cell 2
      have fr := KB1.out.frozen
      have lb1 := KB1.out.lt
      clear hb1 f0 f1 f2 f3 f4 ca la lb
      cases q
      · go_wp2
        exact ⟨⟨5, k, n, s, by omega, by omega, rfl, rfl, (((KA1.out.far (p := ⟨w.heap.size + 1, 0, none⟩) (by simp; try omega) _).far (p := ⟨w.heap.size + 1, 1, none⟩) (by simp; try omega) _).far (p := ⟨w.heap.size + 1, 2, none⟩) (by simp; try omega) _), ((KB1.out.set_ 0 (.int .u8 k)).set_ 1 (.int .i64 n)).set_ 2 (str s), (((KC1.out.far (p := ⟨w.heap.size + 1, 0, none⟩) (by simp; try omega) _).far (p := ⟨w.heap.size + 1, 1, none⟩) (by simp; try omega) _).far (p := ⟨w.heap.size + 1, 2, none⟩) (by simp; try omega) _), Below.setCell (Below.setCell (Below.setCell HB1.out (by simp) _) (by simp) _) (by simp) _⟩, by simp [intOf]⟩
      · go_wp2
        rw [Exit.noGoto_ret]
        refine bodyPost_ret (v := .agg #[.int .u8 k, .int .i64 n, str s]) (by simp (maxDischargeDepth := 9) [results, Tryz.results196, go_sem, g0, g1, g2]) rfl ?_
        exact ⟨k, n, s, rfl, (Below.setCell (Below.setCell (Below.setCell (Below.setCell (Below.setCell (Below.setCell HB1.out (by simp) _) (by simp) _) (by simp) _) (by simp) _) (by simp) _) (by simp) _)⟩
    · have g0 := KB.out.cell 0
      have g1 := KB.out.cell 1
      have g2 := KB.out.cell 2
      have fr := KB.out.frozen
      clear f0 f1 f2 f3 f4
      go_wp2
      rw [Exit.noGoto_ret]
      refine bodyPost_ret (v := .agg #[.int .u8 3, .int .i64 0, str [57]]) (by simp (maxDischargeDepth := 9) [results, Tryz.results196, go_sem, g0, g1, g2]) rfl ?_
      exact ⟨3, 0, [57], rfl, (Below.setCell (Below.setCell (Below.setCell (Below.setCell (Below.setCell (Below.setCell HB.out (by simp) _) (by simp) _) (by simp) _) (by simp) _) (by simp) _) (by simp) _)⟩

end Go.Proofs.YtamcgggmfghljaaGreatDoor
