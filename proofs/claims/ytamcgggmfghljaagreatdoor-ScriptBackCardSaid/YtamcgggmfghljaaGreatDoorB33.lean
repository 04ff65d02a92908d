/- Layer 11 (program): what an input means that is no formula (printed by tools/gen_constg.py · Layer 11 (program): what an input means. · Layer 11 (program): entries checked (printed by tools/gen_entchk.py). -/
import Derived.Laws.CopyOwn
import Derived.BigQuiet
import Derived.Deep.QuietTactic
import Derived.Laws.IdiomStrings
import Derived.Test.YtamcgggmfghljaaGreatDoorB32
set_option maxRecDepth 100000
set_option maxHeartbeats 8000000
namespace Go.Proofs.YtamcgggmfghljaaGreatDoor
open Go.RowKit
theorem constant_any (inp : Bytes) (w : World) (hp : txtE inp = 0) (hl : inp.length ≤ 1000000) (hw : Words w) :
    Calls Tryz.prog 196 #[str inp] w fun u w' => ∃ k n : Int, ∃ s : Bytes, u = .returned (vVal k n s) ∧ Below w.heap.size w w' := by
  have hmf : ∀ (fn : Fn) (first cap : Array Value) (w : World), (Instr.makeFunc fn first cap).run Tryz.prog w = .ok (.func fn first cap) w := fun _ _ _ _ => rfl
  go_enter Tryz.func196, Tryz.ntmps196
  go_wp2
  go_step3
  go_wp2
  go_step3
  go_wp2
  have kA : Blk (((w.alloc (.cells #[str inp] 9)).alloc (.cells #[.int .u8 0, .int .i64 0, str []] 189)).alloc (.cells #[.func (.func 212) #[] #[.pointer (some ⟨w.heap.size, 0, none⟩)], .func (.func 213) #[] #[.pointer (some ⟨w.heap.size, 0, none⟩)], .func (.func 214) #[] #[.pointer (some ⟨w.heap.size, 0, none⟩)], .func (.func 216) #[] #[.pointer (some ⟨w.heap.size, 0, none⟩)], .func (.func 219) #[] #[.pointer (some ⟨w.heap.size, 0, none⟩)]] 223)) w.heap.size 9 #[str inp] := ((Blk.new w _ _).alloc _).alloc _
  have kB : Blk (((w.alloc (.cells #[str inp] 9)).alloc (.cells #[.int .u8 0, .int .i64 0, str []] 189)).alloc (.cells #[.func (.func 212) #[] #[.pointer (some ⟨w.heap.size, 0, none⟩)], .func (.func 213) #[] #[.pointer (some ⟨w.heap.size, 0, none⟩)], .func (.func 214) #[] #[.pointer (some ⟨w.heap.size, 0, none⟩)], .func (.func 216) #[] #[.pointer (some ⟨w.heap.size, 0, none⟩)], .func (.func 219) #[] #[.pointer (some ⟨w.heap.size, 0, none⟩)]] 223)) (w.heap.size + 1) 189 #[.int .u8 0, .int .i64 0, str []] := by
    have := (Blk.new (w.alloc (.cells #[str inp] 9)) 189 #[.int .u8 0, .int .i64 0, str []]).alloc (.cells #[.func (.func 212) #[] #[.pointer (some ⟨w.heap.size, 0, none⟩)], .func (.func 213) #[] #[.pointer (some ⟨w.heap.size, 0, none⟩)], .func (.func 214) #[] #[.pointer (some ⟨w.heap.size, 0, none⟩)], .func (.func 216) #[] #[.pointer (some ⟨w.heap.size, 0, none⟩)], .func (.func 219) #[] #[.pointer (some ⟨w.heap.size, 0, none⟩)]] 223)
    simpa using this
  have kC : Blk (((w.alloc (.cells #[str inp] 9)).alloc (.cells #[.int .u8 0, .int .i64 0, str []] 189)).alloc (.cells #[.func (.func 212) #[] #[.pointer (some ⟨w.heap.size, 0, none⟩)], .func (.func 213) #[] #[.pointer (some ⟨w.heap.size, 0, none⟩)], .func (.func 214) #[] #[.pointer (some ⟨w.heap.size, 0, none⟩)], .func (.func 216) #[] #[.pointer (some ⟨w.heap.size, 0, none⟩)], .func (.func 219) #[] #[.pointer (some ⟨w.heap.size, 0, none⟩)]] 223)) (w.heap.size + 1 + 1) 223 #[.func (.func 212) #[] #[.pointer (some ⟨w.heap.size, 0, none⟩)], .func (.func 213) #[] #[.pointer (some ⟨w.heap.size, 0, none⟩)], .func (.func 214) #[] #[.pointer (some ⟨w.heap.size, 0, none⟩)], .func (.func 216) #[] #[.pointer (some ⟨w.heap.size, 0, none⟩)], .func (.func 219) #[] #[.pointer (some ⟨w.heap.size, 0, none⟩)]] := by
    have := Blk.new ((w.alloc (.cells #[str inp] 9)).alloc (.cells #[.int .u8 0, .int .i64 0, str []] 189)) 223 #[.func (.func 212) #[] #[.pointer (some ⟨w.heap.size, 0, none⟩)], .func (.func 213) #[] #[.pointer (some ⟨w.heap.size, 0, none⟩)], .func (.func 214) #[] #[.pointer (some ⟨w.heap.size, 0, none⟩)], .func (.func 216) #[] #[.pointer (some ⟨w.heap.size, 0, none⟩)], .func (.func 219) #[] #[.pointer (some ⟨w.heap.size, 0, none⟩)]]
    simpa using this
  have bb : Below w.heap.size w (((w.alloc (.cells #[str inp] 9)).alloc (.cells #[.int .u8 0, .int .i64 0, str []] 189)).alloc (.cells #[.func (.func 212) #[] #[.pointer (some ⟨w.heap.size, 0, none⟩)], .func (.func 213) #[] #[.pointer (some ⟨w.heap.size, 0, none⟩)], .func (.func 214) #[] #[.pointer (some ⟨w.heap.size, 0, none⟩)], .func (.func 216) #[] #[.pointer (some ⟨w.heap.size, 0, none⟩)], .func (.func 219) #[] #[.pointer (some ⟨w.heap.size, 0, none⟩)]] 223)) := by go_grown
  have KA := Lib.hid kA
  have KB := Lib.hid kB
  have KC := Lib.hid kC
  have BB := Lib.hid bb
  have HW := Lib.hid hw
  clear kA kB kC bb hw
  go_loopw [4, 15] (fun q i wr => ∃ (k : Int) (a b : Int) (c : Bytes), 0 ≤ k ∧ k ≤ 5 ∧ q = .bool false ∧ i = .int .i64 k ∧ Blk wr w.heap.size 9 #[str inp] ∧ Blk wr (w.heap.size + 1) 189 #[.int .u8 a, .int .i64 b, str c] ∧ Blk wr (w.heap.size + 1 + 1) 223 #[.func (.func 212) #[] #[.pointer (some ⟨w.heap.size, 0, none⟩)], .func (.func 213) #[] #[.pointer (some ⟨w.heap.size, 0, none⟩)], .func (.func 214) #[] #[.pointer (some ⟨w.heap.size, 0, none⟩)], .func (.func 216) #[] #[.pointer (some ⟨w.heap.size, 0, none⟩)], .func (.func 219) #[] #[.pointer (some ⟨w.heap.size, 0, none⟩)]] ∧ Below w.heap.size w wr) (fun _ i _ => 5 - (intOf i).toNat)
  case atStart => exact ⟨0, 0, 0, [], by omega, by omega, rfl, rfl, KA.out, KB.out, KC.out, BB.out⟩
  case round =>
    obtain ⟨k, a, b, c, k0, k5, rfl, rfl, ka, kb, kc, hb⟩ := hrel
    clear KA KB KC BB
    have KA := Lib.hid ka
    have KB := Lib.hid kb
    have KC := Lib.hid kc
    have HB := Lib.hid hb
    have f0 := kc.cell 0
    have f1 := kc.cell 1
    have f2 := kc.cell 2
    have f3 := kc.cell 3
    have f4 := kc.cell 4
    have ca := ka.cell 0
    have la := ka.lt
    have lb := kb.lt
    clear ka kb kc hb
    have e : k = 0 ∨ k = 1 ∨ k = 2 ∨ k = 3 ∨ k = 4 ∨ k = 5 := by omega
    rcases e with rfl | rfl | rfl | rfl | rfl | rfl
    · go_wp2_with fail
      refine (tryg_1 inp hp hl _ _ ca la (HW.out.below (HB.out.mono (Nat.le_refl _)))).mono ?_
      rintro e w1 ⟨k, n, s, q, rfl, hb1⟩
      have KA1 := Lib.hid (KA.out.below_ hb1)
      have KB1 := Lib.hid (KB.out.below_ hb1)
      have KC1 := Lib.hid (KC.out.below_ hb1)
      have HB1 := Lib.hid (Below.trans HB.out (hb1.mono HB.out.size))
      have g0 := KB1.out.cell 0
      have g1 := KB1.out.cell 1
      have g2 := KB1.out.cell 2
      have fr := KB1.out.frozen
      have lb1 := KB1.out.lt
      clear hb1 f0 f1 f2 f3 f4 ca la lb
      cases q
      · go_wp2
        exact ⟨⟨1, k, n, s, by omega, by omega, rfl, rfl, (((KA1.out.far (p := ⟨w.heap.size + 1, 0, none⟩) (by simp; try omega) _).far (p := ⟨w.heap.size + 1, 1, none⟩) (by simp; try omega) _).far (p := ⟨w.heap.size + 1, 2, none⟩) (by simp; try omega) _), ((KB1.out.set_ 0 (.int .u8 k)).set_ 1 (.int .i64 n)).set_ 2 (str s), (((KC1.out.far (p := ⟨w.heap.size + 1, 0, none⟩) (by simp; try omega) _).far (p := ⟨w.heap.size + 1, 1, none⟩) (by simp; try omega) _).far (p := ⟨w.heap.size + 1, 2, none⟩) (by simp; try omega) _), Below.setCell (Below.setCell (Below.setCell HB1.out (by simp) _) (by simp) _) (by simp) _⟩, by simp [intOf]⟩
      · go_wp2
        rw [Exit.noGoto_ret]
        refine bodyPost_ret (v := .agg #[.int .u8 k, .int .i64 n, str s]) (by simp (maxDischargeDepth := 9) [results, Tryz.results196, go_sem, g0, g1, g2]) rfl ?_
        exact ⟨k, n, s, rfl, (Below.setCell (Below.setCell (Below.setCell (Below.setCell (Below.setCell (Below.setCell HB1.out (by simp) _) (by simp) _) (by simp) _) (by simp) _) (by simp) _) (by simp) _)⟩
    · go_wp2_with fail
      refine (tryg_2 inp hp hl _ _ ca la (HW.out.below (HB.out.mono (Nat.le_refl _)))).mono ?_
      rintro e w1 ⟨k, n, s, q, rfl, hb1⟩
      have KA1 := Lib.hid (KA.out.below_ hb1)
      have KB1 := Lib.hid (KB.out.below_ hb1)
      have KC1 := Lib.hid (KC.out.below_ hb1)
      have HB1 := Lib.hid (Below.trans HB.out (hb1.mono HB.out.size))
      have g0 := KB1.out.cell 0
      have g1 := KB1.out.cell 1
      have g2 := KB1.out.cell 2
      have fr := KB1.out.frozen
      have lb1 := KB1.out.lt
      clear hb1 f0 f1 f2 f3 f4 ca la lb
      cases q
      · go_wp2
        exact ⟨⟨2, k, n, s, by omega, by omega, rfl, rfl, (((KA1.out.far (p := ⟨w.heap.size + 1, 0, none⟩) (by simp; try omega) _).far (p := ⟨w.heap.size + 1, 1, none⟩) (by simp; try omega) _).far (p := ⟨w.heap.size + 1, 2, none⟩) (by simp; try omega) _), ((KB1.out.set_ 0 (.int .u8 k)).set_ 1 (.int .i64 n)).set_ 2 (str s), (((KC1.out.far (p := ⟨w.heap.size + 1, 0, none⟩) (by simp; try omega) _).far (p := ⟨w.heap.size + 1, 1, none⟩) (by simp; try omega) _).far (p := ⟨w.heap.size + 1, 2, none⟩) (by simp; try omega) _), Below.setCell (Below.setCell (Below.setCell HB1.out (by simp) _) (by simp) _) (by simp) _⟩, by simp [intOf]⟩
      · go_wp2
        rw [Exit.noGoto_ret]
        refine bodyPost_ret (v := .agg #[.int .u8 k, .int .i64 n, str s]) (by simp (maxDischargeDepth := 9) [results, Tryz.results196, go_sem, g0, g1, g2]) rfl ?_
        exact ⟨k, n, s, rfl, (Below.setCell (Below.setCell (Below.setCell (Below.setCell (Below.setCell (Below.setCell HB1.out (by simp) _) (by simp) _) (by simp) _) (by simp) _) (by simp) _) (by simp) _)⟩
    · go_wp2_with fail
      refine (tryg_3 inp hp hl _ _ ca la (HW.out.below (HB.out.mono (Nat.le_refl _)))).mono ?_
      rintro e w1 ⟨k, n, s, q, rfl, hb1⟩
      have KA1 := Lib.hid (KA.out.below_ hb1)
      have KB1 := Lib.hid (KB.out.below_ hb1)
      have KC1 := Lib.hid (KC.out.below_ hb1)
      have HB1 := Lib.hid (Below.trans HB.out (hb1.mono HB.out.size))
      have g0 := KB1.out.cell 0
      have g1 := KB1.out.cell 1
      have g2 := KB1.out.cell 2
      have fr := KB1.out.frozen
      have lb1 := KB1.out.lt
      clear hb1 f0 f1 f2 f3 f4 ca la lb
      cases q
      · go_wp2
        exact ⟨⟨3, k, n, s, by omega, by omega, rfl, rfl, (((KA1.out.far (p := ⟨w.heap.size + 1, 0, none⟩) (by simp; try omega) _).far (p := ⟨w.heap.size + 1, 1, none⟩) (by simp; try omega) _).far (p := ⟨w.heap.size + 1, 2, none⟩) (by simp; try omega) _), ((KB1.out.set_ 0 (.int .u8 k)).set_ 1 (.int .i64 n)).set_ 2 (str s), (((KC1.out.far (p := ⟨w.heap.size + 1, 0, none⟩) (by simp; try omega) _).far (p := ⟨w.heap.size + 1, 1, none⟩) (by simp; try omega) _).far (p := ⟨w.heap.size + 1, 2, none⟩) (by simp; try omega) _), Below.setCell (Below.setCell (Below.setCell HB1.out (by simp) _) (by simp) _) (by simp) _⟩, by simp [intOf]⟩
      · go_wp2
        rw [Exit.noGoto_ret]
        refine bodyPost_ret (v := .agg #[.int .u8 k, .int .i64 n, str s]) (by simp (maxDischargeDepth := 9) [results, Tryz.results196, go_sem, g0, g1, g2]) rfl ?_
        exact ⟨k, n, s, rfl, (Below.setCell (Below.setCell (Below.setCell (Below.setCell (Below.setCell (Below.setCell HB1.out (by simp) _) (by simp) _) (by simp) _) (by simp) _) (by simp) _) (by simp) _)⟩
    · go_wp2_with fail
      refine (tryg_4 inp hp hl _ _ ca la (HW.out.below (HB.out.mono (Nat.le_refl _)))).mono ?_
      rintro e w1 ⟨k, n, s, q, rfl, hb1⟩
      have KA1 := Lib.hid (KA.out.below_ hb1)
      have KB1 := Lib.hid (KB.out.below_ hb1)
      have KC1 := Lib.hid (KC.out.below_ hb1)
      have HB1 := Lib.hid (Below.trans HB.out (hb1.mono HB.out.size))
      have g0 := KB1.out.cell 0
      have g1 := KB1.out.cell 1
      have g2 := KB1.out.cell 2
      have fr := KB1.out.frozen
      have lb1 := KB1.out.lt
      clear hb1 f0 f1 f2 f3 f4 ca la lb
      cases q
      · go_wp2
        exact ⟨⟨4, k, n, s, by omega, by omega, rfl, rfl, (((KA1.out.far (p := ⟨w.heap.size + 1, 0, none⟩) (by simp; try omega) _).far (p := ⟨w.heap.size + 1, 1, none⟩) (by simp; try omega) _).far (p := ⟨w.heap.size + 1, 2, none⟩) (by simp; try omega) _), ((KB1.out.set_ 0 (.int .u8 k)).set_ 1 (.int .i64 n)).set_ 2 (str s), (((KC1.out.far (p := ⟨w.heap.size + 1, 0, none⟩) (by simp; try omega) _).far (p := ⟨w.heap.size + 1, 1, none⟩) (by simp; try omega) _).far (p := ⟨w.heap.size + 1, 2, none⟩) (by simp; try omega) _), Below.setCell (Below.setCell (Below.setCell HB1.out (by simp) _) (by simp) _) (by simp) _⟩, by simp [intOf]⟩
      · go_wp2
        rw [Exit.noGoto_ret]
        refine bodyPost_ret (v := .agg #[.int .u8 k, .int .i64 n, str s]) (by simp (maxDischargeDepth := 9) [results, Tryz.results196, go_sem, g0, g1, g2]) rfl ?_
        exact ⟨k, n, s, rfl, (Below.setCell (Below.setCell (Below.setCell (Below.setCell (Below.setCell (Below.setCell HB1.out (by simp) _) (by simp) _) (by simp) _) (by simp) _) (by simp) _) (by simp) _)⟩
    · go_wp2_with fail
      refine (tryg_5 inp hp hl _ _ ca la (HW.out.below (HB.out.mono (Nat.le_refl _)))).mono ?_
      rintro e w1 ⟨k, n, s, q, rfl, hb1⟩
      have KA1 := Lib.hid (KA.out.below_ hb1)
      have KB1 := Lib.hid (KB.out.below_ hb1)
      have KC1 := Lib.hid (KC.out.below_ hb1)
      have HB1 := Lib.hid (Below.trans HB.out (hb1.mono HB.out.size))
      have g0 := KB1.out.cell 0
      have g1 := KB1.out.cell 1
      have g2 := KB1.out.cell 2
      have fr := KB1.out.frozen
      have lb1 := KB1.out.lt
      clear hb1 f0 f1 f2 f3 f4 ca la lb
      cases q
      · go_wp2
        exact ⟨⟨5, k, n, s, by omega, by omega, rfl, rfl, (((KA1.out.far (p := ⟨w.heap.size + 1, 0, none⟩) (by simp; try omega) _).far (p := ⟨w.heap.size + 1, 1, none⟩) (by simp; try omega) _).far (p := ⟨w.heap.size + 1, 2, none⟩) (by simp; try omega) _), ((KB1.out.set_ 0 (.int .u8 k)).set_ 1 (.int .i64 n)).set_ 2 (str s), (((KC1.out.far (p := ⟨w.heap.size + 1, 0, none⟩) (by simp; try omega) _).far (p := ⟨w.heap.size + 1, 1, none⟩) (by simp; try omega) _).far (p := ⟨w.heap.size + 1, 2, none⟩) (by simp; try omega) _), Below.setCell (Below.setCell (Below.setCell HB1.out (by simp) _) (by simp) _) (by simp) _⟩, by simp [intOf]⟩
      · go_wp2
        rw [Exit.noGoto_ret]
        refine bodyPost_ret (v := .agg #[.int .u8 k, .int .i64 n, str s]) (by simp (maxDischargeDepth := 9) [results, Tryz.results196, go_sem, g0, g1, g2]) rfl ?_
        exact ⟨k, n, s, rfl, (Below.setCell (Below.setCell (Below.setCell (Below.setCell (Below.setCell (Below.setCell HB1.out (by simp) _) (by simp) _) (by simp) _) (by simp) _) (by simp) _) (by simp) _)⟩
    · have g0 := KB.out.cell 0
      have g1 := KB.out.cell 1
      have g2 := KB.out.cell 2
      have fr := KB.out.frozen
      clear f0 f1 f2 f3 f4
      go_wp2
      rw [Exit.noGoto_ret]
      refine bodyPost_ret (v := .agg #[.int .u8 3, .int .i64 0, str inp]) (by simp (maxDischargeDepth := 9) [results, Tryz.results196, go_sem, g0, g1, g2]) rfl ?_
      exact ⟨3, 0, inp, rfl, (Below.setCell (Below.setCell (Below.setCell (Below.setCell (Below.setCell (Below.setCell HB.out (by simp) _) (by simp) _) (by simp) _) (by simp) _) (by simp) _) (by simp) _)⟩
theorem ext_one (l : Bytes) (k : Nat) (h : k < l.length) : (⟨l.toArray⟩ : ByteArray).extract k (k + 1) = ⟨[l[k]].toArray⟩ := by
  apply ByteArray.ext
  simp only [ByteArray.data_extract]
  apply Array.ext'
  simp only [Array.toList_extract, List.extract_eq_take_drop, Nat.add_sub_cancel_left]
  rw [List.drop_eq_getElem_cons h]
  rfl
theorem plt_one (c : UInt8) : txtE [c] = if 32 ≤ c.toNat ∧ c.toNat ≤ 126 then 0 else 4 := by
  unfold txtE prB
  simp
theorem plt_txt {s : Bytes} (h : pltB s = true) (hl : s.length ≤ 256) : txtE s = 0 := by
  unfold txtE
  rw [if_neg (by omega), if_pos (prB_pltB _ h)]
theorem ofE_eq {s : Bytes} (hl : s.length ≤ 256) (hp : pltB s = true) (h : s.head? = some 61) : ofE s = (formulaS s.tail).2 := by
  unfold ofE
  rw [if_neg (by omega), if_neg (by rw [hp]; simp), if_pos h]
theorem ofE_no {s : Bytes} (hl : s.length ≤ 256) (hp : pltB s = true) (h : s.head? ≠ some 61) : ofE s = 0 := by
  unfold ofE
  rw [if_neg (by omega), if_neg (by rw [hp]; simp), if_neg h]
theorem pre_61 (s : Bytes) : ([61] : Bytes).isPrefixOf s = decide (s.head? = some 61) := by
  cases s with
  | nil => rfl
  | cons c t =>
    simp only [List.isPrefixOf, List.head?_cons, Option.some.injEq, Bool.and_true]
    rw [Bool.eq_iff_iff]
    simp only [beq_iff_eq, decide_eq_true_eq]
    exact eq_comm
theorem of_any (s : Bytes) (w : World) (hs : s.length ≤ 1000000) (hw : Words w) :
    Calls Tryz.prog 169 #[str s] w fun u w' => ∃ (f : Bool) (k n : Int) (x : Bytes) (A : Option Addr) (l c : Nat) (p : Int), u = .returned (.tuple #[.agg #[.bool f, .int .u8 k, .int .i64 n, str x, .slice A l c], .int .i64 p, .int .i64 (ofE s)]) ∧ Below w.heap.size w w' := by
  have HW := Lib.hid hw
  clear hw
  have HB0 := Lib.hid (show Below w.heap.size w (w.alloc (.cells #[.bool false, .int .u8 0, .int .i64 0, str [], .slice none 0 0] 192)) from by go_grown)
  have K0 := Lib.hid (Blk.new w 192 #[.bool false, .int .u8 0, .int .i64 0, str [], .slice none 0 0])
  by_cases h256 : 256 < s.length
  · have HE := Lib.hid (show ofE s = 5 by unfold ofE; rw [if_pos h256])
    have g256 : (256 : Int) < (s.length : Int) := by omega
    go_enter Tryz.func169, Tryz.ntmps169
    go_wp2
    refine bodyPost_ret (v := .tuple #[.agg #[.bool false, .int .u8 0, .int .i64 0, str [], .slice none 0 0], .int .i64 0, .int .i64 5]) (by simp (maxDischargeDepth := 9) [results, Tryz.results169, go_sem]) rfl ?_
    exact ⟨false, 0, 0, [], none, 0, 0, 0, by rw [HE.out], by go_grown⟩
  have g256 : ¬ (256 : Int) < (s.length : Int) := by omega
  have hl256 : s.length ≤ 256 := by omega
  go_enter Tryz.func169, Tryz.ntmps169
  go_upto_region 3 with (fail)
  obtain ⟨W0, hW0⟩ : ∃ W0, w.alloc (.cells #[.bool false, .int .u8 0, .int .i64 0, str [], .slice none 0 0] 192) = W0 := ⟨_, rfl⟩
  rw [show (Value.string ⟨#[]⟩) = str [] from rfl] at *
  rw [hW0] at HB0 K0 ⊢
  clear hW0
  have HPL : RowKit.Hid ((∀ j, j < s.length → 32 ≤ ub s j ∧ ub s j ≤ 126) → pltB s = true) := Lib.hid (plt_all s)
  go_wp2_with fail
  go_loopw [15] (fun i wr => ∃ k : Nat, k ≤ s.length ∧ i = .int .i64 k ∧ (∀ j, j < k → 32 ≤ ub s j ∧ ub s j ≤ 126) ∧ Below w.heap.size w wr ∧ Blk wr w.heap.size 192 #[.bool false, .int .u8 0, .int .i64 0, str [], .slice none 0 0]) (fun i _ => s.length - (intOf i).toNat)
  case atStart => exact ⟨0, by omega, rfl, fun j hj => by omega, HB0.out, K0.out⟩
  case round =>
    obtain ⟨k, hk, rfl, hpl, hbw, hkw⟩ := hrel
    have HP := Lib.hid hpl
    have HBW := Lib.hid hbw
    have KW := Lib.hid hkw
    clear hpl hbw hkw K0 HB0
    have hk0 : (0 : Int) ≤ (k : Int) := Int.natCast_nonneg _
    by_cases hlt : k < s.length
    · have hk1 : (k : Int) < (s.length : Int) := by omega
      have hub : ub s k = s[k].toNat := by unfold ub; rw [List.getD_eq_getElem?_getD, List.getElem?_eq_getElem hlt]; rfl
      have HX := Lib.hid (ext_one s k hlt)
      have HUB := Lib.hid hub
      clear hub
      generalize s[k] = c at HX HUB
      go_wp2_with fail
      rw [HX.out]
      refine (glyph_check [c] _ (by simp)).mono ?_
      rintro u w2 ⟨rfl, hb2⟩
      have K2 := Lib.hid (KW.out.below_ hb2)
      have HB2 := Lib.hid (Below.next HBW.out hb2 HBW.out.size)
      clear hb2
      rw [plt_one]
      by_cases hc : 32 ≤ c.toNat ∧ c.toNat ≤ 126
      · rw [if_pos hc]
        have HC := Lib.hid hc
        clear hc
        go_wp2
        exact ⟨⟨k + 1, by omega, by go_num, fun j hj => by
          rcases Nat.lt_or_ge j k with h | h
          · exact HP.out j h
          · obtain rfl : j = k := by omega
            rw [HUB.out]
            exact HC.out, HB2.out, K2.out⟩, by simp [intOf]; omega⟩
      · rw [if_neg hc]
        have HE := Lib.hid (show ofE s = 4 by
          unfold ofE
          rw [if_neg (by omega), if_pos (plt_at s k hlt (by rw [HUB.out]; exact hc))])
        have g0 := K2.out.cell 0
        have g1 := K2.out.cell 1
        have g2 := K2.out.cell 2
        have g3 := K2.out.cell 3
        have g4 := K2.out.cell 4
        have fr := K2.out.frozen
        have lb := K2.out.lt
        clear hc
        go_wp2
        refine bodyPost_ret (v := .tuple #[.agg #[.bool false, .int .u8 0, .int .i64 0, str [], .slice none 0 0], .int .i64 k, .int .i64 4]) (by simp (maxDischargeDepth := 9) [results, Tryz.results169, go_sem, g0, g1, g2, g3, g4]) rfl ?_
        exact ⟨false, 0, 0, [], none, 0, 0, k, by rw [HE.out], Below.setCell (Below.setCell (Below.setCell (Below.setCell (Below.setCell HB2.out (by simp) _) (by simp) _) (by simp) _) (by simp) _) (by simp) _⟩
    · have hpl := HPL.out (fun j hj => HP.out j (by omega))
      have hnl : ¬ (k : Int) < (s.length : Int) := by omega
      have HTX := Lib.hid (plt_txt hpl hl256)
      have hp61 := pre_61 s
      have HEY : RowKit.Hid (s.head? = some 61 → ofE s = (formulaS s.tail).2) := Lib.hid (ofE_eq hl256 hpl)
      have HEN : RowKit.Hid (s.head? ≠ some 61 → ofE s = 0) := Lib.hid (ofE_no hl256 hpl)
      clear hpl HP
      go_wp2_with fail
      refine (cut_prefix s [61] _ hs (by simp)).mono ?_
      rintro u w2 ⟨rfl, rfl⟩
      by_cases hh : s.head? = some 61
      rotate_left
      · have HE := Lib.hid (HEN.out hh)
        have hb : ([61] : Bytes).isPrefixOf s = false := by rw [hp61]; simpa using hh
        rw [hb]
        clear hh hb hp61
        generalize cutB s [61] = rest
        go_wp2_with fail
        refine (constant_any s _ HTX.out hs (HW.out.below (HBW.out.mono (Nat.le_refl _)))).mono ?_
        rintro u w3 ⟨kk, n, x, rfl, hb3⟩
        have K3 := Lib.hid (KW.out.below_ hb3)
        have HB3 := Lib.hid (Below.next HBW.out hb3 HBW.out.size)
        clear hb3
        have g0 := K3.out.cell 0
        have g1 := K3.out.cell 1
        have g2 := K3.out.cell 2
        have g3 := K3.out.cell 3
        have g4 := K3.out.cell 4
        have fr := K3.out.frozen
        have lb := K3.out.lt
        go_wp2
        refine bodyPost_ret (v := .tuple #[.agg #[.bool false, .int .u8 kk, .int .i64 n, str x, .slice none 0 0], .int .i64 0, .int .i64 0]) (by simp (maxDischargeDepth := 9) [results, Tryz.results169, go_sem, g0, g1, g2, g3, g4]) rfl ?_
        exact ⟨false, kk, n, x, none, 0, 0, 0, by rw [HE.out], Below.setCell (Below.setCell (Below.setCell (Below.setCell (Below.setCell HB3.out (by simp) _) (by simp) _) (by simp) _) (by simp) _) (by simp) _⟩
      have HE := Lib.hid (HEY.out hh)
      have hb : ([61] : Bytes).isPrefixOf s = true := by rw [hp61]; simpa using hh
      have hcut : cutB s [61] = s.tail := by rw [cut_yes hb]; simp
      rw [hb, hcut]
      have htl : s.tail.length ≤ 1000000 := by rw [List.length_tail]; omega
      clear hh hb hp61 hcut
      go_wp2_with fail
      refine (formula_any s.tail _ htl (HW.out.below (HBW.out.mono (Nat.le_refl _)))).mono ?_
      rintro u w3 ⟨v, p, rfl, hsl, hb3⟩
      obtain ⟨A3, c3, rfl, -⟩ := id hsl
      have K3 := Lib.hid (KW.out.below_ hb3)
      have HB3 := Lib.hid (Below.next HBW.out hb3 HBW.out.size)
      clear hb3 hsl
      have g0 := K3.out.cell 0
      have g1 := K3.out.cell 1
      have g2 := K3.out.cell 2
      have g3 := K3.out.cell 3
      have g4 := K3.out.cell 4
      have fr := K3.out.frozen
      have lb := K3.out.lt
      by_cases he : (formulaS s.tail).2 = 0
      · have be : ((formulaS s.tail).2 != 0) = false := by simpa using he
        have HE0 := Lib.hid (HE.out.trans he)
        clear he
        go_wp2
        refine bodyPost_ret (v := .tuple #[.agg #[.bool true, .int .u8 0, .int .i64 0, str [], .slice A3 (formulaS s.tail).1.length c3], .int .i64 0, .int .i64 0]) (by simp (maxDischargeDepth := 9) [results, Tryz.results169, go_sem, g0, g1, g2, g3, g4]) rfl ?_
        exact ⟨true, 0, 0, [], A3, _, c3, 0, by rw [HE0.out], Below.setCell (Below.setCell (Below.setCell (Below.setCell (Below.setCell HB3.out (by simp) _) (by simp) _) (by simp) _) (by simp) _) (by simp) _⟩
      · have be : ((formulaS s.tail).2 != 0) = true := by simpa using he
        generalize (formulaS s.tail).2 = fe at *
        clear he
        go_wp2
        refine bodyPost_ret (v := .tuple #[.agg #[.bool false, .int .u8 0, .int .i64 0, str [], .slice none 0 0], .int .i64 (wrap64 (p + 1)), .int .i64 fe]) (by simp (maxDischargeDepth := 9) [results, Tryz.results169, go_sem, g0, g1, g2, g3, g4]) rfl ?_
        exact ⟨false, 0, 0, [], none, 0, 0, _, by rw [HE.out], Below.setCell (Below.setCell (Below.setCell (Below.setCell (Below.setCell HB3.out (by simp) _) (by simp) _) (by simp) _) (by simp) _) (by simp) _⟩
/-- An entry's error behind another one. -/
def entOneE (p : Option Ent) (x : Ent) : Int :=
  if validB x.at_.col x.at_.row = false then 3 else if (p.map fun y => lessB y.at_ x.at_) = some false then 12 else if x.input = [] then 2 else ofE x.input
def entE : Option Ent → List Ent → Int
  | _, [] => 0
  | p, x :: l => if entOneE p x ≠ 0 then entOneE p x else entE (some x) l
def prevAt (l : List Ent) (k : Nat) : Option Ent := if k = 0 then none else l[k - 1]?
theorem entE_drop (l : List Ent) {k : Nat} {x : Ent} (h : l[k]? = some x) : entE (prevAt l k) (l.drop k) = if entOneE (prevAt l k) x ≠ 0 then entOneE (prevAt l k) x else entE (prevAt l (k + 1)) (l.drop (k + 1)) := by
  have hk := (List.getElem?_eq_some_iff.1 h).1
  rw [List.drop_eq_getElem_cons hk]
  have e : l[k] = x := by rw [List.getElem?_eq_getElem hk] at h; simpa using h
  have e2 : prevAt l (k + 1) = some x := by
    unfold prevAt
    rw [if_neg (by omega), Nat.add_sub_cancel, h]
  rw [e, e2]
  rfl
theorem entry_check (sv : Value) (l : List Ent) (B : Nat) (w : World) (hB : B ≤ w.heap.size) (hs : Sls cEnt w B sv l) (hw : Words w) (hil : ∀ x ∈ l, x.input.length ≤ 1000000) :
    Calls Tryz.prog 110 #[sv] w fun u w' => ∃ i, u = .returned (.tuple #[.int .i64 i, .int .i64 (entE none l)]) ∧ Below w.heap.size w w' := by
  obtain ⟨A, cap, rfl, hc, hm, hr⟩ := id hs
  have HS := Lib.hid hs
  have HW := Lib.hid hw
  have HIL := Lib.hid hil
  clear hs hr hw hil
  unfold maxLen at hm
  go_enter Tryz.func110, Tryz.ntmps110
  go_wp2_with fail
  go_loopw [11] (fun i wr => ∃ k : Nat, k ≤ l.length ∧ i = .int .i64 k ∧ Below w.heap.size w wr ∧ entE none l = entE (prevAt l k) (l.drop k)) (fun i _ => l.length - (intOf i).toNat)
  case atStart => exact ⟨0, by omega, rfl, by go_grown, by simp [prevAt]⟩
  case round =>
    obtain ⟨k, hk, rfl, hbw, hfe⟩ := hrel
    have HF := Lib.hid hfe
    have HBW := Lib.hid hbw
    clear hfe
    by_cases hlt : k < l.length
    rotate_left
    · go_wp2
      go_ret2
      refine ⟨0, ?_, HBW.out⟩
      rw [HF.out, List.drop_eq_nil_of_le (by omega)]
      rfl
    have hy : l[k]? = some l[k] := List.getElem?_eq_getElem hlt
    obtain ⟨b, o, hA, hb2, r⟩ := (HS.out.below (hbw.mono hB)).get 3 cEnt_len hy
    have HD := Lib.hid (entE_drop l hy)
    have HIN := Lib.hid (HIL.out l[k] (List.getElem_mem hlt))
    generalize l[k] = y at *
    subst hA
    have HE : RowKit.Hid (entOneE (prevAt l k) y ≠ 0 → entE none l = entOneE (prevAt l k) y) := Lib.hid (fun h => by rw [HF.out, HD.out, if_pos h])
    have r0 : wr.cell? ⟨b, o + k * 3, none⟩ = some (.int .i64 y.at_.col) := r 0 _ rfl
    have r1 : wr.cell? ⟨b, o + k * 3 + 1, none⟩ = some (.int .i64 y.at_.row) := r 1 _ rfl
    have r2 : wr.cell? ⟨b, o + k * 3 + 2, none⟩ = some (str y.input) := r 2 _ rfl
    have K0 := Lib.hid (Blk.new wr 58 #[.int .i64 y.at_.col, .int .i64 y.at_.row, str y.input])
    have HB0 := Lib.hid (show Below w.heap.size w (wr.alloc (.cells #[.int .i64 y.at_.col, .int .i64 y.at_.row, str y.input] 58)) from HBW.out.alloc HBW.out.size _)
    have hi0 : (0 : Int) ≤ (k : Int) := Int.natCast_nonneg _
    have hi1 : (k : Int) < (l.length : Int) := by omega
    have hblt : b < wr.heap.size := by have := HBW.out.size; omega
    clear r hy
    go_wp2_with fail
    refine (addr_valid _ _ _).mono ?_
    rintro u w2 ⟨rfl, hb2'⟩
    have K2 := Lib.hid (K0.out.below_ hb2')
    have HB2 := Lib.hid (Below.next HB0.out hb2' HB0.out.size)
    have HBR := Lib.hid (show Below wr.heap.size wr w2 from Below.next (by go_grown) hb2' (by simp))
    clear hb2' K0 r0 r1 r2
    have x0 : w2.cell? ⟨wr.heap.size, 0, none⟩ = some (.int .i64 y.at_.col) := K2.out.cell 0
    have x1 : w2.cell? ⟨wr.heap.size, 1, none⟩ = some (.int .i64 y.at_.row) := K2.out.cell 1
    have x2 : w2.cell? ⟨wr.heap.size, 2, none⟩ = some (str y.input) := K2.out.cell 2
    cases hv : validB y.at_.col y.at_.row with
    | false =>
      have HY := Lib.hid (show entOneE (prevAt l k) y = 3 by unfold entOneE; rw [if_pos hv])
      go_wp2
      go_ret2
      exact ⟨k, by rw [HE.out (by rw [HY.out]; decide), HY.out]; rfl, HB2.out⟩
    | true =>
    by_cases hk0 : k = 0
    · subst hk0
      have HO : RowKit.Hid (entOneE (prevAt l 0) y = if y.input = [] then 2 else ofE y.input) := Lib.hid (by
        unfold entOneE
        rw [if_neg (by rw [hv]; simp), if_neg (by simp [prevAt])])
      go_wp2_with fail
      go_quiet (fail)
      have x2q : (w2.drewN nq).cell? ⟨wr.heap.size, 2, none⟩ = some (str y.input) := x2
      by_cases hin : y.input = []
      · have HY := Lib.hid (show entOneE (prevAt l 0) y = 2 from HO.out.trans (if_pos hin))
        have bi : (y.input == ([] : List UInt8)) = true := by simp [hin]
        clear hin
        go_wp2
        go_ret2
        exact ⟨_, by rw [HE.out (by rw [HY.out]; decide), HY.out]; rfl, (Below.drewN_ HB2.out _)⟩
      have bi : (y.input == ([] : List UInt8)) = false := by simpa using hin
      have HY := Lib.hid (HO.out.trans (if_neg hin))
      clear hin
      go_wp2_with fail
      refine (of_any y.input _ HIN.out (HW.out.below ((Below.drewN_ HB2.out _).mono (Nat.le_refl _)))).mono ?_
      rintro u w5 ⟨f, kk, n, x, A5, l5, c5, p5, rfl, hb5⟩
      have HB5 := Lib.hid (Below.next ((Below.drewN_ HB2.out _)) hb5 ((Below.drewN_ HB2.out _)).size)
      have HB6 := Lib.hid (HB5.out.alloc HB5.out.size (.cells #[.bool f, .int .u8 kk, .int .i64 n, str x, .slice A5 l5 c5] 192))
      clear hb5
      by_cases he : ofE y.input = 0
      · have be : (ofE y.input != 0) = false := by simpa using he
        have HZ := Lib.hid (HY.out.trans he)
        clear he
        go_wp2
        exact ⟨⟨0 + 1, by omega, by go_num, HB6.out, by rw [HF.out, HD.out, HZ.out]; rfl⟩, by simp [intOf]; omega⟩
      · have be : (ofE y.input != 0) = true := by simpa using he
        have HN := Lib.hid (show entOneE (prevAt l 0) y ≠ 0 by rw [HY.out]; exact he)
        clear he
        go_wp2
        go_ret2
        exact ⟨_, by rw [HE.out HN.out, HY.out]; rfl, HB6.out⟩
    obtain ⟨m, rfl⟩ : ∃ m, k = m + 1 := ⟨k - 1, by omega⟩
    have hz : l[m]? = some (l[m]'(by omega)) := List.getElem?_eq_getElem (by omega)
    obtain ⟨b4, o4, hA4, hb4, r4⟩ := (HS.out.below (hbw.mono hB)).get 3 cEnt_len hz
    have HPR := Lib.hid (show prevAt l (m + 1) = some (l[m]'(by omega)) by unfold prevAt; rw [if_neg (by omega), Nat.add_sub_cancel]; exact hz)
    generalize l[m]'(by omega) = z at *
    injection hA4 with hA4
    injection hA4 with e1 e2
    subst e1 e2
    have HO : RowKit.Hid (entOneE (prevAt l (m + 1)) y = if lessB z.at_ y.at_ = false then 12 else if y.input = [] then 2 else ofE y.input) := Lib.hid (by
      unfold entOneE
      rw [if_neg (by rw [hv]; simp), HPR.out]
      simp only [Option.map_some, Option.some.injEq])
    have RR := Lib.hid r4
    have LZ := Lib.hid (show ∀ W : World, Below w2.heap.size w2 W → W.rangeAt b (o + m * 3) [.int .i64 z.at_.col, .int .i64 z.at_.row] from fun W h => by
      intro j v hj
      refine (h.cell (p := ⟨b, o + m * 3 + j, none⟩) (Nat.lt_of_lt_of_le hblt HBR.out.size)).trans ((HBR.out.cell (p := ⟨b, o + m * 3 + j, none⟩) hblt).trans (RR.out j v ?_))
      rcases j with _ | _ | j
      · exact hj
      · exact hj
      · simp at hj)
    have LY := Lib.hid (show ∀ W : World, Below w2.heap.size w2 W → W.rangeAt wr.heap.size 0 [.int .i64 y.at_.col, .int .i64 y.at_.row] from fun W h => (K2.out.below_ h).range (by
      intro j v hj
      rw [Nat.zero_add]
      rcases j with _ | _ | j
      · exact hj
      · exact hj
      · simp at hj))
    have hm0 : (0 : Int) ≤ (m : Int) := Int.natCast_nonneg _
    have hm1 : (m : Int) < (l.length : Int) := by omega
    clear r4 hz
    go_upto_region 6 with (fail)
    have HM1 : RowKit.Hid (((m + 1 : Nat) : Int) = (m : Int) + 1) := Lib.hid (by omega)
    try rw [HM1.out]
    refine wp_region_noPanic ?_
    refine wp_region_held_drew (S := fun W => Below w2.heap.size w2 W) (by kernel_rfl) (Below.refl _ _).drew (fun hHeld => ?_)
    refine wpAnyH_take (i := 0) (oi := ⟨some 21, .move (.tmp 4), 3, _, _, none⟩) (v := .int .i64 ((m : Int) + 1)) rfl (by kernel_rfl) (by kernel_rfl) (by kernel_rfl) (fun c d e h => NoPanic.put h) (Or.inl ⟨by rfl, by intro W hW; go_simp⟩) hHeld ?_
    try simp only [Act.put, List.setIfInBounds_toArray, List.set_cons_zero, List.set_cons_succ]
    refine wpAnyH_take (i := 1) (oi := ⟨some 22, .binOp .gtr 3 (.tmp 21) (.const (.int .i64 0)) 3, 4, _, _, none⟩) (v := .bool true) rfl (by kernel_rfl) (by kernel_rfl) (by kernel_rfl) (fun c d e h => NoPanic.put h) (Or.inl ⟨by rfl, by intro W hW; go_simp⟩) hHeld ?_
    try simp only [Act.put, List.setIfInBounds_toArray, List.set_cons_zero, List.set_cons_succ]
    refine wpAnyH_take (i := 2) (oi := ⟨some 23, .move (.tmp 22), 4, _, _, none⟩) (v := .bool true) rfl (by kernel_rfl) (by kernel_rfl) (by kernel_rfl) (fun c d e h => NoPanic.put h) (Or.inl ⟨by rfl, by intro W hW; go_simp⟩) hHeld ?_
    try simp only [Act.put, List.setIfInBounds_toArray, List.set_cons_zero, List.set_cons_succ]
    refine wpAnyH_take (i := 3) (oi := ⟨some 24, .move (.tmp 0), 22, _, _, some (2, true)⟩) (v := .slice (some ⟨b, o, none⟩) l.length cap) rfl (by kernel_rfl) (by kernel_rfl) (by kernel_rfl) (fun c d e h => NoPanic.put h) (Or.inl ⟨by rfl, by intro W hW; go_simp⟩) hHeld ?_
    try simp only [Act.put, List.setIfInBounds_toArray, List.set_cons_zero, List.set_cons_succ]
    refine wpAnyH_take (i := 4) (oi := ⟨some 25, .move (.tmp 4), 3, _, _, some (2, true)⟩) (v := .int .i64 ((m : Int) + 1)) rfl (by kernel_rfl) (by kernel_rfl) (by kernel_rfl) (fun c d e h => NoPanic.put h) (Or.inl ⟨by rfl, by intro W hW; go_simp⟩) hHeld ?_
    try simp only [Act.put, List.setIfInBounds_toArray, List.set_cons_zero, List.set_cons_succ]
    refine wpAnyH_take (i := 5) (oi := ⟨some 26, .binOp .sub 3 (.tmp 25) (.const (.int .i64 1)) 3, 3, _, _, some (2, true)⟩) (v := .int .i64 m) rfl (by kernel_rfl) (by kernel_rfl) (by kernel_rfl) (fun c d e h => NoPanic.put h) (Or.inl ⟨by rfl, by intro W hW; go_simp; rw [IntKind.wrap_i64]; omega⟩) hHeld ?_
    try simp only [Act.put, List.setIfInBounds_toArray, List.set_cons_zero, List.set_cons_succ]
    refine wpAnyH_take (i := 6) (oi := ⟨some 27, .indexAddr 22 (.tmp 24) (.tmp 26), _, _, _, some (2, true)⟩) (v := .pointer (some ⟨b, o + m * 3, none⟩)) rfl (by kernel_rfl) (by kernel_rfl) (by kernel_rfl) (fun c d e h => NoPanic.put h) (Or.inl ⟨by rfl, by intro W hW; go_simp⟩) hHeld ?_
    try simp only [Act.put, List.setIfInBounds_toArray, List.set_cons_zero, List.set_cons_succ]
    refine wpAnyH_take (i := 7) (oi := ⟨some 28, .fieldAddr 58 (.tmp 27) 0, _, _, _, some (2, true)⟩) (v := .pointer (some ⟨b, o + m * 3, none⟩)) rfl (by kernel_rfl) (by kernel_rfl) (by kernel_rfl) (fun c d e h => NoPanic.put h) (Or.inl ⟨by rfl, by intro W hW; go_simp⟩) hHeld ?_
    try simp only [Act.put, List.setIfInBounds_toArray, List.set_cons_zero, List.set_cons_succ]
    refine wpAnyH_take (i := 8) (oi := ⟨some 29, .load 56 (.tmp 28), 56, _, _, some (2, true)⟩) (v := .agg _) rfl (by kernel_rfl) (by kernel_rfl) (by kernel_rfl) (fun c d e h => NoPanic.put h) (yieldsIf_load_mid rfl _ _ rfl (b) (o + m * 3) rfl _ _ LZ.out rfl rfl (by kernel_rfl)) hHeld ?_
    try simp only [Act.put, List.setIfInBounds_toArray, List.set_cons_zero, List.set_cons_succ]
    refine wpAnyH_take (i := 9) (oi := ⟨some 30, .fieldAddr 58 (.tmp 5) 0, _, _, _, some (2, true)⟩) (v := .pointer (some ⟨wr.heap.size, 0, none⟩)) rfl (by kernel_rfl) (by kernel_rfl) (by kernel_rfl) (fun c d e h => NoPanic.put h) (Or.inl ⟨by rfl, by intro W hW; go_simp⟩) hHeld ?_
    try simp only [Act.put, List.setIfInBounds_toArray, List.set_cons_zero, List.set_cons_succ]
    refine wpAnyH_take (i := 10) (oi := ⟨some 31, .load 56 (.tmp 30), 56, _, _, some (2, true)⟩) (v := .agg _) rfl (by kernel_rfl) (by kernel_rfl) (by kernel_rfl) (fun c d e h => NoPanic.put h) (yieldsIf_load_mid rfl _ _ rfl (wr.heap.size) (0) rfl _ _ LY.out rfl rfl (by kernel_rfl)) hHeld ?_
    try simp only [Act.put, List.setIfInBounds_toArray, List.set_cons_zero, List.set_cons_succ]
    refine wpAnyH_ready (rs := [11]) (by kernel_rfl) (by simp) ?_
    refine AllReadyH.cons (o := ⟨some 32, .call { callee := .value (.func 126), args := #[.tmp 29, .tmp 31], argTypes := #[56, 56] }, 4, _, _, some (2, true)⟩) rfl (fun K hK => ?_) AllReadyH.nil
    go_simp
    go_at_call 126
    refine (addr_less _ _ _ _ _).mono ?_
    rintro u w3 ⟨rfl, hb3⟩
    refine hK.out _ _ (Below.next hHeld hb3 hHeld.size) (fun hHeld => ?_)
    clear hK K
    try simp only [Act.put, List.setIfInBounds_toArray, List.set_cons_zero, List.set_cons_succ]
    have HB3 := Lib.hid (HB2.out.trans (hHeld.mono HB2.out.size))
    have K3 := Lib.hid (K2.out.below_ hHeld)
    clear x0 x1 x2
    cases hls : lessB z.at_ y.at_ with
    | false =>
      have HY := Lib.hid (show entOneE (prevAt l (m + 1)) y = 12 by rw [HO.out, if_pos hls])
      have hls' : lessB ⟨z.at_.col, z.at_.row⟩ ⟨y.at_.col, y.at_.row⟩ = false := hls
      try rw [hls']
      refine wpAnyH_take (i := 12) (oi := ⟨some 33, .unOp .not 4 (.tmp 32), 4, _, _, some (2, true)⟩) (v := .bool true) rfl (by kernel_rfl) (by kernel_rfl) (by kernel_rfl) (fun c d e h => NoPanic.put h) (Or.inl ⟨by rfl, by intro W hW; go_simp⟩) hHeld ?_
      try simp only [Act.put, List.setIfInBounds_toArray, List.set_cons_zero, List.set_cons_succ]
      refine wpAnyH_take (i := 13) (oi := ⟨some 34, .pick (.tmp 23) (.tmp 33) (.const (.bool false)), 4, _, _, none⟩) (v := .bool true) rfl (by kernel_rfl) (by kernel_rfl) (by kernel_rfl) (fun c d e h => NoPanic.put h) (Or.inl ⟨by rfl, by intro W hW; go_simp⟩) hHeld ?_
      try simp only [Act.put, List.setIfInBounds_toArray, List.set_cons_zero, List.set_cons_succ]
      refine wpAnyH_done (by kernel_rfl) ?_ _
      refine NoPanic.normal ?_
      clear hHeld
      go_wp2
      go_ret2
      exact ⟨_, by rw [HE.out (by rw [HY.out]; decide), HY.out]; rfl, HB3.out⟩
    | true =>
    have HO2 := Lib.hid (HO.out.trans (if_neg (by rw [hls]; simp)))
    have hls' : lessB ⟨z.at_.col, z.at_.row⟩ ⟨y.at_.col, y.at_.row⟩ = true := hls
    try rw [hls']
    refine wpAnyH_take (i := 12) (oi := ⟨some 33, .unOp .not 4 (.tmp 32), 4, _, _, some (2, true)⟩) (v := .bool false) rfl (by kernel_rfl) (by kernel_rfl) (by kernel_rfl) (fun c d e h => NoPanic.put h) (Or.inl ⟨by rfl, by intro W hW; go_simp⟩) hHeld ?_
    try simp only [Act.put, List.setIfInBounds_toArray, List.set_cons_zero, List.set_cons_succ]
    refine wpAnyH_take (i := 13) (oi := ⟨some 34, .pick (.tmp 23) (.tmp 33) (.const (.bool false)), 4, _, _, none⟩) (v := .bool false) rfl (by kernel_rfl) (by kernel_rfl) (by kernel_rfl) (fun c d e h => NoPanic.put h) (Or.inl ⟨by rfl, by intro W hW; go_simp⟩) hHeld ?_
    try simp only [Act.put, List.setIfInBounds_toArray, List.set_cons_zero, List.set_cons_succ]
    refine wpAnyH_done (by kernel_rfl) ?_ _
    refine NoPanic.normal ?_
    clear hHeld LZ LY HO
    have x2 : w3.cell? ⟨wr.heap.size, 2, none⟩ = some (str y.input) := K3.out.cell 2
    by_cases hin : y.input = []
    · have HY := Lib.hid (show entOneE (prevAt l (m + 1)) y = 2 from HO2.out.trans (if_pos hin))
      have bi : (y.input == ([] : List UInt8)) = true := by simp [hin]
      clear hin
      go_wp2
      go_ret2
      exact ⟨_, by rw [HE.out (by rw [HY.out]; decide), HY.out]; rfl, HB3.out⟩
    have bi : (y.input == ([] : List UInt8)) = false := by simpa using hin
    have HY := Lib.hid (HO2.out.trans (if_neg hin))
    clear hin
    go_wp2_with fail
    refine (of_any y.input _ HIN.out (HW.out.below (HB3.out.mono (Nat.le_refl _)))).mono ?_
    rintro u w5 ⟨f, kk, n, x, A5, l5, c5, p5, rfl, hb5⟩
    have HB5 := Lib.hid (Below.next (HB3.out) hb5 (HB3.out).size)
    have HB6 := Lib.hid (HB5.out.alloc HB5.out.size (.cells #[.bool f, .int .u8 kk, .int .i64 n, str x, .slice A5 l5 c5] 192))
    clear hb5
    by_cases he : ofE y.input = 0
    · have be : (ofE y.input != 0) = false := by simpa using he
      have HZ := Lib.hid (HY.out.trans he)
      clear he
      go_wp2
      exact ⟨⟨(m + 1) + 1, by omega, by go_num, HB6.out, by rw [HF.out, HD.out, HZ.out]; rfl⟩, by simp [intOf]; omega⟩
    · have be : (ofE y.input != 0) = true := by simpa using he
      have HN := Lib.hid (show entOneE (prevAt l (m + 1)) y ≠ 0 by rw [HY.out]; exact he)
      clear he
      go_wp2
      go_ret2
      exact ⟨_, by rw [HE.out HN.out, HY.out]; rfl, HB6.out⟩
end Go.Proofs.YtamcgggmfghljaaGreatDoor
