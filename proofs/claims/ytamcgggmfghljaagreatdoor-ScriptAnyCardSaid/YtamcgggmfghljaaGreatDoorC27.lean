/- Layer 11 (program): the tries of constant, at any text. · Layer 11 (program): what an input means that is no formula (printed by tools/gen_constg.py · Layer 11 (program): what "9" means. · Layer 11 (program): what "9" means; a list of one entry "9", checked. -/
import Derived.Deep.QuietTactic
import Derived.BigQuiet
import Derived.Test.YtamcgggmfghljaaGreatDoorC26
set_option maxRecDepth 100000
set_option maxHeartbeats 8000000
namespace Go.Proofs.YtamcgggmfghljaaGreatDoor
open Go.RowKit
/-- What a try does at an input. -/
def TryFor (inp : Bytes) (K : Nat) : Prop := txtE inp = 0 → inp.length ≤ 1000000 → ∀ (W : World) (g : Nat), W.cell? ⟨g, 0, none⟩ = some (str inp) → g < W.heap.size → Words W →
  Calls Tryz.prog K #[.pointer (some ⟨g, 0, none⟩)] W fun u w' => ∃ (k n : Int) (s : Bytes) (b : Bool), u = .returned (.tuple #[.agg #[.int .u8 k, .int .i64 n, str s], .bool b]) ∧ Below W.heap.size W w'
theorem tryg_1 (inp : Bytes) : TryFor inp 212 := by
  intro hp hl w g hc hg hw
  clear hw hp
  cases h0 : (inp == ([] : List UInt8)) with
  | true =>
    go_enter Tryz.func212, Tryz.ntmps212
    go_wp2
    go_region
    all_goals
      go_wp2
      refine bodyPost_ret (v := .tuple #[.agg #[.int .u8 0, .int .i64 0, str []], .bool true]) (by simp (maxDischargeDepth := 9) [results, Tryz.results212, go_sem]) rfl ?_
      exact ⟨_, _, _, _, rfl, by go_grown⟩
  | false =>
    go_enter Tryz.func212, Tryz.ntmps212
    go_wp2
    go_region
    all_goals
      go_wp2
      refine bodyPost_ret (v := .tuple #[.agg #[.int .u8 0, .int .i64 0, str []], .bool false]) (by simp (maxDischargeDepth := 9) [results, Tryz.results212, go_sem]) rfl ?_
      exact ⟨_, _, _, _, rfl, by go_grown⟩
theorem tryg_2 (inp : Bytes) : TryFor inp 213 := by
  intro hp hl w g hc hg hw
  clear hw hp
  go_enter Tryz.func213, Tryz.ntmps213
  go_wp2_with fail
  refine (cut_prefix inp [39] _ hl (by decide)).mono ?_
  rintro e w1 ⟨rfl, rfl⟩
  generalize cutB inp [39] = x
  generalize ([39] : Bytes).isPrefixOf inp = y
  go_wp2
  refine bodyPost_ret (v := .tuple #[.agg #[.int .u8 3, .int .i64 0, str x], .bool y]) (by simp (maxDischargeDepth := 9) [results, Tryz.results213, go_sem]) rfl ?_
  exact ⟨_, _, _, _, rfl, by go_grown⟩
theorem tryg_3 (inp : Bytes) : TryFor inp 214 := by
  intro hp hl w g hc hg hw
  clear hw
  obtain ⟨k, m, hk⟩ := boolV_form inp
  have HK := Lib.hid hk
  clear hk
  go_enter Tryz.func214, Tryz.ntmps214
  go_wp2_with fail
  refine (tobool_any _ _ hp hl).mono ?_
  rintro e w1 ⟨rfl, hb1⟩
  have hz1 := hb1.size
  try simp at hz1
  have hB1 : Below w.heap.size w w1 := Below.next (by go_grown) hb1 (by first | (simp; done) | (simp; omega) | omega)
  have hc1_0 : ∀ o, w1.cell? ⟨w.heap.size, o, none⟩ = _ := fun o => hb1.cell (p := ⟨w.heap.size, o, none⟩) (by first | (simp; done) | (simp; omega) | omega)
  have hl1_0 : w.heap.size < w1.heap.size := by omega
  have hm1_0 : w.heap.size ≤ w1.heap.size := by omega
  have hn1_0 : w.heap.size ≤ w1.heap.size + 1 := by omega
  have ho1_0 : w.heap.size ≤ w1.heap.size + 1 + 1 := by omega
  have hf1_0 : ∀ o, w1.frozen? ⟨w.heap.size, o, none⟩ = _ := fun o => hb1.frozen (p := ⟨w.heap.size, o, none⟩) (by first | (simp; done) | (simp; omega) | omega)
  rw [HK.out]
  go_wp2
  go_region
  all_goals
    go_wp2
    refine bodyPost_ret (v := .tuple #[.agg #[.int .u8 k, .int .i64 m, str []], .bool (k == 2)]) (by simp (maxDischargeDepth := 9) [results, Tryz.results214, go_sem, hc1_0, hl1_0]) rfl ?_
    exact ⟨_, _, _, _, rfl, by go_grown⟩
theorem tryg_4 (inp : Bytes) : TryFor inp 216 := by
  intro hp hl w g hc hg hw
  have HW := Lib.hid hw
  clear hw hp
  go_enter Tryz.func216, Tryz.ntmps216
  go_wp2_with fail
  refine (code_any inp _ hl (HW.out.below (by go_grown))).mono ?_
  rintro e w1 ⟨c, m, rfl, hb1⟩
  have hz1 := hb1.size
  simp at hz1
  have hc1 : ∀ o, w1.cell? ⟨w.heap.size, o, none⟩ = _ := fun o => hb1.cell (p := ⟨w.heap.size, o, none⟩) (by simp)
  have hf1 : ∀ o, w1.frozen? ⟨w.heap.size, o, none⟩ = _ := fun o => hb1.frozen (p := ⟨w.heap.size, o, none⟩) (by simp)
  have HB1 := Lib.hid (show Below w.heap.size w w1 from Below.next (by go_grown) hb1 (by simp))
  clear hb1
  go_wp2_with fail
  refine (fail_any c _).mono ?_
  rintro e w2 ⟨q, rfl, hb2⟩
  have hz2 := hb2.size
  have hc2 : ∀ o, w2.cell? ⟨w.heap.size, o, none⟩ = _ := fun o => (hb2.cell (p := ⟨w.heap.size, o, none⟩) (by simp; omega)).trans (hc1 o)
  have hf2 : ∀ o, w2.frozen? ⟨w.heap.size, o, none⟩ = _ := fun o => (hb2.frozen (p := ⟨w.heap.size, o, none⟩) (by simp; omega)).trans (hf1 o)
  have HB2 := Lib.hid (show Below w.heap.size w w2 from Below.next HB1.out hb2 HB1.out.size)
  have hl2 : w.heap.size < w2.heap.size := by omega
  clear hb2 hc1 hf1
  go_wp2
  · skip
    refine bodyPost_ret (v := .tuple #[.agg #[.int .u8 4, .int .i64 q, str []], .bool (decide (c ≤ 5))]) (by simp (maxDischargeDepth := 9) [results, Tryz.results216, go_sem, hc2]) rfl ?_
    exact ⟨_, _, _, _, rfl, Below.setCell (Below.setCell (Below.setCell HB2.out (Nat.le_refl _) _) (Nat.le_refl _) _) (Nat.le_refl _) _⟩
  · skip
    refine bodyPost_ret (v := .tuple #[.agg #[.int .u8 4, .int .i64 q, str []], .bool false]) (by simp (maxDischargeDepth := 9) [results, Tryz.results216, go_sem, hc2]) rfl ?_
    exact ⟨_, _, _, _, rfl, Below.setCell (Below.setCell (Below.setCell HB2.out (Nat.le_refl _) _) (Nat.le_refl _) _) (Nat.le_refl _) _⟩
theorem parseD_ne (s : Bytes) : (parseD s).1 ≠ -9223372036854775808 := by
  unfold parseD
  split
  · simp
  · split
    · simp
    · split
      · simp
      · rename_i h
        unfold mostN at h
        split <;> simp only <;> omega
theorem tryg_5 (inp : Bytes) : TryFor inp 219 := by
  intro hp hl w g hc hg hw
  clear hw hp
  have hne := parseD_ne inp
  by_cases h3 : (parseD inp).2 = 3
  · skip
    go_enter Tryz.func219, Tryz.ntmps219
    go_wp2_with fail
    refine (decP_any inp _ hl).mono ?_
    rintro e w1 ⟨rfl, hb1⟩
    have hz1 := hb1.size
    try simp at hz1
    have hB1 : Below w.heap.size w w1 := Below.next (by go_grown) hb1 (by first | (simp; done) | (simp; omega) | omega)
    have hc1_0 : ∀ o, w1.cell? ⟨w.heap.size, o, none⟩ = _ := fun o => hb1.cell (p := ⟨w.heap.size, o, none⟩) (by first | (simp; done) | (simp; omega) | omega)
    have hl1_0 : w.heap.size < w1.heap.size := by omega
    have hm1_0 : w.heap.size ≤ w1.heap.size := by omega
    have hn1_0 : w.heap.size ≤ w1.heap.size + 1 := by omega
    have ho1_0 : w.heap.size ≤ w1.heap.size + 1 + 1 := by omega
    have hf1_0 : ∀ o, w1.frozen? ⟨w.heap.size, o, none⟩ = _ := fun o => hb1.frozen (p := ⟨w.heap.size, o, none⟩) (by first | (simp; done) | (simp; omega) | omega)
    have t3 : ((parseD inp).2 == 3) = true := by simpa using h3
    go_wp2_with fail
    refine (fail_any 3 _).mono ?_
    rintro e w2 ⟨q, rfl, hb2⟩
    have hz2 := hb2.size
    have HB2 := Lib.hid (show Below w.heap.size w w2 from Below.next hB1 hb2 hB1.size)
    have hc2 : ∀ o, w2.cell? ⟨w.heap.size, o, none⟩ = _ := fun o => (hb2.cell (p := ⟨w.heap.size, o, none⟩) (by omega)).trans (hc1_0 o)
    have hf2 : ∀ o, w2.frozen? ⟨w.heap.size, o, none⟩ = _ := fun o => (hb2.frozen (p := ⟨w.heap.size, o, none⟩) (by omega)).trans (hf1_0 o)
    have hl2 : w.heap.size < w2.heap.size := by omega
    clear hb2
    go_wp2
    refine bodyPost_ret (v := .tuple #[.agg #[.int .u8 4, .int .i64 q, str []], .bool true]) (by simp (maxDischargeDepth := 9) [results, Tryz.results219, go_sem, hc2]) rfl ?_
    exact ⟨_, _, _, _, rfl, Below.setCell (Below.setCell (Below.setCell HB2.out (Nat.le_refl _) _) (Nat.le_refl _) _) (Nat.le_refl _) _⟩
  · skip
    go_enter Tryz.func219, Tryz.ntmps219
    go_wp2_with fail
    refine (decP_any inp _ hl).mono ?_
    rintro e w1 ⟨rfl, hb1⟩
    have hz1 := hb1.size
    try simp at hz1
    have hB1 : Below w.heap.size w w1 := Below.next (by go_grown) hb1 (by first | (simp; done) | (simp; omega) | omega)
    have hc1_0 : ∀ o, w1.cell? ⟨w.heap.size, o, none⟩ = _ := fun o => hb1.cell (p := ⟨w.heap.size, o, none⟩) (by first | (simp; done) | (simp; omega) | omega)
    have hl1_0 : w.heap.size < w1.heap.size := by omega
    have hm1_0 : w.heap.size ≤ w1.heap.size := by omega
    have hn1_0 : w.heap.size ≤ w1.heap.size + 1 := by omega
    have ho1_0 : w.heap.size ≤ w1.heap.size + 1 + 1 := by omega
    have hf1_0 : ∀ o, w1.frozen? ⟨w.heap.size, o, none⟩ = _ := fun o => hb1.frozen (p := ⟨w.heap.size, o, none⟩) (by first | (simp; done) | (simp; omega) | omega)
    have t3 : ((parseD inp).2 == 3) = false := by simpa using h3
    generalize (parseD inp).1 = pn at *
    generalize (parseD inp).2 = pe at *
    go_wp2_with fail
    refine (make_any pn _ hne).mono ?_
    rintro e w2 ⟨rfl, hb2⟩
    have hz2 := hb2.size
    try simp at hz2
    have hB2 : Below w.heap.size w w2 := Below.next (by go_grown) hb2 (by first | (simp; done) | (simp; omega) | omega)
    have hc2_0 : ∀ o, w2.cell? ⟨w.heap.size, o, none⟩ = _ := fun o => hb2.cell (p := ⟨w.heap.size, o, none⟩) (by first | (simp; done) | (simp; omega) | omega)
    have hl2_0 : w.heap.size < w2.heap.size := by omega
    have hm2_0 : w.heap.size ≤ w2.heap.size := by omega
    have hn2_0 : w.heap.size ≤ w2.heap.size + 1 := by omega
    have ho2_0 : w.heap.size ≤ w2.heap.size + 1 + 1 := by omega
    have hf2_0 : ∀ o, w2.frozen? ⟨w.heap.size, o, none⟩ = _ := fun o => hb2.frozen (p := ⟨w.heap.size, o, none⟩) (by first | (simp; done) | (simp; omega) | omega)
    cases t0 : (pe == 0)
    · go_wp2
      refine bodyPost_ret (v := .tuple #[.agg #[.int .u8 1, .int .i64 pn, str []], .bool false]) (by simp (maxDischargeDepth := 9) [results, Tryz.results219, go_sem, hc1_0, hc2_0]) rfl ?_
      exact ⟨_, _, _, _, rfl, by go_grown⟩
    · go_wp2
      refine bodyPost_ret (v := .tuple #[.agg #[.int .u8 1, .int .i64 pn, str []], .bool true]) (by simp (maxDischargeDepth := 9) [results, Tryz.results219, go_sem, hc1_0, hc2_0]) rfl ?_
      exact ⟨_, _, _, _, rfl, by go_grown⟩
theorem constant_any (inp : Bytes) (w : World) (hp : txtE inp = 0) (hl : inp.length ≤ 1000000) (hw : Words w) :
    Calls Tryz.prog 196 #[str inp] w fun u w' => ∃ k n : Int, ∃ s : Bytes, u = .returned (vVal k n s) ∧ Below w.heap.size w w' := by
  have hmf : ∀ (fn : Fn) (first cap : Array Value) (w : World), (Instr.makeFunc fn first cap).run Tryz.prog w = .ok (.func fn first cap) w := fun _ _ _ _ => rfl
  go_enter Tryz.func196, Tryz.ntmps196
  go_wp2
  go_step3
  go_wp2
  go_step3
  go_wp2
  have kA : Blk (((w.alloc (.cells #[str inp] 9)).alloc (.cells #[.int .u8 0, .int .i64 0, str []] 189)).alloc (.cells #[.func (.func 212) #[] #[.pointer (some ⟨w.heap.size, 0, none⟩)], .func (.func 213) #[] #[.pointer (some ⟨w.heap.size, 0, none⟩)], .func (.func 214) #[] #[.pointer (some ⟨w.heap.size, 0, none⟩)], .func (.func 216) #[] #[.pointer (some ⟨w.heap.size, 0, none⟩)], .func (.func 219) #[] #[.pointer (some ⟨w.heap.size, 0, none⟩)]] 223)) w.heap.size 9 #[str inp] := ((Blk.new w _ _).alloc _).alloc _
  have kB : Blk (((w.alloc (.cells #[str inp] 9)).alloc (.cells #[.int .u8 0, .int .i64 0, str []] 189)).alloc (.cells #[.func (.func 212) #[] #[.pointer (some ⟨w.heap.size, 0, none⟩)], .func (.func 213) #[] #[.pointer (some ⟨w.heap.size, 0, none⟩)], .func (.func 214) #[] #[.pointer (some ⟨w.heap.size, 0, none⟩)], .func (.func 216) #[] #[.pointer (some ⟨w.heap.size, 0, none⟩)], .func (.func 219) #[] #[.pointer (some ⟨w.heap.size, 0, none⟩)]] 223)) (w.heap.size + 1) 189 #[.int .u8 0, .int .i64 0, str []] := by
    have := (Blk.new (w.alloc (.cells #[str inp] 9)) 189 #[.int .u8 0, .int .i64 0, str []]).alloc (.cells #[.func (.func 212) #[] #[.pointer (some ⟨w.heap.size, 0, none⟩)], .func (.func 213) #[] #[.pointer (some ⟨w.heap.size, 0, none⟩)], .func (.func 214) #[] #[.pointer (some ⟨w.heap.size, 0, none⟩)], .func (.func 216) #[] #[.pointer (some ⟨w.heap.size, 0, none⟩)], .func (.func 219) #[] #[.pointer (some ⟨w.heap.size, 0, none⟩)]] 223)
    simpa using this
  have kC : Blk (((w.alloc (.cells #[str inp] 9)).alloc (.cells #[.int .u8 0, .int .i64 0, str []] 189)).alloc (.cells #[.func (.func 212) #[] #[.pointer (some ⟨w.heap.size, 0, none⟩)], .func (.func 213) #[] #[.pointer (some ⟨w.heap.size, 0, none⟩)], .func (.func 214) #[] #[.pointer (some ⟨w.heap.size, 0, none⟩)], .func (.func 216) #[] #[.pointer (some ⟨w.heap.size, 0, none⟩)], .func (.func 219) #[] #[.pointer (some ⟨w.heap.size, 0, none⟩)]] 223)) (w.heap.size + 1 + 1) 223 #[.func (.func 212) #[] #[.pointer (some ⟨w.heap.size, 0, none⟩)], .func (.func 213) #[] #[.pointer (some ⟨w.heap.size, 0, none⟩)], .func (.func 214) #[] #[.pointer (some ⟨w.heap.size, 0, none⟩)], .func (.func 216) #[] #[.pointer (some ⟨w.heap.size, 0, none⟩)], .func (.func 219) #[] #[.pointer (some ⟨w.heap.size, 0, none⟩)]] := by
    have := Blk.new ((w.alloc (.cells #[str inp] 9)).alloc (.cells #[.int .u8 0, .int .i64 0, str []] 189)) 223 #[.func (.func 212) #[] #[.pointer (some ⟨w.heap.size, 0, none⟩)], .func (.func 213) #[] #[.pointer (some ⟨w.heap.size, 0, none⟩)], .func (.func 214) #[] #[.pointer (some ⟨w.heap.size, 0, none⟩)], .func (.func 216) #[] #[.pointer (some ⟨w.heap.size, 0, none⟩)], .func (.func 219) #[] #[.pointer (some ⟨w.heap.size, 0, none⟩)]]
    simpa using this
  have bb : Below w.heap.size w (((w.alloc (.cells #[str inp] 9)).alloc (.cells #[.int .u8 0, .int .i64 0, str []] 189)).alloc (.cells #[.func (.func 212) #[] #[.pointer (some ⟨w.heap.size, 0, none⟩)], .func (.func 213) #[] #[.pointer (some ⟨w.heap.size, 0, none⟩)], .func (.func 214) #[] #[.pointer (some ⟨w.heap.size, 0, none⟩)], .func (.func 216) #[] #[.pointer (some ⟨w.heap.size, 0, none⟩)], .func (.func 219) #[] #[.pointer (some ⟨w.heap.size, 0, none⟩)]] 223)) := by go_grown
  have KA := Lib.hid kA
  have KB := Lib.hid kB
  have KC := Lib.hid kC
  have BB := Lib.hid bb
  have HW := Lib.hid hw
  clear kA kB kC bb hw
  go_loopw [4, 15] (fun q i wr => ∃ (k : Int) (a b : Int) (c : Bytes), 0 ≤ k ∧ k ≤ 5 ∧ q = .bool false ∧ i = .int .i64 k ∧ Blk wr w.heap.size 9 #[str inp] ∧ Blk wr (w.heap.size + 1) 189 #[.int .u8 a, .int .i64 b, str c] ∧ Blk wr (w.heap.size + 1 + 1) 223 #[.func (.func 212) #[] #[.pointer (some ⟨w.heap.size, 0, none⟩)], .func (.func 213) #[] #[.pointer (some ⟨w.heap.size, 0, none⟩)], .func (.func 214) #[] #[.pointer (some ⟨w.heap.size, 0, none⟩)], .func (.func 216) #[] #[.pointer (some ⟨w.heap.size, 0, none⟩)], .func (.func 219) #[] #[.pointer (some ⟨w.heap.size, 0, none⟩)]] ∧ Below w.heap.size w wr) (fun _ i _ => 5 - (intOf i).toNat)
  case atStart => exact ⟨0, 0, 0, [], by omega, by omega, rfl, rfl, KA.out, KB.out, KC.out, BB.out⟩
  case round =>
    obtain ⟨k, a, b, c, k0, k5, rfl, rfl, ka, kb, kc, hb⟩ := hrel
    clear KA KB KC BB
    have KA := Lib.hid ka
    have KB := Lib.hid kb
    have KC := Lib.hid kc
    have HB := Lib.hid hb
    have f0 := kc.cell 0
    have f1 := kc.cell 1
    have f2 := kc.cell 2
    have f3 := kc.cell 3
    have f4 := kc.cell 4
    have ca := ka.cell 0
    have la := ka.lt
    have lb := kb.lt
    clear ka kb kc hb
    have e : k = 0 ∨ k = 1 ∨ k = 2 ∨ k = 3 ∨ k = 4 ∨ k = 5 := by omega
    rcases e with rfl | rfl | rfl | rfl | rfl | rfl
    · go_wp2_with fail
      refine (tryg_1 inp hp hl _ _ ca la (HW.out.below (HB.out.mono (Nat.le_refl _)))).mono ?_
      rintro e w1 ⟨k, n, s, q, rfl, hb1⟩
      have KA1 := Lib.hid (KA.out.below_ hb1)
      have KB1 := Lib.hid (KB.out.below_ hb1)
      have KC1 := Lib.hid (KC.out.below_ hb1)
      have HB1 := Lib.hid (Below.trans HB.out (hb1.mono HB.out.size))
      have g0 := KB1.out.cell 0
      have g1 := KB1.out.cell 1
      have g2 := KB1.out.cell 2
      have fr := KB1.out.frozen
      have lb1 := KB1.out.lt
      clear hb1 f0 f1 f2 f3 f4 ca la lb
      cases q
      · go_wp2
        exact ⟨⟨1, k, n, s, by omega, by omega, rfl, rfl, (((KA1.out.far (p := ⟨w.heap.size + 1, 0, none⟩) (by simp; try omega) _).far (p := ⟨w.heap.size + 1, 1, none⟩) (by simp; try omega) _).far (p := ⟨w.heap.size + 1, 2, none⟩) (by simp; try omega) _), ((KB1.out.set_ 0 (.int .u8 k)).set_ 1 (.int .i64 n)).set_ 2 (str s), (((KC1.out.far (p := ⟨w.heap.size + 1, 0, none⟩) (by simp; try omega) _).far (p := ⟨w.heap.size + 1, 1, none⟩) (by simp; try omega) _).far (p := ⟨w.heap.size + 1, 2, none⟩) (by simp; try omega) _), Below.setCell (Below.setCell (Below.setCell HB1.out (by simp) _) (by simp) _) (by simp) _⟩, by simp [intOf]⟩
      · go_wp2
        rw [Exit.noGoto_ret]
        refine bodyPost_ret (v := .agg #[.int .u8 k, .int .i64 n, str s]) (by simp (maxDischargeDepth := 9) [results, Tryz.results196, go_sem, g0, g1, g2]) rfl ?_
        exact ⟨k, n, s, rfl, (Below.setCell (Below.setCell (Below.setCell (Below.setCell (Below.setCell (Below.setCell HB1.out (by simp) _) (by simp) _) (by simp) _) (by simp) _) (by simp) _) (by simp) _)⟩
    · go_wp2_with fail
      refine (tryg_2 inp hp hl _ _ ca la (HW.out.below (HB.out.mono (Nat.le_refl _)))).mono ?_
      rintro e w1 ⟨k, n, s, q, rfl, hb1⟩
      have KA1 := Lib.hid (KA.out.below_ hb1)
      have KB1 := Lib.hid (KB.out.below_ hb1)
      have KC1 := Lib.hid (KC.out.below_ hb1)
      have HB1 := Lib.hid (Below.trans HB.out (hb1.mono HB.out.size))
      have g0 := KB1.out.cell 0
      have g1 := KB1.out.cell 1
      have g2 := KB1.out.cell 2
      have fr := KB1.out.frozen
      have lb1 := KB1.out.lt
      clear hb1 f0 f1 f2 f3 f4 ca la lb
      cases q
      · go_wp2
        exact ⟨⟨2, k, n, s, by omega, by omega, rfl, rfl, (((KA1.out.far (p := ⟨w.heap.size + 1, 0, none⟩) (by simp; try omega) _).far (p := ⟨w.heap.size + 1, 1, none⟩) (by simp; try omega) _).far (p := ⟨w.heap.size + 1, 2, none⟩) (by simp; try omega) _), ((KB1.out.set_ 0 (.int .u8 k)).set_ 1 (.int .i64 n)).set_ 2 (str s), (((KC1.out.far (p := ⟨w.heap.size + 1, 0, none⟩) (by simp; try omega) _).far (p := ⟨w.heap.size + 1, 1, none⟩) (by simp; try omega) _).far (p := ⟨w.heap.size + 1, 2, none⟩) (by simp; try omega) _), Below.setCell (Below.setCell (Below.setCell HB1.out (by simp) _) (by simp) _) (by simp) _⟩, by simp [intOf]⟩
      · go_wp2
        rw [Exit.noGoto_ret]
        refine bodyPost_ret (v := .agg #[.int .u8 k, .int .i64 n, str s]) (by simp (maxDischargeDepth := 9) [results, Tryz.results196, go_sem, g0, g1, g2]) rfl ?_
        exact ⟨k, n, s, rfl, (Below.setCell (Below.setCell (Below.setCell (Below.setCell (Below.setCell (Below.setCell HB1.out (by simp) _) (by simp) _) (by simp) _) (by simp) _) (by simp) _) (by simp) _)⟩
    · go_wp2_with fail
      refine (tryg_3 inp hp hl _ _ ca la (HW.out.below (HB.out.mono (Nat.le_refl _)))).mono ?_
      rintro e w1 ⟨k, n, s, q, rfl, hb1⟩
      have KA1 := Lib.hid (KA.out.below_ hb1)
      have KB1 := Lib.hid (KB.out.below_ hb1)
      have KC1 := Lib.hid (KC.out.below_ hb1)
      have HB1 := Lib.hid (Below.trans HB.out (hb1.mono HB.out.size))
      have g0 := KB1.out.cell 0
      have g1 := KB1.out.cell 1
      have g2 := KB1.out.cell 2
      have fr := KB1.out.frozen
      have lb1 := KB1.out.lt
      clear hb1 f0 f1 f2 f3 f4 ca la lb
      cases q
      · go_wp2
        exact ⟨⟨3, k, n, s, by omega, by omega, rfl, rfl, (((KA1.out.far (p := ⟨w.heap.size + 1, 0, none⟩) (by simp; try omega) _).far (p := ⟨w.heap.size + 1, 1, none⟩) (by simp; try omega) _).far (p := ⟨w.heap.size + 1, 2, none⟩) (by simp; try omega) _), ((KB1.out.set_ 0 (.int .u8 k)).set_ 1 (.int .i64 n)).set_ 2 (str s), (((KC1.out.far (p := ⟨w.heap.size + 1, 0, none⟩) (by simp; try omega) _).far (p := ⟨w.heap.size + 1, 1, none⟩) (by simp; try omega) _).far (p := ⟨w.heap.size + 1, 2, none⟩) (by simp; try omega) _), Below.setCell (Below.setCell (Below.setCell HB1.out (by simp) _) (by simp) _) (by simp) _⟩, by simp [intOf]⟩
      · go_wp2
        rw [Exit.noGoto_ret]
        refine bodyPost_ret (v := .agg #[.int .u8 k, .int .i64 n, str s]) (by simp (maxDischargeDepth := 9) [results, Tryz.results196, go_sem, g0, g1, g2]) rfl ?_
        exact ⟨k, n, s, rfl, (Below.setCell (Below.setCell (Below.setCell (Below.setCell (Below.setCell (Below.setCell HB1.out (by simp) _) (by simp) _) (by simp) _) (by simp) _) (by simp) _) (by simp) _)⟩
    · go_wp2_with fail
      refine (tryg_4 inp hp hl _ _ ca la (HW.out.below (HB.out.mono (Nat.le_refl _)))).mono ?_
      rintro e w1 ⟨k, n, s, q, rfl, hb1⟩
      have KA1 := Lib.hid (KA.out.below_ hb1)
      have KB1 := Lib.hid (KB.out.below_ hb1)
      have KC1 := Lib.hid (KC.out.below_ hb1)
      have HB1 := Lib.hid (Below.trans HB.out (hb1.mono HB.out.size))
      have g0 := KB1.out.cell 0
      have g1 := KB1.out.cell 1
      have g2 := KB1.out.cell 2
      have fr := KB1.out.frozen
      have lb1 := KB1.out.lt
      clear hb1 f0 f1 f2 f3 f4 ca la lb
      cases q
      · go_wp2
        exact ⟨⟨4, k, n, s, by omega, by omega, rfl, rfl, (((KA1.out.far (p := ⟨w.heap.size + 1, 0, none⟩) (by simp; try omega) _).far (p := ⟨w.heap.size + 1, 1, none⟩) (by simp; try omega) _).far (p := ⟨w.heap.size + 1, 2, none⟩) (by simp; try omega) _), ((KB1.out.set_ 0 (.int .u8 k)).set_ 1 (.int .i64 n)).set_ 2 (str s), (((KC1.out.far (p := ⟨w.heap.size + 1, 0, none⟩) (by simp; try omega) _).far (p := ⟨w.heap.size + 1, 1, none⟩) (by simp; try omega) _).far (p := ⟨w.heap.size + 1, 2, none⟩) (by simp; try omega) _), Below.setCell (Below.setCell (Below.setCell HB1.out (by simp) _) (by simp) _) (by simp) _⟩, by simp [intOf]⟩
      · go_wp2
        rw [Exit.noGoto_ret]
        refine bodyPost_ret (v := .agg #[.int .u8 k, .int .i64 n, str s]) (by simp (maxDischargeDepth := 9) [results, Tryz.results196, go_sem, g0, g1, g2]) rfl ?_
        exact ⟨k, n, s, rfl, (Below.setCell (Below.setCell (Below.setCell (Below.setCell (Below.setCell (Below.setCell HB1.out (by simp) _) (by simp) _) (by simp) _) (by simp) _) (by simp) _) (by simp) _)⟩
    · go_wp2_with fail
      refine (tryg_5 inp hp hl _ _ ca la (HW.out.below (HB.out.mono (Nat.le_refl _)))).mono ?_
      rintro e w1 ⟨k, n, s, q, rfl, hb1⟩
      have KA1 := Lib.hid (KA.out.below_ hb1)
      have KB1 := Lib.hid (KB.out.below_ hb1)
      have KC1 := Lib.hid (KC.out.below_ hb1)
      have HB1 := Lib.hid (Below.trans HB.out (hb1.mono HB.out.size))
      have g0 := KB1.out.cell 0
      have g1 := KB1.out.cell 1
      have g2 := KB1.out.cell 2
      have fr := KB1.out.frozen
      have lb1 := KB1.out.lt
      clear hb1 f0 f1 f2 f3 f4 ca la lb
      cases q
      · go_wp2
        exact ⟨⟨5, k, n, s, by omega, by omega, rfl, rfl, (((KA1.out.far (p := ⟨w.heap.size + 1, 0, none⟩) (by simp; try omega) _).far (p := ⟨w.heap.size + 1, 1, none⟩) (by simp; try omega) _).far (p := ⟨w.heap.size + 1, 2, none⟩) (by simp; try omega) _), ((KB1.out.set_ 0 (.int .u8 k)).set_ 1 (.int .i64 n)).set_ 2 (str s), (((KC1.out.far (p := ⟨w.heap.size + 1, 0, none⟩) (by simp; try omega) _).far (p := ⟨w.heap.size + 1, 1, none⟩) (by simp; try omega) _).far (p := ⟨w.heap.size + 1, 2, none⟩) (by simp; try omega) _), Below.setCell (Below.setCell (Below.setCell HB1.out (by simp) _) (by simp) _) (by simp) _⟩, by simp [intOf]⟩
      · go_wp2
        rw [Exit.noGoto_ret]
        refine bodyPost_ret (v := .agg #[.int .u8 k, .int .i64 n, str s]) (by simp (maxDischargeDepth := 9) [results, Tryz.results196, go_sem, g0, g1, g2]) rfl ?_
        exact ⟨k, n, s, rfl, (Below.setCell (Below.setCell (Below.setCell (Below.setCell (Below.setCell (Below.setCell HB1.out (by simp) _) (by simp) _) (by simp) _) (by simp) _) (by simp) _) (by simp) _)⟩
    · have g0 := KB.out.cell 0
      have g1 := KB.out.cell 1
      have g2 := KB.out.cell 2
      have fr := KB.out.frozen
      clear f0 f1 f2 f3 f4
      go_wp2
      rw [Exit.noGoto_ret]
      refine bodyPost_ret (v := .agg #[.int .u8 3, .int .i64 0, str inp]) (by simp (maxDischargeDepth := 9) [results, Tryz.results196, go_sem, g0, g1, g2]) rfl ?_
      exact ⟨3, 0, inp, rfl, (Below.setCell (Below.setCell (Below.setCell (Below.setCell (Below.setCell (Below.setCell HB.out (by simp) _) (by simp) _) (by simp) _) (by simp) _) (by simp) _) (by simp) _)⟩
theorem constant_9 (w : World) (hw : Words w) :
    Calls Tryz.prog 196 #[str [57]] w fun u w' => ∃ k n : Int, ∃ s : Bytes, u = .returned (vVal k n s) ∧ Below w.heap.size w w' := by
  have hmf : ∀ (fn : Fn) (first cap : Array Value) (w : World), (Instr.makeFunc fn first cap).run Tryz.prog w = .ok (.func fn first cap) w := fun _ _ _ _ => rfl
  go_enter Tryz.func196, Tryz.ntmps196
  go_wp2
  go_step3
  go_wp2
  go_step3
  go_wp2
  have kA : Blk (((w.alloc (.cells #[str [57]] 9)).alloc (.cells #[.int .u8 0, .int .i64 0, str []] 189)).alloc (.cells #[.func (.func 212) #[] #[.pointer (some ⟨w.heap.size, 0, none⟩)], .func (.func 213) #[] #[.pointer (some ⟨w.heap.size, 0, none⟩)], .func (.func 214) #[] #[.pointer (some ⟨w.heap.size, 0, none⟩)], .func (.func 216) #[] #[.pointer (some ⟨w.heap.size, 0, none⟩)], .func (.func 219) #[] #[.pointer (some ⟨w.heap.size, 0, none⟩)]] 223)) w.heap.size 9 #[str [57]] := ((Blk.new w _ _).alloc _).alloc _
  have kB : Blk (((w.alloc (.cells #[str [57]] 9)).alloc (.cells #[.int .u8 0, .int .i64 0, str []] 189)).alloc (.cells #[.func (.func 212) #[] #[.pointer (some ⟨w.heap.size, 0, none⟩)], .func (.func 213) #[] #[.pointer (some ⟨w.heap.size, 0, none⟩)], .func (.func 214) #[] #[.pointer (some ⟨w.heap.size, 0, none⟩)], .func (.func 216) #[] #[.pointer (some ⟨w.heap.size, 0, none⟩)], .func (.func 219) #[] #[.pointer (some ⟨w.heap.size, 0, none⟩)]] 223)) (w.heap.size + 1) 189 #[.int .u8 0, .int .i64 0, str []] := by
    have := (Blk.new (w.alloc (.cells #[str [57]] 9)) 189 #[.int .u8 0, .int .i64 0, str []]).alloc (.cells #[.func (.func 212) #[] #[.pointer (some ⟨w.heap.size, 0, none⟩)], .func (.func 213) #[] #[.pointer (some ⟨w.heap.size, 0, none⟩)], .func (.func 214) #[] #[.pointer (some ⟨w.heap.size, 0, none⟩)], .func (.func 216) #[] #[.pointer (some ⟨w.heap.size, 0, none⟩)], .func (.func 219) #[] #[.pointer (some ⟨w.heap.size, 0, none⟩)]] 223)
    simpa using this
  have kC : Blk (((w.alloc (.cells #[str [57]] 9)).alloc (.cells #[.int .u8 0, .int .i64 0, str []] 189)).alloc (.cells #[.func (.func 212) #[] #[.pointer (some ⟨w.heap.size, 0, none⟩)], .func (.func 213) #[] #[.pointer (some ⟨w.heap.size, 0, none⟩)], .func (.func 214) #[] #[.pointer (some ⟨w.heap.size, 0, none⟩)], .func (.func 216) #[] #[.pointer (some ⟨w.heap.size, 0, none⟩)], .func (.func 219) #[] #[.pointer (some ⟨w.heap.size, 0, none⟩)]] 223)) (w.heap.size + 1 + 1) 223 #[.func (.func 212) #[] #[.pointer (some ⟨w.heap.size, 0, none⟩)], .func (.func 213) #[] #[.pointer (some ⟨w.heap.size, 0, none⟩)], .func (.func 214) #[] #[.pointer (some ⟨w.heap.size, 0, none⟩)], .func (.func 216) #[] #[.pointer (some ⟨w.heap.size, 0, none⟩)], .func (.func 219) #[] #[.pointer (some ⟨w.heap.size, 0, none⟩)]] := by
    have := Blk.new ((w.alloc (.cells #[str [57]] 9)).alloc (.cells #[.int .u8 0, .int .i64 0, str []] 189)) 223 #[.func (.func 212) #[] #[.pointer (some ⟨w.heap.size, 0, none⟩)], .func (.func 213) #[] #[.pointer (some ⟨w.heap.size, 0, none⟩)], .func (.func 214) #[] #[.pointer (some ⟨w.heap.size, 0, none⟩)], .func (.func 216) #[] #[.pointer (some ⟨w.heap.size, 0, none⟩)], .func (.func 219) #[] #[.pointer (some ⟨w.heap.size, 0, none⟩)]]
    simpa using this
  have bb : Below w.heap.size w (((w.alloc (.cells #[str [57]] 9)).alloc (.cells #[.int .u8 0, .int .i64 0, str []] 189)).alloc (.cells #[.func (.func 212) #[] #[.pointer (some ⟨w.heap.size, 0, none⟩)], .func (.func 213) #[] #[.pointer (some ⟨w.heap.size, 0, none⟩)], .func (.func 214) #[] #[.pointer (some ⟨w.heap.size, 0, none⟩)], .func (.func 216) #[] #[.pointer (some ⟨w.heap.size, 0, none⟩)], .func (.func 219) #[] #[.pointer (some ⟨w.heap.size, 0, none⟩)]] 223)) := by go_grown
  have KA := Lib.hid kA
  have KB := Lib.hid kB
  have KC := Lib.hid kC
  have BB := Lib.hid bb
  have HW := Lib.hid hw
  clear kA kB kC bb hw
  go_loopw [4, 15] (fun q i wr => ∃ (k : Int) (a b : Int) (c : Bytes), 0 ≤ k ∧ k ≤ 5 ∧ q = .bool false ∧ i = .int .i64 k ∧ Blk wr w.heap.size 9 #[str [57]] ∧ Blk wr (w.heap.size + 1) 189 #[.int .u8 a, .int .i64 b, str c] ∧ Blk wr (w.heap.size + 1 + 1) 223 #[.func (.func 212) #[] #[.pointer (some ⟨w.heap.size, 0, none⟩)], .func (.func 213) #[] #[.pointer (some ⟨w.heap.size, 0, none⟩)], .func (.func 214) #[] #[.pointer (some ⟨w.heap.size, 0, none⟩)], .func (.func 216) #[] #[.pointer (some ⟨w.heap.size, 0, none⟩)], .func (.func 219) #[] #[.pointer (some ⟨w.heap.size, 0, none⟩)]] ∧ Below w.heap.size w wr) (fun _ i _ => 5 - (intOf i).toNat)
  case atStart => exact ⟨0, 0, 0, [], by omega, by omega, rfl, rfl, KA.out, KB.out, KC.out, BB.out⟩
  case round =>
    obtain ⟨k, a, b, c, k0, k5, rfl, rfl, ka, kb, kc, hb⟩ := hrel
    clear KA KB KC BB
    have KA := Lib.hid ka
    have KB := Lib.hid kb
    have KC := Lib.hid kc
    have HB := Lib.hid hb
    have f0 := kc.cell 0
    have f1 := kc.cell 1
    have f2 := kc.cell 2
    have f3 := kc.cell 3
    have f4 := kc.cell 4
    have ca := ka.cell 0
    have la := ka.lt
    have lb := kb.lt
    clear ka kb kc hb
    have e : k = 0 ∨ k = 1 ∨ k = 2 ∨ k = 3 ∨ k = 4 ∨ k = 5 := by omega
    rcases e with rfl | rfl | rfl | rfl | rfl | rfl
    · go_wp2_with fail
      refine (try_1 _ _ ca la (HW.out.below (HB.out.mono (Nat.le_refl _)))).mono ?_
      rintro e w1 ⟨k, n, s, q, rfl, hb1⟩
      have KA1 := Lib.hid (KA.out.below_ hb1)
      have KB1 := Lib.hid (KB.out.below_ hb1)
      have KC1 := Lib.hid (KC.out.below_ hb1)
      have HB1 := Lib.hid (Below.trans HB.out (hb1.mono HB.out.size))
      have g0 := KB1.out.cell 0
      have g1 := KB1.out.cell 1
      have g2 := KB1.out.cell 2
      have fr := KB1.out.frozen
      have lb1 := KB1.out.lt
      clear hb1 f0 f1 f2 f3 f4 ca la lb
      cases q
      · go_wp2
        exact ⟨⟨1, k, n, s, by omega, by omega, rfl, rfl, (((KA1.out.far (p := ⟨w.heap.size + 1, 0, none⟩) (by simp; try omega) _).far (p := ⟨w.heap.size + 1, 1, none⟩) (by simp; try omega) _).far (p := ⟨w.heap.size + 1, 2, none⟩) (by simp; try omega) _), ((KB1.out.set_ 0 (.int .u8 k)).set_ 1 (.int .i64 n)).set_ 2 (str s), (((KC1.out.far (p := ⟨w.heap.size + 1, 0, none⟩) (by simp; try omega) _).far (p := ⟨w.heap.size + 1, 1, none⟩) (by simp; try omega) _).far (p := ⟨w.heap.size + 1, 2, none⟩) (by simp; try omega) _), Below.setCell (Below.setCell (Below.setCell HB1.out (by simp) _) (by simp) _) (by simp) _⟩, by simp [intOf]⟩
      · go_wp2
        rw [Exit.noGoto_ret]
        refine bodyPost_ret (v := .agg #[.int .u8 k, .int .i64 n, str s]) (by simp (maxDischargeDepth := 9) [results, Tryz.results196, go_sem, g0, g1, g2]) rfl ?_
        exact ⟨k, n, s, rfl, (Below.setCell (Below.setCell (Below.setCell (Below.setCell (Below.setCell (Below.setCell HB1.out (by simp) _) (by simp) _) (by simp) _) (by simp) _) (by simp) _) (by simp) _)⟩
    · go_wp2_with fail
      refine (try_2 _ _ ca la (HW.out.below (HB.out.mono (Nat.le_refl _)))).mono ?_
      rintro e w1 ⟨k, n, s, q, rfl, hb1⟩
      have KA1 := Lib.hid (KA.out.below_ hb1)
      have KB1 := Lib.hid (KB.out.below_ hb1)
      have KC1 := Lib.hid (KC.out.below_ hb1)
      have HB1 := Lib.hid (Below.trans HB.out (hb1.mono HB.out.size))
      have g0 := KB1.out.cell 0
      have g1 := KB1.out.cell 1
      have g2 := KB1.out.cell 2
      have fr := KB1.out.frozen
      have lb1 := KB1.out.lt
      clear hb1 f0 f1 f2 f3 f4 ca la lb
      cases q
      · go_wp2
        exact ⟨⟨2, k, n, s, by omega, by omega, rfl, rfl, (((KA1.out.far (p := ⟨w.heap.size + 1, 0, none⟩) (by simp; try omega) _).far (p := ⟨w.heap.size + 1, 1, none⟩) (by simp; try omega) _).far (p := ⟨w.heap.size + 1, 2, none⟩) (by simp; try omega) _), ((KB1.out.set_ 0 (.int .u8 k)).set_ 1 (.int .i64 n)).set_ 2 (str s), (((KC1.out.far (p := ⟨w.heap.size + 1, 0, none⟩) (by simp; try omega) _).far (p := ⟨w.heap.size + 1, 1, none⟩) (by simp; try omega) _).far (p := ⟨w.heap.size + 1, 2, none⟩) (by simp; try omega) _), Below.setCell (Below.setCell (Below.setCell HB1.out (by simp) _) (by simp) _) (by simp) _⟩, by simp [intOf]⟩
      · go_wp2
        rw [Exit.noGoto_ret]
        refine bodyPost_ret (v := .agg #[.int .u8 k, .int .i64 n, str s]) (by simp (maxDischargeDepth := 9) [results, Tryz.results196, go_sem, g0, g1, g2]) rfl ?_
        exact ⟨k, n, s, rfl, (Below.setCell (Below.setCell (Below.setCell (Below.setCell (Below.setCell (Below.setCell HB1.out (by simp) _) (by simp) _) (by simp) _) (by simp) _) (by simp) _) (by simp) _)⟩
    · go_wp2_with fail
      refine (try_3 _ _ ca la (HW.out.below (HB.out.mono (Nat.le_refl _)))).mono ?_
      rintro e w1 ⟨k, n, s, q, rfl, hb1⟩
      have KA1 := Lib.hid (KA.out.below_ hb1)
      have KB1 := Lib.hid (KB.out.below_ hb1)
      have KC1 := Lib.hid (KC.out.below_ hb1)
      have HB1 := Lib.hid (Below.trans HB.out (hb1.mono HB.out.size))
      have g0 := KB1.out.cell 0
      have g1 := KB1.out.cell 1
      have g2 := KB1.out.cell 2
      have fr := KB1.out.frozen
      have lb1 := KB1.out.lt
      clear hb1 f0 f1 f2 f3 f4 ca la lb
      cases q
      · go_wp2
        exact ⟨⟨3, k, n, s, by omega, by omega, rfl, rfl, (((KA1.out.far (p := ⟨w.heap.size + 1, 0, none⟩) (by simp; try omega) _).far (p := ⟨w.heap.size + 1, 1, none⟩) (by simp; try omega) _).far (p := ⟨w.heap.size + 1, 2, none⟩) (by simp; try omega) _), ((KB1.out.set_ 0 (.int .u8 k)).set_ 1 (.int .i64 n)).set_ 2 (str s), (((KC1.out.far (p := ⟨w.heap.size + 1, 0, none⟩) (by simp; try omega) _).far (p := ⟨w.heap.size + 1, 1, none⟩) (by simp; try omega) _).far (p := ⟨w.heap.size + 1, 2, none⟩) (by simp; try omega) _), Below.setCell (Below.setCell (Below.setCell HB1.out (by simp) _) (by simp) _) (by simp) _⟩, by simp [intOf]⟩
      · go_wp2
        rw [Exit.noGoto_ret]
        refine bodyPost_ret (v := .agg #[.int .u8 k, .int .i64 n, str s]) (by simp (maxDischargeDepth := 9) [results, Tryz.results196, go_sem, g0, g1, g2]) rfl ?_
        exact ⟨k, n, s, rfl, (Below.setCell (Below.setCell (Below.setCell (Below.setCell (Below.setCell (Below.setCell HB1.out (by simp) _) (by simp) _) (by simp) _) (by simp) _) (by simp) _) (by simp) _)⟩
    · go_wp2_with fail
      refine (try_4 _ _ ca la (HW.out.below (HB.out.mono (Nat.le_refl _)))).mono ?_
      rintro e w1 ⟨k, n, s, q, rfl, hb1⟩
      have KA1 := Lib.hid (KA.out.below_ hb1)
      have KB1 := Lib.hid (KB.out.below_ hb1)
      have KC1 := Lib.hid (KC.out.below_ hb1)
      have HB1 := Lib.hid (Below.trans HB.out (hb1.mono HB.out.size))
      have g0 := KB1.out.cell 0
      have g1 := KB1.out.cell 1
      have g2 := KB1.out.cell 2
      have fr := KB1.out.frozen
      have lb1 := KB1.out.lt
      clear hb1 f0 f1 f2 f3 f4 ca la lb
      cases q
      · go_wp2
        exact ⟨⟨4, k, n, s, by omega, by omega, rfl, rfl, (((KA1.out.far (p := ⟨w.heap.size + 1, 0, none⟩) (by simp; try omega) _).far (p := ⟨w.heap.size + 1, 1, none⟩) (by simp; try omega) _).far (p := ⟨w.heap.size + 1, 2, none⟩) (by simp; try omega) _), ((KB1.out.set_ 0 (.int .u8 k)).set_ 1 (.int .i64 n)).set_ 2 (str s), (((KC1.out.far (p := ⟨w.heap.size + 1, 0, none⟩) (by simp; try omega) _).far (p := ⟨w.heap.size + 1, 1, none⟩) (by simp; try omega) _).far (p := ⟨w.heap.size + 1, 2, none⟩) (by simp; try omega) _), Below.setCell (Below.setCell (Below.setCell HB1.out (by simp) _) (by simp) _) (by simp) _⟩, by simp [intOf]⟩
      · go_wp2
        rw [Exit.noGoto_ret]
        refine bodyPost_ret (v := .agg #[.int .u8 k, .int .i64 n, str s]) (by simp (maxDischargeDepth := 9) [results, Tryz.results196, go_sem, g0, g1, g2]) rfl ?_
        exact ⟨k, n, s, rfl, (Below.setCell (Below.setCell (Below.setCell (Below.setCell (Below.setCell (Below.setCell HB1.out (by simp) _) (by simp) _) (by simp) _) (by simp) _) (by simp) _) (by simp) _)⟩
    · go_wp2_with fail
      refine (try_5 _ _ ca la (HW.out.below (HB.out.mono (Nat.le_refl _)))).mono ?_
      rintro e w1 ⟨k, n, s, q, rfl, hb1⟩
      have KA1 := Lib.hid (KA.out.below_ hb1)
      have KB1 := Lib.hid (KB.out.below_ hb1)
      have KC1 := Lib.hid (KC.out.below_ hb1)
      have HB1 := Lib.hid (Below.trans HB.out (hb1.mono HB.out.size))
      have g0 := KB1.out.cell 0
      have g1 := KB1.out.cell 1
      have g2 := KB1.out.cell 2
      have fr := KB1.out.frozen
      have lb1 := KB1.out.lt
      clear hb1 f0 f1 f2 f3 f4 ca la lb
      cases q
      · go_wp2
        exact ⟨⟨5, k, n, s, by omega, by omega, rfl, rfl, (((KA1.out.far (p := ⟨w.heap.size + 1, 0, none⟩) (by simp; try omega) _).far (p := ⟨w.heap.size + 1, 1, none⟩) (by simp; try omega) _).far (p := ⟨w.heap.size + 1, 2, none⟩) (by simp; try omega) _), ((KB1.out.set_ 0 (.int .u8 k)).set_ 1 (.int .i64 n)).set_ 2 (str s), (((KC1.out.far (p := ⟨w.heap.size + 1, 0, none⟩) (by simp; try omega) _).far (p := ⟨w.heap.size + 1, 1, none⟩) (by simp; try omega) _).far (p := ⟨w.heap.size + 1, 2, none⟩) (by simp; try omega) _), Below.setCell (Below.setCell (Below.setCell HB1.out (by simp) _) (by simp) _) (by simp) _⟩, by simp [intOf]⟩
      · go_wp2
        rw [Exit.noGoto_ret]
        refine bodyPost_ret (v := .agg #[.int .u8 k, .int .i64 n, str s]) (by simp (maxDischargeDepth := 9) [results, Tryz.results196, go_sem, g0, g1, g2]) rfl ?_
        exact ⟨k, n, s, rfl, (Below.setCell (Below.setCell (Below.setCell (Below.setCell (Below.setCell (Below.setCell HB1.out (by simp) _) (by simp) _) (by simp) _) (by simp) _) (by simp) _) (by simp) _)⟩
    · have g0 := KB.out.cell 0
      have g1 := KB.out.cell 1
      have g2 := KB.out.cell 2
      have fr := KB.out.frozen
      clear f0 f1 f2 f3 f4
      go_wp2
      rw [Exit.noGoto_ret]
      refine bodyPost_ret (v := .agg #[.int .u8 3, .int .i64 0, str [57]]) (by simp (maxDischargeDepth := 9) [results, Tryz.results196, go_sem, g0, g1, g2]) rfl ?_
      exact ⟨3, 0, [57], rfl, (Below.setCell (Below.setCell (Below.setCell (Below.setCell (Below.setCell (Below.setCell HB.out (by simp) _) (by simp) _) (by simp) _) (by simp) _) (by simp) _) (by simp) _)⟩
theorem of_9 (w : World) (hw : Words w) :
    Calls Tryz.prog 169 #[str [57]] w fun u w' => ∃ (k n : Int) (s : Bytes), u = .returned (.tuple #[.agg #[.bool false, .int .u8 k, .int .i64 n, str s, .slice none 0 0], .int .i64 0, .int .i64 0]) ∧ Below w.heap.size w w' := by
  have hx : (⟨#[57]⟩ : ByteArray).extract 0 1 = ⟨#[57]⟩ := rfl
  have HW := Lib.hid hw
  clear hw
  go_enter Tryz.func169, Tryz.ntmps169
  go_wp2
  refine wp_loop_rounds 2 ?_
  rw [rounds_succ]
  go_wp2_with fail
  refine (glyph_check [57] _ (by decide)).mono ?_
  rintro e w1 ⟨rfl, hb1⟩
  rw [show txtE [57] = 0 from rfl]
  have KB := Lib.hid ((Blk.new w 192 #[.bool false, .int .u8 0, .int .i64 0, str [], .slice none 0 0]).below_ hb1)
  have HB1 := Lib.hid (show Below w.heap.size w w1 from Below.next (by go_grown) hb1 (by simp))
  clear hb1
  go_wp2
  rw [rounds_succ]
  go_wp2_with fail
  refine (prefix_9 61 _ (by decide)).mono ?_
  rintro e w2 ⟨rfl, hb2⟩
  have KB2 := Lib.hid (KB.out.below_ hb2)
  have HB2 := Lib.hid (Below.trans HB1.out (hb2.mono HB1.out.size))
  clear hb2 KB HB1
  go_wp2_with fail
  refine (constant_9 _ (HW.out.below HB2.out)).mono ?_
  rintro e w3 ⟨k, n, s, rfl, hb3⟩
  have KB3 := Lib.hid (KB2.out.below_ hb3)
  have HB3 := Lib.hid (Below.trans HB2.out (hb3.mono HB2.out.size))
  have g0 := KB3.out.cell 0
  have g1 := KB3.out.cell 1
  have g2 := KB3.out.cell 2
  have g3 := KB3.out.cell 3
  have g4 := KB3.out.cell 4
  have fr := KB3.out.frozen
  have lb := KB3.out.lt
  clear hb3 KB2 HB2
  go_wp2
  refine bodyPost_ret (v := .tuple #[.agg #[.bool false, .int .u8 k, .int .i64 n, str s, .slice none 0 0], .int .i64 0, .int .i64 0]) (by simp (maxDischargeDepth := 9) [results, Tryz.results169, go_sem, g0, g1, g2, g3, g4]) rfl ?_
  exact ⟨k, n, s, rfl, Below.setCell (Below.setCell (Below.setCell (Below.setCell (Below.setCell HB3.out (by simp) _) (by simp) _) (by simp) _) (by simp) _) (by simp) _⟩
theorem entry_check_9 (sv : Value) (c r : Int) (B : Nat) (w : World) (hs : Sls cEnt w B sv [⟨⟨c, r⟩, [57]⟩]) (_hB : B ≤ w.heap.size) (hv : validB c r = true) (hw : Words w) :
    Calls Tryz.prog 110 #[sv] w fun u w' => ∃ i, u = .returned (.tuple #[.int .i64 i, .int .i64 0]) ∧ Below w.heap.size w w' := by
  obtain ⟨A, cap, rfl, hc, hm, hr⟩ := id hs
  obtain ⟨b, o, rfl, hb, r3⟩ := hs.get 3 cEnt_len (i := 0) rfl
  have r0 : w.cell? ⟨b, o, none⟩ = some (.int .i64 c) := by simpa using r3 0 _ rfl
  have r1 : w.cell? ⟨b, o + 1, none⟩ = some (.int .i64 r) := by simpa using r3 1 _ rfl
  have r2 : w.cell? ⟨b, o + 2, none⟩ = some (str [57]) := by simpa using r3 2 _ rfl
  have HW := Lib.hid hw
  have HV := Lib.hid hv
  clear hw hv hs hr r3
  simp only [List.length_singleton]
  go_enter Tryz.func110, Tryz.ntmps110
  go_wp2
  refine wp_loop_rounds 2 ?_
  rw [rounds_succ]
  go_wp2_with fail
  refine (addr_valid c r _).mono ?_
  rintro e w1 ⟨rfl, hb1⟩
  rw [HV.out]
  have KB := Lib.hid ((Blk.new w 58 #[.int .i64 c, .int .i64 r, str [57]]).below_ hb1)
  have HB1 := Lib.hid (show Below w.heap.size w w1 from Below.next (by go_grown) hb1 (by simp))
  have g2 := KB.out.cell 2
  have h0 : ([57] == ([] : List UInt8)) = false := rfl
  clear hb1
  go_wp2_with fail
  go_quiet (fail)
  have g3 : (w1.drewN nq).cell? ⟨w.heap.size, 2, none⟩ = some (str [57]) := g2
  go_wp2_with fail
  refine (of_9 _ (HW.out.below (Below.drewN_ HB1.out _))).mono ?_
  rintro e w2 ⟨k, n, s, rfl, hb2⟩
  have HB2 := Lib.hid (Below.trans (Below.drewN_ HB1.out _) (hb2.mono HB1.out.size))
  clear hb2
  go_wp2
  rw [rounds_succ]
  go_wp2
  go_ret2
  exact ⟨0, rfl, HB2.out.alloc HB2.out.size _⟩
end Go.Proofs.YtamcgggmfghljaaGreatDoor
