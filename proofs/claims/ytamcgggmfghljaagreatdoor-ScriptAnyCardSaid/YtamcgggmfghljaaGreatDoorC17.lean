/- Layer 7 (program): a word's token. · Layer 5 (program): errors' names; a value checked. · Layer 7 (program): an error's token. -/
import Derived.Deep.Cut
import Derived.Deep.QuietTactic
import Derived.BigQuiet
import Derived.Deep.RegionHeld3
import Derived.Test.YtamcgggmfghljaaGreatDoorC16
set_option maxRecDepth 100000
set_option maxHeartbeats 8000000
namespace Go.Proofs.YtamcgggmfghljaaGreatDoor
open Go.RowKit
theorem lex_next' (g : Nat) (s : Bytes) (i : Int) (k : Nat) (w : World) (hi : i = k) (hg : Blk w g 263 #[str s]) :
    Calls Tryz.prog 278 #[.pointer (some ⟨g, 0, none⟩), .int .i64 i] w fun u w' => u = .returned (.int .u8 (ub s k)) ∧ w = w' := by
  subst hi
  exact lex_next g s k w hg
theorem lex_plain' (g : Nat) (s : Bytes) (i : Int) (k : Nat) (w : World) (hi : i = k) (hs : s.length ≤ 1000000) (hk : k ≤ s.length) (hg : Blk w g 263 #[str s]) :
    Calls Tryz.prog 277 #[.pointer (some ⟨g, 0, none⟩), .int .i64 i] w fun u w' => u = .returned (str (plainS s k)) ∧ Below w.heap.size w w' := by
  subst hi
  exact lex_plain g s k w hs hk hg
theorem addr_parse' (l : Bytes) (w : World) (hl : l.length ≤ 1000000) :
    Calls Tryz.prog 279 #[str l] w fun u w' => u = .returned (.tuple #[.agg #[.int .i64 (parA l).1.col, .int .i64 (parA l).1.row], .int .i64 (parA l).2]) ∧ Below w.heap.size w w' :=
  addr_parse ⟨l.toArray⟩ w (by rw [str_size]; exact hl)
theorem plainS_len (s : Bytes) (i : Nat) : (plainS s i).length = lenB alnB s i := by
  have := lenB_at alnB s i
  unfold plainS
  simp
  omega
theorem ub_lt (s : Bytes) (k : Nat) : ub s k < 256 := by unfold ub; exact UInt8.toNat_lt _
theorem ub_len (s : Bytes) (k : Nat) (h : ub s k ≠ 0) : k < s.length := by
  rcases Nat.lt_or_ge k s.length with h1 | h1
  · exact h1
  · exact absurd (by unfold ub; rw [List.getD_eq_getElem?_getD, List.getElem?_eq_none h1]; rfl) h
theorem eql_refL (x y : Ref) (w : World) : (binOp .eql 56 (.agg #[.int .i64 x.col, .int .i64 x.row]) (.agg #[.int .i64 y.col, .int .i64 y.row])).run Tryz.prog w = .ok (.bool (decide (x = y))) w := by
  obtain ⟨a, b⟩ := x
  obtain ⟨a', b'⟩ := y
  simp [go_sem]
  by_cases q0 : a = a'
  · by_cases q1 : b = b'
    · simp [q0, q1]
    · simp [q0, q1]
  · simp [q0]
theorem lex_word (g : Nat) (s : Bytes) (i : Nat) (w : World) (hs : s.length ≤ 1000000) (hi : i < s.length) (hg : Blk w g 263 #[str s]) :
    Calls Tryz.prog 248 #[.pointer (some ⟨g, 0, none⟩), .int .i64 i] w fun u w' => u = .returned (.tuple #[.agg (cTok (wordS s i).1).toArray, .int .i64 (wordS s i).2]) ∧ Below w.heap.size w w' := by
  have hgl := hg.lt
  have hc : w.cell? ⟨g, 0, none⟩ = some (str s) := hg.cell 0
  have HG0 := Lib.hid (hg.alloc (.cells #[.int .u8 0, .int .i64 0, str [], .int .i64 0, .int .i64 0, .int .i64 0, .int .i64 0, .int .i64 0] 239))
  clear hg
  have hi0 : (0 : Int) ≤ (i : Int) := Int.natCast_nonneg _
  have hi1 : (i : Int) < (s.length : Int) := by omega
  have hx0 := str_at s i (by rw [str_size]; exact hi)
  obtain ⟨c0, hc0⟩ : ∃ c0, s.getD i 0 = c0 := ⟨_, rfl⟩
  rw [hc0] at hx0
  have HC0 := Lib.hid hc0
  clear hc0
  have KZ := Lib.hid (show TokZ _ w.heap.size from Blk.new w 239 #[.int .u8 0, .int .i64 0, str [], .int .i64 0, .int .i64 0, .int .i64 0, .int .i64 0, .int .i64 0])
  have HB0 := Lib.hid (show Below w.heap.size w (w.alloc (.cells #[.int .u8 0, .int .i64 0, str [], .int .i64 0, .int .i64 0, .int .i64 0, .int .i64 0, .int .i64 0] 239)) from by go_grown)
  go_enter Tryz.func248, Tryz.ntmps248
  go_wp2_with fail
  refine (lex_letter c0 _).mono ?_
  rintro u w1 ⟨rfl, rfl⟩
  by_cases hl : letB c0 = true
  · have HL0 := Lib.hid (show ¬ letB (s.getD i 0) = false by rw [HC0.out, hl]; simp)
    rw [hl]
    go_wp2_with fail
    refine (lex_plain' g s _ i _ rfl hs (by omega) HG0.out).mono ?_
    rintro u w1 ⟨rfl, hb⟩
    have HB1 := Lib.hid (show Below w.heap.size w w1 from Below.next HB0.out hb HB0.out.size)
    have HG1 := Lib.hid (HG0.out.below_ hb)
    have KZ1 := Lib.hid (KZ.out.below_ hb)
    clear hb hc hx0
    have hpl := plainS_len s i
    have hpa := lenB_at alnB s i
    obtain ⟨W, hW⟩ : ∃ W, plainS s i = W := ⟨_, rfl⟩
    rw [hW] at hpl ⊢
    have HW := Lib.hid hW
    clear hW
    have hn1 : (i : Int) + (W.length : Int) ≤ (s.length : Int) := by omega
    have hn2 : (W.length : Int) ≤ 1000000 := by omega
    have hwl : W.length ≤ 1000000 := by omega
    clear hpl hpa
    obtain ⟨q0, q1, q2, q3, q4, q5, q6, q7, qf⟩ := tokz_facts KZ1.out
    go_wp2_with fail
    refine (lex_next' g s _ (i + W.length) _ (by omega) HG1.out).mono ?_
    rintro u w1' ⟨rfl, rfl⟩
    have hu := ub_lt s (i + W.length)
    by_cases h40 : ub s (i + W.length) = 40
    · have HE := Lib.hid (show wordS s i = (⟨7, 0, W, z4, i⟩, W.length) by unfold wordS; rw [if_neg HL0.out, HW.out, if_pos h40])
      rw [h40]
      go_wp2_with fail
      refine bodyPost_ret (v := .tuple #[.agg (cTok ⟨7, 0, W, z4, i⟩).toArray, .int .i64 (W.length : Nat)]) (by simp (maxDischargeDepth := 9) [results, Tryz.results248, go_sem, q0, q1, q2, q3, q4, q5, q6, q7, cTok, z4]) rfl ?_
      rw [HE.out]
      exact ⟨rfl, below8 HB1.out (Nat.le_refl _) _ _ _ _ _ _ _ _⟩
    · have h40' : ((ub s (i + W.length) : Int) == 40) = false := by simp only [beq_eq_false_iff_ne, ne_eq]; omega
      have HN40 := Lib.hid h40
      clear h40 hu
      by_cases hT : W = trueB
      · have HE := Lib.hid (show wordS s i = (⟨3, 1, [], z4, i⟩, W.length) by unfold wordS; rw [if_neg HL0.out, HW.out, if_neg HN40.out, if_pos hT])
        have hT2 : (W == ([84, 82, 85, 69] : List UInt8)) = true := by rw [hT]; rfl
        clear hT
        go_wp2_with fail
        refine bodyPost_ret (v := .tuple #[.agg (cTok ⟨3, 1, [], z4, i⟩).toArray, .int .i64 (W.length : Nat)]) (by simp (maxDischargeDepth := 9) [results, Tryz.results248, go_sem, q0, q1, q2, q3, q4, q5, q6, q7, cTok, z4]) rfl ?_
        rw [HE.out]
        exact ⟨rfl, below8 HB1.out (Nat.le_refl _) _ _ _ _ _ _ _ _⟩
      · have hT2 : (W == ([84, 82, 85, 69] : List UInt8)) = false := by simpa [trueB] using hT
        have HNT := Lib.hid hT
        clear hT
        by_cases hF : W = falseB
        · have HE := Lib.hid (show wordS s i = (⟨3, 0, [], z4, i⟩, W.length) by unfold wordS; rw [if_neg HL0.out, HW.out, if_neg HN40.out, if_neg HNT.out, if_pos hF])
          have hF2 : (W == ([70, 65, 76, 83, 69] : List UInt8)) = true := by rw [hF]; rfl
          clear hF
          go_wp2_with fail
          refine bodyPost_ret (v := .tuple #[.agg (cTok ⟨3, 0, [], z4, i⟩).toArray, .int .i64 (W.length : Nat)]) (by simp (maxDischargeDepth := 9) [results, Tryz.results248, go_sem, q0, q1, q2, q3, q4, q5, q6, q7, cTok, z4]) rfl ?_
          rw [HE.out]
          exact ⟨rfl, below8 HB1.out (Nat.le_refl _) _ _ _ _ _ _ _ _⟩
        · have hF2 : (W == ([70, 65, 76, 83, 69] : List UInt8)) = false := by simpa [falseB] using hF
          have HNF := Lib.hid hF
          clear hF q0 q1 q2 q3 q4 q5 q6 q7 qf
          have HE1 := Lib.hid (show wordS s i = if (parA W).2 ≠ 0 then (tok0, 0) else if twoB s (i + W.length) then
              (⟨if (parA W).1 = (parA (plainS s (i + W.length + 1))).1 then 5 else 6, 0, [], hullR (parA W).1 (parA (plainS s (i + W.length + 1))).1, i⟩, W.length + 1 + (plainS s (i + W.length + 1)).length)
              else (⟨5, 0, [], ⟨(parA W).1.col, (parA W).1.row, (parA W).1.col, (parA W).1.row⟩, i⟩, W.length) by
            unfold wordS; rw [if_neg HL0.out, HW.out, if_neg HN40.out, if_neg HNT.out, if_neg HNF.out])
          go_wp2_with fail
          refine (addr_parse' W _ hwl).mono ?_
          rintro u w2 ⟨rfl, hb⟩
          have HB2 := Lib.hid (show Below w.heap.size w w2 from Below.next HB1.out hb HB1.out.size)
          have HG2 := Lib.hid (HG1.out.below_ hb)
          have KZ2 := Lib.hid (KZ1.out.below_ hb)
          clear hb
          obtain ⟨a, ha⟩ : ∃ a, parA W = a := ⟨_, rfl⟩
          rw [ha] at HE1 ⊢
          have HA := Lib.hid ha
          clear ha
          have hB3 := HB2.out.alloc HB2.out.size (.cells #[.int .i64 a.1.col, .int .i64 a.1.row] 56)
          have hG3 := HG2.out.alloc (.cells #[.int .i64 a.1.col, .int .i64 a.1.row] 56)
          have hK3 := KZ2.out.alloc (.cells #[.int .i64 a.1.col, .int .i64 a.1.row] 56)
          have hA3 := Blk.new w2 56 #[.int .i64 a.1.col, .int .i64 a.1.row]
          go_upto_region 12 with (fail)
          obtain ⟨W3, hW3⟩ : ∃ W3, w2.alloc (.cells #[.int .i64 a.1.col, .int .i64 a.1.row] 56) = W3 := ⟨_, rfl⟩
          obtain ⟨ga, hga⟩ : ∃ ga, w2.heap.size = ga := ⟨_, rfl⟩
          rw [hW3] at hB3 hG3 hK3 hA3 ⊢
          rw [hga] at hA3 ⊢
          have HB3 := Lib.hid hB3
          have HG3 := Lib.hid hG3
          have KZ3 := Lib.hid (show TokZ W3 w.heap.size from hK3)
          have KA3 := Lib.hid hA3
          clear hW3 hga hB3 hG3 hK3 hA3
          by_cases he : a.2 = 0
          · have he2 : (a.2 != 0) = false := by simpa using he
            have HE2 := Lib.hid (show wordS s i = if twoB s (i + W.length) then
              (⟨if a.1 = (parA (plainS s (i + W.length + 1))).1 then 5 else 6, 0, [], hullR a.1 (parA (plainS s (i + W.length + 1))).1, i⟩, W.length + 1 + (plainS s (i + W.length + 1)).length)
              else (⟨5, 0, [], ⟨a.1.col, a.1.row, a.1.col, a.1.row⟩, i⟩, W.length) by rw [HE1.out, if_neg (by simp [he])])
            go_wp2_with fail
            refine (lex_next' g s _ (i + W.length) _ (by omega) HG3.out).mono ?_
            rintro u w3 ⟨rfl, rfl⟩
            have hu1 := ub_lt s (i + W.length)
            by_cases h58 : ub s (i + W.length) = 58
            · have hlt := ub_len s (i + W.length) (by omega)
              have hp1 : (i : Int) + (W.length : Int) + 1 ≤ (s.length : Int) := by omega
              have HD58 := Lib.hid h58
              rw [h58]
              go_wp2_with fail
              refine (lex_next' g s _ (i + W.length + 1) _ (by omega) HG3.out).mono ?_
              rintro u w3 ⟨rfl, rfl⟩
              go_wp2_with fail
              refine (lex_letter (s.getD (i + W.length + 1) 0) _).mono ?_
              rintro u w3 ⟨rfl, rfl⟩
              by_cases hl2 : letB (s.getD (i + W.length + 1) 0) = true
              · have HL2 := Lib.hid hl2
                rw [hl2]
                clear hl2 h58 hu1
                go_wp2_with fail
                refine (lex_plain' g s _ (i + W.length + 1) _ (by omega) hs (by omega) HG3.out).mono ?_
                rintro u w4 ⟨rfl, hb⟩
                have HB4 := Lib.hid (show Below w.heap.size w w4 from Below.next HB3.out hb HB3.out.size)
                have HG4 := Lib.hid (HG3.out.below_ hb)
                have KZ4 := Lib.hid (KZ3.out.below_ hb)
                have KA4 := Lib.hid (KA3.out.below_ hb)
                clear hb
                have hpl := plainS_len s (i + W.length + 1)
                have hpa := lenB_at alnB s (i + W.length + 1)
                obtain ⟨V, hV⟩ : ∃ V, plainS s (i + W.length + 1) = V := ⟨_, rfl⟩
                rw [hV] at hpl HE2 ⊢
                have HV := Lib.hid hV
                clear hV
                have hvl : V.length ≤ 1000000 := by omega
                have hv1 : (i : Int) + (W.length : Int) + 1 + (V.length : Int) ≤ (s.length : Int) := by omega
                clear hpl hpa
                go_wp2_with fail
                refine (addr_parse' V _ hvl).mono ?_
                rintro u w5 ⟨rfl, hb⟩
                have HB5 := Lib.hid (show Below w.heap.size w w5 from Below.next HB4.out hb HB4.out.size)
                have HG5 := Lib.hid (HG4.out.below_ hb)
                have KZ5 := Lib.hid (KZ4.out.below_ hb)
                have KA5 := Lib.hid (KA4.out.below_ hb)
                clear hb
                obtain ⟨b, hbb⟩ : ∃ b, parA V = b := ⟨_, rfl⟩
                rw [hbb] at HE2 ⊢
                have HBB := Lib.hid hbb
                clear hbb
                have hB6 := HB5.out.alloc HB5.out.size (.cells #[.int .i64 b.1.col, .int .i64 b.1.row] 56)
                have hG6 := HG5.out.alloc (.cells #[.int .i64 b.1.col, .int .i64 b.1.row] 56)
                have hK6 := KZ5.out.alloc (.cells #[.int .i64 b.1.col, .int .i64 b.1.row] 56)
                have hA6 := KA5.out.alloc (.cells #[.int .i64 b.1.col, .int .i64 b.1.row] 56)
                have hC6 := Blk.new w5 56 #[.int .i64 b.1.col, .int .i64 b.1.row]
                go_upto_region 18 with (fail)
                obtain ⟨W6, hW6⟩ : ∃ W6, w5.alloc (.cells #[.int .i64 b.1.col, .int .i64 b.1.row] 56) = W6 := ⟨_, rfl⟩
                obtain ⟨gc, hgc⟩ : ∃ gc, w5.heap.size = gc := ⟨_, rfl⟩
                rw [hW6] at hB6 hG6 hK6 hA6 hC6 ⊢
                rw [hgc] at hC6 ⊢
                have HB6 := Lib.hid hB6
                have HG6 := Lib.hid hG6
                have KZ6 := Lib.hid (show TokZ W6 w.heap.size from hK6)
                have KA6 := Lib.hid hA6
                have KC6 := Lib.hid hC6
                clear hW6 hgc hB6 hG6 hK6 hA6 hC6
                have x0 : W6.cell? ⟨ga, 0, none⟩ = some (.int .i64 a.1.col) := KA6.out.cell 0
                have x1 : W6.cell? ⟨ga, 1, none⟩ = some (.int .i64 a.1.row) := KA6.out.cell 1
                have y0 : W6.cell? ⟨gc, 0, none⟩ = some (.int .i64 b.1.col) := KC6.out.cell 0
                have y1 : W6.cell? ⟨gc, 1, none⟩ = some (.int .i64 b.1.row) := KC6.out.cell 1
                obtain ⟨q0, q1, q2, q3, q4, q5, q6, q7, qf⟩ := tokz_facts KZ6.out
                by_cases hbe : b.2 = 0
                · have hbe2 : (b.2 == 0) = true := by simpa using hbe
                  go_wp2_with fail
                  refine (lex_next' g s _ (i + W.length + 1 + V.length) _ (by omega) HG6.out).mono ?_
                  rintro u w6 ⟨rfl, rfl⟩
                  have hu2 := ub_lt s (i + W.length + 1 + V.length)
                  by_cases h40b : ub s (i + W.length + 1 + V.length) = 40
                  · have HE := Lib.hid (show wordS s i = (⟨5, 0, [], ⟨a.1.col, a.1.row, a.1.col, a.1.row⟩, i⟩, W.length) by
                      rw [HE2.out, if_neg]
                      unfold twoB
                      rw [HV.out, h40b]
                      simp)
                    have hn40 : ((ub s (i + W.length + 1 + V.length) : Int) != 40) = false := by rw [h40b]; rfl
                    clear q0 q1 q2 q3 q4 q5 q6 q7 qf
                    go_wp2_with fail
                    refine (rect_one a.1.col a.1.row _).mono ?_
                    rintro u w8 ⟨rfl, hb⟩
                    have HB8 := Lib.hid (show Below w.heap.size w w8 from Below.next HB6.out hb HB6.out.size)
                    have KZ8 := Lib.hid (KZ6.out.below_ hb)
                    clear hb
                    obtain ⟨q0, q1, q2, q3, q4, q5, q6, q7, qf⟩ := tokz_facts KZ8.out
                    go_wp2_with fail
                    refine bodyPost_ret (v := .tuple #[.agg (cTok ⟨5, 0, [], ⟨a.1.col, a.1.row, a.1.col, a.1.row⟩, i⟩).toArray, .int .i64 (W.length : Nat)]) (by simp (maxDischargeDepth := 9) [results, Tryz.results248, go_sem, q0, q1, q2, q3, q4, q5, q6, q7, cTok]) rfl ?_
                    rw [HE.out]
                    exact ⟨rfl, below8 HB8.out (Nat.le_refl _) _ _ _ _ _ _ _ _⟩
                  · have hn40 : ((ub s (i + W.length + 1 + V.length) : Int) != 40) = true := by simp only [bne_iff_ne, ne_eq]; omega
                    have HE := Lib.hid (show wordS s i = (⟨if a.1 = b.1 then 5 else 6, 0, [], hullR a.1 b.1, i⟩, W.length + 1 + V.length) by
                      rw [HE2.out, if_pos]
                      unfold twoB
                      rw [HV.out, HD58.out, HL2.out, HBB.out, hbe]
                      simp [h40b])
                    clear h40b hu2
                    have hmn : ∀ x y : Int, (if y < x then y else x) = min x y := fun x y => by split <;> omega
                    have hmx : ∀ x y : Int, (if x < y then y else x) = max x y := fun x y => by split <;> omega
                    go_upto_region 20 with (fail)
                    clear hmn hmx q0 q1 q2 q3 q4 q5 q6 q7 qf
                    obtain ⟨mm, hmm⟩ : ∃ mm : Rct, mm = hullR a.1 b.1 := ⟨_, rfl⟩
                    have hB7 := HB6.out.alloc HB6.out.size (.cells #[.int .i64 (min a.1.col b.1.col), .int .i64 (min a.1.row b.1.row), .int .i64 (max a.1.col b.1.col), .int .i64 (max a.1.row b.1.row)] 43)
                    have hK7 := KZ6.out.alloc (.cells #[.int .i64 (min a.1.col b.1.col), .int .i64 (min a.1.row b.1.row), .int .i64 (max a.1.col b.1.col), .int .i64 (max a.1.row b.1.row)] 43)
                    have hA7 := KA6.out.alloc (.cells #[.int .i64 (min a.1.col b.1.col), .int .i64 (min a.1.row b.1.row), .int .i64 (max a.1.col b.1.col), .int .i64 (max a.1.row b.1.row)] 43)
                    have hC7 := KC6.out.alloc (.cells #[.int .i64 (min a.1.col b.1.col), .int .i64 (min a.1.row b.1.row), .int .i64 (max a.1.col b.1.col), .int .i64 (max a.1.row b.1.row)] 43)
                    have hM7 := Blk.new W6 43 #[.int .i64 (min a.1.col b.1.col), .int .i64 (min a.1.row b.1.row), .int .i64 (max a.1.col b.1.col), .int .i64 (max a.1.row b.1.row)]
                    obtain ⟨W7, hW7⟩ : ∃ W7, W6.alloc (.cells #[.int .i64 (min a.1.col b.1.col), .int .i64 (min a.1.row b.1.row), .int .i64 (max a.1.col b.1.col), .int .i64 (max a.1.row b.1.row)] 43) = W7 := ⟨_, rfl⟩
                    obtain ⟨gm, hgm⟩ : ∃ gm, W6.heap.size = gm := ⟨_, rfl⟩
                    rw [hW7] at hB7 hK7 hA7 hC7 hM7 ⊢
                    rw [hgm] at hM7 ⊢
                    have HB7 := Lib.hid hB7
                    have KZ7 := Lib.hid (show TokZ W7 w.heap.size from hK7)
                    have KM7 := Lib.hid (show Blk W7 gm 43 #[.int .i64 mm.c1, .int .i64 mm.r1, .int .i64 mm.c2, .int .i64 mm.r2] by rw [hmm]; exact hM7)
                    have x0 : W7.cell? ⟨ga, 0, none⟩ = some (.int .i64 a.1.col) := hA7.cell 0
                    have x1 : W7.cell? ⟨ga, 1, none⟩ = some (.int .i64 a.1.row) := hA7.cell 1
                    have y0 : W7.cell? ⟨gc, 0, none⟩ = some (.int .i64 b.1.col) := hC7.cell 0
                    have y1 : W7.cell? ⟨gc, 1, none⟩ = some (.int .i64 b.1.row) := hC7.cell 1
                    have m0 : W7.cell? ⟨gm, 0, none⟩ = some (.int .i64 mm.c1) := KM7.out.cell 0
                    have m1 : W7.cell? ⟨gm, 1, none⟩ = some (.int .i64 mm.r1) := KM7.out.cell 1
                    have m2 : W7.cell? ⟨gm, 2, none⟩ = some (.int .i64 mm.c2) := KM7.out.cell 2
                    have m3 : W7.cell? ⟨gm, 3, none⟩ = some (.int .i64 mm.r2) := KM7.out.cell 3
                    have HMM := Lib.hid hmm
                    rw [← hmm] at HE
                    clear hW7 hgm hB7 hK7 hA7 hC7 hM7 hmm
                    obtain ⟨q0, q1, q2, q3, q4, q5, q6, q7, qf⟩ := tokz_facts KZ7.out
                    have heq : ∀ W, (binOp .eql 56 (.agg #[.int .i64 a.1.col, .int .i64 a.1.row]) (.agg #[.int .i64 b.1.col, .int .i64 b.1.row])).run Tryz.prog W = .ok (.bool (decide (a.1 = b.1))) W := eql_refL a.1 b.1
                    by_cases hab : a.1 = b.1
                    · have HE' := Lib.hid (show wordS s i = (⟨5, 0, [], mm, i⟩, W.length + 1 + V.length) by rw [HE.out, if_pos hab])
                      have HE := HE'
                      have hd : decide (a.1 = b.1) = true := by simpa using hab
                      rw [hd] at heq
                      clear hab hd HE'
                      go_wp2_with fail
                      refine bodyPost_ret (v := .tuple #[.agg (cTok ⟨5, 0, [], mm, i⟩).toArray, .int .i64 (W.length + 1 + V.length : Nat)]) (by simp (maxDischargeDepth := 9) [results, Tryz.results248, go_sem, q0, q1, q2, q3, q4, q5, q6, q7, cTok]) rfl ?_
                      rw [HE.out]
                      exact ⟨rfl, below8 HB7.out (Nat.le_refl _) _ _ _ _ _ _ _ _⟩
                    · have HE' := Lib.hid (show wordS s i = (⟨6, 0, [], mm, i⟩, W.length + 1 + V.length) by rw [HE.out, if_neg hab])
                      have HE := HE'
                      have hd : decide (a.1 = b.1) = false := by simpa using hab
                      rw [hd] at heq
                      clear hab hd HE'
                      go_wp2_with fail
                      refine bodyPost_ret (v := .tuple #[.agg (cTok ⟨6, 0, [], mm, i⟩).toArray, .int .i64 (W.length + 1 + V.length : Nat)]) (by simp (maxDischargeDepth := 9) [results, Tryz.results248, go_sem, q0, q1, q2, q3, q4, q5, q6, q7, cTok]) rfl ?_
                      rw [HE.out]
                      exact ⟨rfl, below8 HB7.out (Nat.le_refl _) _ _ _ _ _ _ _ _⟩
                · have hbe2 : (b.2 == 0) = false := by simpa using hbe
                  have HE := Lib.hid (show wordS s i = (⟨5, 0, [], ⟨a.1.col, a.1.row, a.1.col, a.1.row⟩, i⟩, W.length) by
                    rw [HE2.out, if_neg]
                    unfold twoB
                    rw [HV.out, HBB.out]
                    simp [hbe])
                  clear q0 q1 q2 q3 q4 q5 q6 q7 qf
                  go_wp2_with fail
                  refine (rect_one a.1.col a.1.row _).mono ?_
                  rintro u w8 ⟨rfl, hb⟩
                  have HB8 := Lib.hid (show Below w.heap.size w w8 from Below.next HB6.out hb HB6.out.size)
                  have KZ8 := Lib.hid (KZ6.out.below_ hb)
                  clear hb
                  obtain ⟨q0, q1, q2, q3, q4, q5, q6, q7, qf⟩ := tokz_facts KZ8.out
                  go_wp2_with fail
                  refine bodyPost_ret (v := .tuple #[.agg (cTok ⟨5, 0, [], ⟨a.1.col, a.1.row, a.1.col, a.1.row⟩, i⟩).toArray, .int .i64 (W.length : Nat)]) (by simp (maxDischargeDepth := 9) [results, Tryz.results248, go_sem, q0, q1, q2, q3, q4, q5, q6, q7, cTok]) rfl ?_
                  rw [HE.out]
                  exact ⟨rfl, below8 HB8.out (Nat.le_refl _) _ _ _ _ _ _ _ _⟩
              · have HE := Lib.hid (show wordS s i = (⟨5, 0, [], ⟨a.1.col, a.1.row, a.1.col, a.1.row⟩, i⟩, W.length) by
                  rw [HE2.out, if_neg]
                  unfold twoB
                  rw [show letB (s.getD (i + W.length + 1) 0) = false by simpa using hl2]
                  simp)
                have hl2' : letB (s.getD (i + W.length + 1) 0) = false := by simpa using hl2
                rw [hl2']
                have x0 : W3.cell? ⟨ga, 0, none⟩ = some (.int .i64 a.1.col) := KA3.out.cell 0
                have x1 : W3.cell? ⟨ga, 1, none⟩ = some (.int .i64 a.1.row) := KA3.out.cell 1
                go_wp2_with fail
                refine (rect_one a.1.col a.1.row _).mono ?_
                rintro u w8 ⟨rfl, hb⟩
                have HB8 := Lib.hid (show Below w.heap.size w w8 from Below.next HB3.out hb HB3.out.size)
                have KZ8 := Lib.hid (KZ3.out.below_ hb)
                clear hb
                obtain ⟨q0, q1, q2, q3, q4, q5, q6, q7, qf⟩ := tokz_facts KZ8.out
                go_wp2_with fail
                refine bodyPost_ret (v := .tuple #[.agg (cTok ⟨5, 0, [], ⟨a.1.col, a.1.row, a.1.col, a.1.row⟩, i⟩).toArray, .int .i64 (W.length : Nat)]) (by simp (maxDischargeDepth := 9) [results, Tryz.results248, go_sem, q0, q1, q2, q3, q4, q5, q6, q7, cTok]) rfl ?_
                rw [HE.out]
                exact ⟨rfl, below8 HB8.out (Nat.le_refl _) _ _ _ _ _ _ _ _⟩
            · have HE := Lib.hid (show wordS s i = (⟨5, 0, [], ⟨a.1.col, a.1.row, a.1.col, a.1.row⟩, i⟩, W.length) by
                rw [HE2.out, if_neg]
                unfold twoB
                simp [h58])
              have h58' : ((ub s (i + W.length) : Int) == 58) = false := by simp only [beq_eq_false_iff_ne, ne_eq]; omega
              have x0 : W3.cell? ⟨ga, 0, none⟩ = some (.int .i64 a.1.col) := KA3.out.cell 0
              have x1 : W3.cell? ⟨ga, 1, none⟩ = some (.int .i64 a.1.row) := KA3.out.cell 1
              go_wp2_with fail
              refine (rect_one a.1.col a.1.row _).mono ?_
              rintro u w8 ⟨rfl, hb⟩
              have HB8 := Lib.hid (show Below w.heap.size w w8 from Below.next HB3.out hb HB3.out.size)
              have KZ8 := Lib.hid (KZ3.out.below_ hb)
              clear hb
              obtain ⟨q0, q1, q2, q3, q4, q5, q6, q7, qf⟩ := tokz_facts KZ8.out
              go_wp2_with fail
              refine bodyPost_ret (v := .tuple #[.agg (cTok ⟨5, 0, [], ⟨a.1.col, a.1.row, a.1.col, a.1.row⟩, i⟩).toArray, .int .i64 (W.length : Nat)]) (by simp (maxDischargeDepth := 9) [results, Tryz.results248, go_sem, q0, q1, q2, q3, q4, q5, q6, q7, cTok]) rfl ?_
              rw [HE.out]
              exact ⟨rfl, below8 HB8.out (Nat.le_refl _) _ _ _ _ _ _ _ _⟩
          · have he2 : (a.2 != 0) = true := by simpa using he
            have HE := Lib.hid (show wordS s i = (tok0, 0) by rw [HE1.out, if_pos he])
            obtain ⟨q0, q1, q2, q3, q4, q5, q6, q7, qf⟩ := tokz_facts KZ3.out
            clear he
            go_wp2_with fail
            refine bodyPost_ret (v := .tuple #[.agg (cTok tok0).toArray, .int .i64 (0 : Nat)]) (by simp (maxDischargeDepth := 9) [results, Tryz.results248, go_sem, q0, q1, q2, q3, q4, q5, q6, q7, cTok, z4, tok0]) rfl ?_
            rw [HE.out]
            exact ⟨rfl, below8 HB3.out (Nat.le_refl _) _ _ _ _ _ _ _ _⟩
  · have hl' : letB c0 = false := by simpa using hl
    have HE := Lib.hid (show wordS s i = (tok0, 0) by unfold wordS; rw [if_pos (by rw [HC0.out]; exact hl')])
    rw [hl']
    go_wp2_with fail
    refine bodyPost_ret (v := .tuple #[.agg (cTok tok0).toArray, .int .i64 0]) (by simp (maxDischargeDepth := 9) [results, Tryz.results248, go_sem, cTok, tok0, z4]) rfl ?_
    rw [HE.out]
    exact ⟨rfl, by go_grown⟩
theorem fail_is (n : Int) (w : World) (h1 : 1 ≤ n) (h7 : n ≤ 7) :
    Calls Tryz.prog 218 #[.int .i64 n] w fun u w' => u = .returned (.agg #[.int .u8 4, .int .i64 n, str []]) ∧ Below w.heap.size w w' := by
  go_enter Tryz.func218, Tryz.ntmps218
  go_wp2
  refine bodyPost_ret (v := .agg #[.int .u8 4, .int .i64 n, str []]) (by simp (maxDischargeDepth := 9) [results, Tryz.results218, go_sem]) rfl ?_
  exact ⟨rfl, by go_grown⟩
theorem val_err (n : Int) (w : World) (h1 : 1 ≤ n) (h6 : n ≤ 6) :
    Calls Tryz.prog 270 #[.agg #[.int .u8 4, .int .i64 n, str []]] w fun u w' => u = .returned (.int .i64 0) ∧ Below w.heap.size w w' := by
  go_enter Tryz.func270, Tryz.ntmps270
  go_wp2
  go_ret
  exact ⟨rfl, by go_grown⟩
theorem val_num (n : Int) (w : World) (h0 : 0 ≤ n) :
    Calls Tryz.prog 270 #[.agg #[.int .u8 1, .int .i64 n, str []]] w fun u w' => u = .returned (.int .i64 0) ∧ Below w.heap.size w w' := by
  have hn : (n != -9223372036854775808) = true := by simp only [bne_iff_ne, ne_eq]; omega
  go_enter Tryz.func270, Tryz.ntmps270
  go_wp2
  go_ret
  exact ⟨rfl, by go_grown⟩
theorem val_bool (n : Int) (w : World) (h : n = 0 ∨ n = 1) :
    Calls Tryz.prog 270 #[.agg #[.int .u8 2, .int .i64 n, str []]] w fun u w' => u = .returned (.int .i64 0) ∧ Below w.heap.size w w' := by
  rcases h with rfl | rfl
  · skip
    go_enter Tryz.func270, Tryz.ntmps270
    go_wp2
    go_ret
    exact ⟨rfl, by go_grown⟩
  · skip
    go_enter Tryz.func270, Tryz.ntmps270
    go_wp2
    go_ret
    exact ⟨rfl, by go_grown⟩
/-- The name of an error. -/
theorem words_at {w : World} (h : Words w) (n : Nat) (s : Bytes) (hs : wordsL[n]? = some s) : w.cell? ⟨0, n, none⟩ = some (str s) := h.1 n s hs
theorem show_err (n : Nat) (s : Bytes) (w : World) (h1 : 1 ≤ n) (h5 : n ≤ 5) (hs : wordsL[n]? = some s) (hw : Words w) :
    Calls Tryz.prog 281 #[.agg #[.int .u8 4, .int .i64 n, str []]] w fun u w' => u = .returned (str s) ∧ Below w.heap.size w w' := by
  have HW := Lib.hid hw
  have hne : ((n : Int) == 7) = false := by simp only [beq_eq_false_iff_ne, ne_eq]; omega
  have he : ∀ W, (binOp .eql 189 (.agg #[.int .u8 4, .int .i64 n, str []]) (.agg #[.int .u8 4, .int .i64 7, str []])).run Tryz.prog W = .ok (.bool false) W := by
    intro W
    simp [go_sem, hne]
  have n0 : (0 : Int) ≤ (n : Int) := by omega
  have n8 : (n : Int) < 8 := by omega
  clear hw
  have c0 : (w.alloc (.cells #[.int .u8 4, .int .i64 n, str []] 189)).cell? ⟨w.heap.size, 0, none⟩ = some (.int .u8 4) := (Blk.new w _ _).cell 0
  have c1 : (w.alloc (.cells #[.int .u8 4, .int .i64 n, str []] 189)).cell? ⟨w.heap.size, 1, none⟩ = some (.int .i64 n) := (Blk.new w _ _).cell 1
  have c2 : (w.alloc (.cells #[.int .u8 4, .int .i64 n, str []] 189)).cell? ⟨w.heap.size, 2, none⟩ = some (str []) := (Blk.new w _ _).cell 2
  have C0 := Lib.hid c0
  have C1 := Lib.hid c1
  have C2 := Lib.hid c2
  clear c0 c1 c2
  go_enter Tryz.func281, Tryz.ntmps281
  go_wp2
  have hlt : w.heap.size < (w.alloc (.cells #[.int .u8 4, .int .i64 n, str []] 189)).heap.size := by simp
  obtain ⟨W0, hW0⟩ : ∃ W0, w.alloc (.cells #[.int .u8 4, .int .i64 n, str []] 189) = W0 := ⟨_, rfl⟩
  have HB0 := Lib.hid (show Below w.heap.size w W0 by rw [← hW0]; go_grown)
  rw [hW0] at C0 C1 C2 hlt ⊢
  clear hW0
  go_region_held3 (fun W : World => W.cell? ⟨w.heap.size, 0, none⟩ = some (.int .u8 4) ∧ W.cell? ⟨w.heap.size, 1, none⟩ = some (.int .i64 n) ∧ W.cell? ⟨w.heap.size, 2, none⟩ = some (str []))
    (first
     | exact ⟨C0.out, C1.out, C2.out⟩
     | exact ⟨(hb1.cell hlt).trans C0.out, (hb1.cell hlt).trans C1.out, (hb1.cell hlt).trans C2.out⟩
     | exact ⟨(hb2.cell (Nat.lt_of_lt_of_le hlt hb1.size)).trans ((hb1.cell hlt).trans C0.out), (hb2.cell (Nat.lt_of_lt_of_le hlt hb1.size)).trans ((hb1.cell hlt).trans C1.out), (hb2.cell (Nat.lt_of_lt_of_le hlt hb1.size)).trans ((hb1.cell hlt).trans C2.out)⟩)
    (first
     | (go_at_call 218; refine (fail_is 7 _ (by omega) (by omega)).mono ?_; rintro e w1 ⟨rfl, hb1⟩)
     | (go_at_call 270; refine (val_err n _ (by omega) (by omega)).mono ?_; rintro e w2 ⟨rfl, hb2⟩))
  have HB2 := Lib.hid (show Below w.heap.size w w2 from Below.next (Below.next HB0.out (Below.trans ((Below.refl _ _).drew) hb1) HB0.out.size) hb2 (Nat.le_trans HB0.out.size hb1.size))
  have d1 : w2.cell? ⟨w.heap.size, 1, none⟩ = some (.int .i64 n) := (hb2.cell (Nat.lt_of_lt_of_le hlt hb1.size)).trans ((hb1.cell hlt).trans C1.out)
  have hwd : w2.cell? ⟨0, n, none⟩ = some (str s) := words_at (HW.out.below HB2.out) n s hs
  clear he hb1 hb2 hs
  go_wp2
  go_ret
  exact ⟨rfl, HB2.out⟩
theorem lex_literal (c : Nat) (w : World) (h1 : 1 ≤ c) (h7 : c ≤ 7) :
    Calls Tryz.prog 280 #[.int .i64 c] w fun u w' => u = .returned (.bool (decide (c ≤ 5))) ∧ w = w' := by
  have e1 : 1 ≤ (c : Int) := by omega
  by_cases h : c ≤ 5
  · have e2 : (c : Int) ≤ 5 := by omega
    have HD := Lib.hid (show decide (c ≤ 5) = true by simpa using h)
    clear h
    go_enter Tryz.func280, Tryz.ntmps280
    go_wp2
    go_ret
    exact ⟨by rw [HD.out]; rfl, rfl⟩
  · have e2 : ¬ (c : Int) ≤ 5 := by omega
    have HD := Lib.hid (show decide (c ≤ 5) = false by simpa using h)
    clear h
    go_enter Tryz.func280, Tryz.ntmps280
    go_wp2
    go_ret
    exact ⟨by rw [HD.out]; rfl, rfl⟩
theorem fail_at (c : Nat) (h1 : 1 ≤ c) (h5 : c ≤ 5) : ∃ x, wordsL[c]? = some x ∧ failW.drop (c - 1) = x :: failW.drop c ∧ x.length ≤ 7 := by
  rcases (by omega : c = 1 ∨ c = 2 ∨ c = 3 ∨ c = 4 ∨ c = 5) with rfl | rfl | rfl | rfl | rfl <;> exact ⟨_, rfl, rfl, by decide⟩
theorem lex_fail (g : Nat) (s : Bytes) (i : Nat) (w : World) (hs : s.length ≤ 1000000) (hi : i ≤ s.length) (hg : Blk w g 263 #[str s]) (hw : Words w) :
    Calls Tryz.prog 249 #[.pointer (some ⟨g, 0, none⟩), .int .i64 i] w fun u w' => u = .returned (.tuple #[.agg (cTok (failS s i).1).toArray, .int .i64 (failS s i).2]) ∧ Below w.heap.size w w' := by
  have HW := Lib.hid hw
  clear hw
  have HG0 := Lib.hid (hg.alloc (.cells #[.int .u8 0, .int .i64 0, str [], .int .i64 0, .int .i64 0, .int .i64 0, .int .i64 0, .int .i64 0] 239))
  have hgl := hg.lt
  clear hg
  have hi0 : (0 : Int) ≤ (i : Int) := Int.natCast_nonneg _
  have hi1 : (i : Int) ≤ (s.length : Int) := by omega
  have KZ0 := Lib.hid (show TokZ _ w.heap.size from Blk.new w 239 #[.int .u8 0, .int .i64 0, str [], .int .i64 0, .int .i64 0, .int .i64 0, .int .i64 0, .int .i64 0])
  have HB0 := Lib.hid (show Below w.heap.size w (w.alloc (.cells #[.int .u8 0, .int .i64 0, str [], .int .i64 0, .int .i64 0, .int .i64 0, .int .i64 0, .int .i64 0] 239)) from by go_grown)
  go_enter Tryz.func249, Tryz.ntmps249
  go_wp2_with fail
  go_loopw [6] (fun v wr => ∃ c : Nat, 1 ≤ c ∧ c ≤ 6 ∧ v = .int .i64 c ∧ failS s i = failL s i c (failW.drop (c - 1)) ∧ Blk wr g 263 #[str s] ∧ TokZ wr w.heap.size ∧ Below w.heap.size w wr) (fun v _ => 7 - (intOf v).toNat)
  case atStart => exact ⟨1, by omega, by omega, rfl, rfl, HG0.out, KZ0.out, HB0.out⟩
  case round =>
    obtain ⟨c, hc1, hc6, rfl, hfl, hgw, hkz, hbw⟩ := hrel
    have HFL := Lib.hid hfl
    have HGW := Lib.hid hgw
    have HKZ := Lib.hid hkz
    have HBW := Lib.hid hbw
    clear hfl hgw hkz hbw
    have c0 : (0 : Int) ≤ (c : Int) := by omega
    have c7 : (c : Int) ≤ 7 := by omega
    go_wp2_with fail
    refine (lex_literal c _ hc1 (by omega)).mono ?_
    rintro u w1 ⟨rfl, rfl⟩
    by_cases h5 : c ≤ 5
    · have hd : decide (c ≤ 5) = true := by simpa using h5
      rw [hd]
      obtain ⟨x, hx, hdr, hxl⟩ := fail_at c hc1 h5
      have HDR := Lib.hid hdr
      have HX := Lib.hid hx
      clear hd hdr hx
      go_wp2_with fail
      refine (fail_is c _ (by omega) (by omega)).mono ?_
      rintro u w1 ⟨rfl, hb⟩
      have HB1 := Lib.hid (show Below w.heap.size w w1 from Below.next HBW.out hb HBW.out.size)
      have HG1 := Lib.hid (HGW.out.below_ hb)
      have KZ1 := Lib.hid (HKZ.out.below_ hb)
      clear hb
      go_wp2_with fail
      refine (show_err c x _ hc1 h5 HX.out (HW.out.below HB1.out)).mono ?_
      rintro u w2 ⟨rfl, hb⟩
      have HB2 := Lib.hid (show Below w.heap.size w w2 from Below.next HB1.out hb HB1.out.size)
      have HG2 := Lib.hid (HG1.out.below_ hb)
      have KZ2 := Lib.hid (KZ1.out.below_ hb)
      clear hb
      have hgc : w2.cell? ⟨g, 0, none⟩ = some (str s) := HG2.out.cell 0
      have hx7 : (x.length : Int) ≤ 7 := by omega
      by_cases hfit : i + x.length ≤ s.length
      · have hf1 : (i : Int) + (x.length : Int) ≤ (s.length : Int) := by omega
        have hf2 : (i : Int) ≤ (i : Int) + (x.length : Int) := by omega
        go_wp2_with fail
        rw [ext_mid]
        refine (upper_any _ _ (by simp; omega)).mono ?_
        rintro u w3 ⟨rfl, hb⟩
        have HB3 := Lib.hid (show Below w.heap.size w w3 from Below.next HB2.out hb HB2.out.size)
        have HG3 := Lib.hid (HG2.out.below_ hb)
        have KZ3 := Lib.hid (KZ2.out.below_ hb)
        clear hb hgc
        rw [show upB ((s.drop i).take x.length) = ((s.drop i).take x.length).map upU from rfl]
        by_cases heq : ((s.drop i).take x.length).map upU = x
        · have HE := Lib.hid (show failS s i = (⟨4, c, [], z4, i⟩, x.length) by rw [HFL.out, HDR.out]; unfold failL; rw [if_pos ⟨hfit, heq⟩])
          have heq2 : (((s.drop i).take x.length).map upU == x) = true := by simpa using heq
          generalize ((s.drop i).take x.length).map upU = y at heq2 ⊢
          clear heq
          obtain ⟨q0, q1, q2, q3, q4, q5, q6, q7, qf⟩ := tokz_facts KZ3.out
          go_wp2
          refine bodyPost_ret (v := .tuple #[.agg (cTok ⟨4, c, [], z4, i⟩).toArray, .int .i64 x.length]) (by simp (maxDischargeDepth := 9) [results, Tryz.results249, go_sem, q0, q1, q2, q3, q4, q5, q6, q7, cTok, z4]) rfl ?_
          rw [HE.out]
          exact ⟨rfl, below8 HB3.out (Nat.le_refl _) _ _ _ _ _ _ _ _⟩
        · have HN := Lib.hid (show failS s i = failL s i ((c + 1 : Nat) : Int) (failW.drop (c + 1 - 1)) by
            rw [HFL.out, HDR.out]
            conv => lhs; unfold failL
            rw [if_neg (fun h => heq h.2)]
            rfl)
          have heq2 : (((s.drop i).take x.length).map upU == x) = false := by simpa using heq
          generalize ((s.drop i).take x.length).map upU = y at heq2 ⊢
          clear heq
          go_wp2
          exact ⟨⟨c + 1, by omega, by omega, by go_num, HN.out, HG3.out, KZ3.out, HB3.out⟩, by simp [intOf]; omega⟩
      · have hf1 : ¬ (i : Int) + (x.length : Int) ≤ (s.length : Int) := by omega
        have HN := Lib.hid (show failS s i = failL s i ((c + 1 : Nat) : Int) (failW.drop (c + 1 - 1)) by
          rw [HFL.out, HDR.out]
          conv => lhs; unfold failL
          rw [if_neg (fun h => hfit h.1)]
          rfl)
        go_wp2
        exact ⟨⟨c + 1, by omega, by omega, by go_num, HN.out, HG2.out, KZ2.out, HB2.out⟩, by simp [intOf]; omega⟩
    · have hd : decide (c ≤ 5) = false := by simpa using h5
      have HE := Lib.hid (show failS s i = (tok0, 0) by rw [HFL.out, show c = 6 by omega]; rfl)
      rw [hd]
      obtain ⟨q0, q1, q2, q3, q4, q5, q6, q7, qf⟩ := tokz_facts HKZ.out
      go_wp2
      refine bodyPost_ret (v := .tuple #[.agg (cTok tok0).toArray, .int .i64 0]) (by simp (maxDischargeDepth := 9) [results, Tryz.results249, go_sem, q0, q1, q2, q3, q4, q5, q6, q7, cTok, z4, tok0]) rfl ?_
      rw [HE.out]
      exact ⟨rfl, below8 HBW.out (Nat.le_refl _) _ _ _ _ _ _ _ _⟩
end Go.Proofs.YtamcgggmfghljaaGreatDoor
