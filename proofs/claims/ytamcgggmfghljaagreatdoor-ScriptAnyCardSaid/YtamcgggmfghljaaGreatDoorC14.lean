/- Layer 7 (program): a number's token. · Go's strings.HasPrefix and CutPrefix, on any bytes. · Layer 7 (program): the token of an operator, a parenthesis or a comma. · Layer 41: what a script's bytes are. No program in sight. · Layer 41 (program): a number's bytes. -/
import Derived.Laws.ShiftsVarLaws
import Derived.Test.YtamcgggmfghljaaGreatDoorC13
set_option maxRecDepth 100000
set_option maxHeartbeats 8000000
namespace Go.Proofs.YtamcgggmfghljaaGreatDoor
open Go.RowKit
/-- The result's block, a zero token. -/
abbrev TokZ (w : World) (g : Nat) : Prop := Blk w g 239 #[.int .u8 0, .int .i64 0, str [], .int .i64 0, .int .i64 0, .int .i64 0, .int .i64 0, .int .i64 0]
/-- The token in the result's block is left as it is. -/
theorem tokz_facts {w : World} {g : Nat} (h : TokZ w g) : w.cell? ⟨g, 0, none⟩ = some (.int .u8 0) ∧ w.cell? ⟨g, 1, none⟩ = some (.int .i64 0) ∧ w.cell? ⟨g, 2, none⟩ = some (str []) ∧ w.cell? ⟨g, 3, none⟩ = some (.int .i64 0) ∧ w.cell? ⟨g, 4, none⟩ = some (.int .i64 0) ∧ w.cell? ⟨g, 5, none⟩ = some (.int .i64 0) ∧ w.cell? ⟨g, 6, none⟩ = some (.int .i64 0) ∧ w.cell? ⟨g, 7, none⟩ = some (.int .i64 0) ∧ ∀ o, w.frozen? ⟨g, o, none⟩ = false :=
  ⟨h.cell 0, h.cell 1, h.cell 2, h.cell 3, h.cell 4, h.cell 5, h.cell 6, h.cell 7, h.frozen⟩
theorem below8 {B : Nat} {a w : World} (h : Below B a w) {g : Nat} (hg : B ≤ g) (v0 v1 v2 v3 v4 v5 v6 v7 : Value) : Below B a ((((((((w.setCell ⟨g, 0, none⟩ v0).setCell ⟨g, 1, none⟩ v1).setCell ⟨g, 2, none⟩ v2).setCell ⟨g, 3, none⟩ v3).setCell ⟨g, 4, none⟩ v4).setCell ⟨g, 5, none⟩ v5).setCell ⟨g, 6, none⟩ v6).setCell ⟨g, 7, none⟩ v7) :=
  (((((((h.setCell hg _).setCell hg _).setCell hg _).setCell hg _).setCell hg _).setCell hg _).setCell hg _).setCell hg _
theorem lex_number (g : Nat) (s : Bytes) (i : Nat) (w : World) (hs : s.length ≤ 1000000) (hi : i ≤ s.length) (hg : Blk w g 263 #[str s]) :
    Calls Tryz.prog 246 #[.pointer (some ⟨g, 0, none⟩), .int .i64 i] w fun u w' => u = .returned (.tuple #[.agg (cTok (numberS s i).1).toArray, .int .i64 (numberS s i).2]) ∧ Below w.heap.size w w' := by
  have hgl := hg.lt
  have hc : w.cell? ⟨g, 0, none⟩ = some (str s) := hg.cell 0
  have HG := Lib.hid hg
  clear hg
  have hi0 : (0 : Int) ≤ (i : Int) := Int.natCast_nonneg _
  have hi1 : (i : Int) ≤ (s.length : Int) := by omega
  have KZ := Lib.hid (show TokZ _ w.heap.size from Blk.new w 239 #[.int .u8 0, .int .i64 0, str [], .int .i64 0, .int .i64 0, .int .i64 0, .int .i64 0, .int .i64 0])
  go_enter Tryz.func246, Tryz.ntmps246
  go_wp2_with fail
  refine (length_dig ⟨s.toArray⟩ i _ (by rw [str_size]; exact hs) (by rw [str_size]; exact hi)).mono ?_
  rintro u w1 ⟨rfl, hb1⟩
  rw [show lenB digB (⟨s.toArray⟩ : ByteArray).data.toList i = lenB digB s i from rfl]
  have hm := lenB_at digB s i
  have HS := Lib.hid (show numberS s i = _ from rfl)
  obtain ⟨m, hmm⟩ : ∃ m, lenB digB s i = m := ⟨_, rfl⟩
  rw [hmm] at hm ⊢
  have HM := Lib.hid hmm
  clear hmm
  have HB1 := Lib.hid (show Below w.heap.size w w1 from Below.next (by go_grown) hb1 (by simp))
  have HG1 := Lib.hid ((HG.out.alloc _).below_ hb1)
  have KZ1 := Lib.hid (KZ.out.below_ hb1)
  have hm0 : (0 : Int) ≤ (m : Int) := by omega
  have hm1 : (i : Int) + (m : Int) ≤ (s.length : Int) := by omega
  clear hb1 hc
  by_cases hz : m = 0
  · have HE := Lib.hid (show numberS s i = (tok0, 0) by unfold numberS; rw [HM.out, if_pos hz])
    have hz1 : ((m : Int) == 0) = true := by simp [hz]
    obtain ⟨q0, q1, q2, q3, q4, q5, q6, q7, qf⟩ := tokz_facts KZ1.out
    go_wp2
    refine bodyPost_ret (v := .tuple #[.agg (cTok tok0).toArray, .int .i64 0]) (by simp (maxDischargeDepth := 9) [results, Tryz.results246, go_sem, q0, q1, q2, q3, q4, q5, q6, q7, cTok, tok0, z4]) rfl ?_
    rw [HE.out]
    exact ⟨rfl, below8 HB1.out (Nat.le_refl _) _ _ _ _ _ _ _ _⟩
  · have hz1 : ((m : Int) == 0) = false := by simpa using hz
    have hgx : w1.cell? ⟨g, 0, none⟩ = some (str s) := HG1.out.cell 0
    have hp0 : (0 : Int) ≤ (i : Int) + (m : Int) := by omega
    by_cases hp : i + m + 1 < s.length
    · have hp1 : (i : Int) + (m : Int) + 1 < (s.length : Int) := by omega
      have hp2 : (i : Int) + (m : Int) < (s.length : Int) := by omega
      have hx0 := str_at s (i + m) (by rw [str_size]; omega)
      have hx1 := str_at s (i + m + 1) (by rw [str_size]; omega)
      by_cases h46 : ub s (i + m) = 46
      · have HD0 := Lib.hid (show dotB s (i + m) = digB (s.getD (i + m + 1) 0) by unfold dotB; simp [hp, h46])
        have h46' : (((s.getD (i + m) 0).toNat : Int) == 46) = true := by unfold ub at h46; rw [h46]; rfl
        generalize s.getD (i + m) 0 = c0 at hx0 h46'
        generalize s.getD (i + m + 1) 0 = c1 at hx1 HD0
        clear h46
        go_wp2_with fail
        refine (lex_digit c1 _).mono ?_
        rintro u w2 ⟨rfl, rfl⟩
        by_cases hdg : digB c1 = true
        · rw [hdg] at HD0 ⊢
          go_wp2_with fail
          have hq : (((i : Int) + (m : Int) + 1 : Int)) = ((i + m + 1 : Nat) : Int) := by omega
          rw [hq]
          refine (length_dig ⟨s.toArray⟩ (i + m + 1) _ (by rw [str_size]; exact hs) (by rw [str_size]; omega)).mono ?_
          rintro u w3 ⟨rfl, hb3⟩
          rw [show lenB digB (⟨s.toArray⟩ : ByteArray).data.toList (i + m + 1) = lenB digB s (i + m + 1) from rfl]
          have hk := lenB_at digB s (i + m + 1)
          obtain ⟨k, hkk⟩ : ∃ k, lenB digB s (i + m + 1) = k := ⟨_, rfl⟩
          rw [hkk] at hk ⊢
          have HK := Lib.hid hkk
          clear hkk hq hx0 hx1 hgx
          have HB3 := Lib.hid (show Below w.heap.size w w3 from Below.next HB1.out hb3 HB1.out.size)
          have HG3 := Lib.hid (HG1.out.below_ hb3)
          have KZ3 := Lib.hid (KZ1.out.below_ hb3)
          clear hb3
          have hk0 : (0 : Int) ≤ (k : Int) := by omega
          have hk1 : (i : Int) + ((m : Int) + (1 + (k : Int))) ≤ (s.length : Int) := by omega
          have hk2 : (i : Int) ≤ (i : Int) + ((m : Int) + (1 + (k : Int))) := by omega
          by_cases hk4 : (4 : Int) < (k : Int)
          · have HE := Lib.hid (show numberS s i = (tok0, 0) by unfold numberS; rw [HM.out, if_neg hz, if_pos ⟨HD0.out, by rw [HK.out]; omega⟩])
            obtain ⟨q0, q1, q2, q3, q4, q5, q6, q7, qf⟩ := tokz_facts KZ3.out
            go_wp2
            refine bodyPost_ret (v := .tuple #[.agg (cTok tok0).toArray, .int .i64 0]) (by simp (maxDischargeDepth := 9) [results, Tryz.results246, go_sem, q0, q1, q2, q3, q4, q5, q6, q7, cTok, tok0, z4]) rfl ?_
            rw [HE.out]
            exact ⟨rfl, below8 HB3.out (Nat.le_refl _) _ _ _ _ _ _ _ _⟩
          · have HNO := Lib.hid (show ¬ (dotB s (i + m) = true ∧ 4 < lenB digB s (i + m + 1)) by rw [HK.out]; exact fun h => hk4 (by omega))
            have HNN := Lib.hid (show numberN s i = m + (1 + k) by unfold numberN; rw [HM.out, HD0.out, if_pos rfl, HK.out]; omega)
            have hgc : w3.cell? ⟨g, 0, none⟩ = some (str s) := HG3.out.cell 0
            go_wp2_with fail
            rw [ext_mid]
            refine (decP_any _ _ (by simp; omega)).mono ?_
            rintro u w5 ⟨rfl, hb5⟩
            have HB5 := Lib.hid (show Below w.heap.size w w5 from Below.next HB3.out hb5 HB3.out.size)
            have KZ5 := Lib.hid (KZ3.out.below_ hb5)
            clear hb5 hgc
            obtain ⟨r, hr⟩ : ∃ r, parseD ((s.drop i).take (m + (1 + k))) = r := ⟨_, rfl⟩
            rw [hr]
            have HR := Lib.hid hr
            clear hr
            by_cases he : r.2 = 0
            · have HE := Lib.hid (show numberS s i = (⟨1, r.1, [], z4, i⟩, m + (1 + k)) by
                unfold numberS
                rw [HM.out, if_neg hz, if_neg HNO.out, HNN.out, HR.out, if_neg (by simpa using he)])
              obtain ⟨q0, q1, q2, q3, q4, q5, q6, q7, qf⟩ := tokz_facts KZ5.out
              have he2 : (r.2 != 0) = false := by simpa using he
              clear he
              go_wp2
              refine bodyPost_ret (v := .tuple #[.agg (cTok ⟨1, r.1, [], z4, i⟩).toArray, .int .i64 (m + (1 + k) : Nat)]) (by simp (maxDischargeDepth := 9) [results, Tryz.results246, go_sem, q0, q1, q2, q3, q4, q5, q6, q7, cTok, z4]) rfl ?_
              rw [HE.out]
              exact ⟨rfl, below8 HB5.out (Nat.le_refl _) _ _ _ _ _ _ _ _⟩
            · have HE := Lib.hid (show numberS s i = (tok0, 0) by
                unfold numberS
                rw [HM.out, if_neg hz, if_neg HNO.out, HNN.out, HR.out, if_pos he])
              have he2 : (r.2 != 0) = true := by simpa using he
              clear he
              obtain ⟨q0, q1, q2, q3, q4, q5, q6, q7, qf⟩ := tokz_facts KZ5.out
              go_wp2
              refine bodyPost_ret (v := .tuple #[.agg (cTok tok0).toArray, .int .i64 0]) (by simp (maxDischargeDepth := 9) [results, Tryz.results246, go_sem, q0, q1, q2, q3, q4, q5, q6, q7, cTok, tok0, z4]) rfl ?_
              rw [HE.out]
              exact ⟨rfl, below8 HB5.out (Nat.le_refl _) _ _ _ _ _ _ _ _⟩
        · have hdg' : digB c1 = false := by simpa using hdg
          rw [hdg'] at HD0 ⊢
          have HD := HD0
          have HNO := Lib.hid (show ¬ (dotB s (i + m) = true ∧ 4 < lenB digB s (i + m + 1)) by rw [HD.out]; simp)
          have HNN := Lib.hid (show numberN s i = m by unfold numberN; rw [HM.out, HD.out]; rfl)
          have hgc : w1.cell? ⟨g, 0, none⟩ = some (str s) := HG1.out.cell 0
          go_wp2_with fail
          rw [ext_mid]
          refine (decP_any _ _ (by simp; omega)).mono ?_
          rintro u w5 ⟨rfl, hb5⟩
          have HB5 := Lib.hid (show Below w.heap.size w w5 from Below.next HB1.out hb5 HB1.out.size)
          have KZ5 := Lib.hid (KZ1.out.below_ hb5)
          clear hb5 hgc
          obtain ⟨r, hr⟩ : ∃ r, parseD ((s.drop i).take (m)) = r := ⟨_, rfl⟩
          rw [hr]
          have HR := Lib.hid hr
          clear hr
          by_cases he : r.2 = 0
          · have HE := Lib.hid (show numberS s i = (⟨1, r.1, [], z4, i⟩, m) by
              unfold numberS
              rw [HM.out, if_neg hz, if_neg HNO.out, HNN.out, HR.out, if_neg (by simpa using he)])
            obtain ⟨q0, q1, q2, q3, q4, q5, q6, q7, qf⟩ := tokz_facts KZ5.out
            have he2 : (r.2 != 0) = false := by simpa using he
            clear he
            go_wp2
            refine bodyPost_ret (v := .tuple #[.agg (cTok ⟨1, r.1, [], z4, i⟩).toArray, .int .i64 (m : Nat)]) (by simp (maxDischargeDepth := 9) [results, Tryz.results246, go_sem, q0, q1, q2, q3, q4, q5, q6, q7, cTok, z4]) rfl ?_
            rw [HE.out]
            exact ⟨rfl, below8 HB5.out (Nat.le_refl _) _ _ _ _ _ _ _ _⟩
          · have HE := Lib.hid (show numberS s i = (tok0, 0) by
              unfold numberS
              rw [HM.out, if_neg hz, if_neg HNO.out, HNN.out, HR.out, if_pos he])
            have he2 : (r.2 != 0) = true := by simpa using he
            clear he
            obtain ⟨q0, q1, q2, q3, q4, q5, q6, q7, qf⟩ := tokz_facts KZ5.out
            go_wp2
            refine bodyPost_ret (v := .tuple #[.agg (cTok tok0).toArray, .int .i64 0]) (by simp (maxDischargeDepth := 9) [results, Tryz.results246, go_sem, q0, q1, q2, q3, q4, q5, q6, q7, cTok, tok0, z4]) rfl ?_
            rw [HE.out]
            exact ⟨rfl, below8 HB5.out (Nat.le_refl _) _ _ _ _ _ _ _ _⟩
      · have HD := Lib.hid (show dotB s (i + m) = false by unfold dotB; simp [h46])
        have h46' : (((s.getD (i + m) 0).toNat : Int) == 46) = false := by unfold ub at h46; simp only [beq_eq_false_iff_ne, ne_eq]; omega
        generalize s.getD (i + m) 0 = c0 at hx0 h46'
        have HNO := Lib.hid (show ¬ (dotB s (i + m) = true ∧ 4 < lenB digB s (i + m + 1)) by rw [HD.out]; simp)
        have HNN := Lib.hid (show numberN s i = m by unfold numberN; rw [HM.out, HD.out]; rfl)
        have hgc : w1.cell? ⟨g, 0, none⟩ = some (str s) := HG1.out.cell 0
        go_wp2_with fail
        rw [ext_mid]
        refine (decP_any _ _ (by simp; omega)).mono ?_
        rintro u w5 ⟨rfl, hb5⟩
        have HB5 := Lib.hid (show Below w.heap.size w w5 from Below.next HB1.out hb5 HB1.out.size)
        have KZ5 := Lib.hid (KZ1.out.below_ hb5)
        clear hb5 hgc
        obtain ⟨r, hr⟩ : ∃ r, parseD ((s.drop i).take (m)) = r := ⟨_, rfl⟩
        rw [hr]
        have HR := Lib.hid hr
        clear hr
        by_cases he : r.2 = 0
        · have HE := Lib.hid (show numberS s i = (⟨1, r.1, [], z4, i⟩, m) by
            unfold numberS
            rw [HM.out, if_neg hz, if_neg HNO.out, HNN.out, HR.out, if_neg (by simpa using he)])
          obtain ⟨q0, q1, q2, q3, q4, q5, q6, q7, qf⟩ := tokz_facts KZ5.out
          have he2 : (r.2 != 0) = false := by simpa using he
          clear he
          go_wp2
          refine bodyPost_ret (v := .tuple #[.agg (cTok ⟨1, r.1, [], z4, i⟩).toArray, .int .i64 (m : Nat)]) (by simp (maxDischargeDepth := 9) [results, Tryz.results246, go_sem, q0, q1, q2, q3, q4, q5, q6, q7, cTok, z4]) rfl ?_
          rw [HE.out]
          exact ⟨rfl, below8 HB5.out (Nat.le_refl _) _ _ _ _ _ _ _ _⟩
        · have HE := Lib.hid (show numberS s i = (tok0, 0) by
            unfold numberS
            rw [HM.out, if_neg hz, if_neg HNO.out, HNN.out, HR.out, if_pos he])
          have he2 : (r.2 != 0) = true := by simpa using he
          clear he
          obtain ⟨q0, q1, q2, q3, q4, q5, q6, q7, qf⟩ := tokz_facts KZ5.out
          go_wp2
          refine bodyPost_ret (v := .tuple #[.agg (cTok tok0).toArray, .int .i64 0]) (by simp (maxDischargeDepth := 9) [results, Tryz.results246, go_sem, q0, q1, q2, q3, q4, q5, q6, q7, cTok, tok0, z4]) rfl ?_
          rw [HE.out]
          exact ⟨rfl, below8 HB5.out (Nat.le_refl _) _ _ _ _ _ _ _ _⟩
    · have hp1 : ¬ (i : Int) + (m : Int) + 1 < (s.length : Int) := by omega
      have HD := Lib.hid (show dotB s (i + m) = false by unfold dotB; simp [hp])
      have HNO := Lib.hid (show ¬ (dotB s (i + m) = true ∧ 4 < lenB digB s (i + m + 1)) by rw [HD.out]; simp)
      have HNN := Lib.hid (show numberN s i = m by unfold numberN; rw [HM.out, HD.out]; rfl)
      have hgc : w1.cell? ⟨g, 0, none⟩ = some (str s) := HG1.out.cell 0
      go_wp2_with fail
      rw [ext_mid]
      refine (decP_any _ _ (by simp; omega)).mono ?_
      rintro u w5 ⟨rfl, hb5⟩
      have HB5 := Lib.hid (show Below w.heap.size w w5 from Below.next HB1.out hb5 HB1.out.size)
      have KZ5 := Lib.hid (KZ1.out.below_ hb5)
      clear hb5 hgc
      obtain ⟨r, hr⟩ : ∃ r, parseD ((s.drop i).take (m)) = r := ⟨_, rfl⟩
      rw [hr]
      have HR := Lib.hid hr
      clear hr
      by_cases he : r.2 = 0
      · have HE := Lib.hid (show numberS s i = (⟨1, r.1, [], z4, i⟩, m) by
          unfold numberS
          rw [HM.out, if_neg hz, if_neg HNO.out, HNN.out, HR.out, if_neg (by simpa using he)])
        obtain ⟨q0, q1, q2, q3, q4, q5, q6, q7, qf⟩ := tokz_facts KZ5.out
        have he2 : (r.2 != 0) = false := by simpa using he
        clear he
        go_wp2
        refine bodyPost_ret (v := .tuple #[.agg (cTok ⟨1, r.1, [], z4, i⟩).toArray, .int .i64 (m : Nat)]) (by simp (maxDischargeDepth := 9) [results, Tryz.results246, go_sem, q0, q1, q2, q3, q4, q5, q6, q7, cTok, z4]) rfl ?_
        rw [HE.out]
        exact ⟨rfl, below8 HB5.out (Nat.le_refl _) _ _ _ _ _ _ _ _⟩
      · have HE := Lib.hid (show numberS s i = (tok0, 0) by
          unfold numberS
          rw [HM.out, if_neg hz, if_neg HNO.out, HNN.out, HR.out, if_pos he])
        have he2 : (r.2 != 0) = true := by simpa using he
        clear he
        obtain ⟨q0, q1, q2, q3, q4, q5, q6, q7, qf⟩ := tokz_facts KZ5.out
        go_wp2
        refine bodyPost_ret (v := .tuple #[.agg (cTok tok0).toArray, .int .i64 0]) (by simp (maxDischargeDepth := 9) [results, Tryz.results246, go_sem, q0, q1, q2, q3, q4, q5, q6, q7, cTok, tok0, z4]) rfl ?_
        rw [HE.out]
        exact ⟨rfl, below8 HB5.out (Nat.le_refl _) _ _ _ _ _ _ _ _⟩
/-- A prefix cut off. -/
def cutB (a b : Bytes) : Bytes := if b.isPrefixOf a = true then a.drop b.length else a
theorem cut_yes {a b : Bytes} (h : b.isPrefixOf a = true) : cutB a b = a.drop b.length := if_pos h
theorem cut_no {a b : Bytes} (h : b.isPrefixOf a = false) : cutB a b = a := if_neg (by rw [h]; simp)
theorem pre_take (a b : Bytes) (_h : b.length ≤ a.length) : b.isPrefixOf a = (a.take b.length == b) := by
  rw [Bool.eq_iff_iff, List.isPrefixOf_iff_prefix, List.prefix_iff_eq_take, beq_iff_eq]
  exact eq_comm
theorem pre_short (a b : Bytes) (h : a.length < b.length) : b.isPrefixOf a = false := by
  rw [← Bool.not_eq_true, List.isPrefixOf_iff_prefix]
  intro hp
  have := hp.length_le
  omega
theorem lite_prefix (a b : Bytes) (w : World) (_ha : a.length ≤ 1000000) (hb : b.length ≤ 1000000) :
    Calls Tryz.prog 237 #[str a, str b] w fun u w' => u = .returned (.bool (b.isPrefixOf a)) ∧ w = w' := by
  by_cases hl : b.length ≤ a.length
  · have h1 : (b.length : Int) ≤ (a.length : Int) := by omega
    have h0 : (0 : Int) ≤ (b.length : Int) := by omega
    have HE := Lib.hid (show b.isPrefixOf a = (((⟨a.toArray⟩ : ByteArray).extract 0 b.length).toList == b) by rw [pre_take a b hl, ext_to, ByteArray.toList_eq])
    go_enter Tryz.func237, Tryz.ntmps237
    go_wp2
    go_ret
    exact ⟨by rw [HE.out]; rfl, rfl⟩
  · have h1 : ¬ (b.length : Int) ≤ (a.length : Int) := by omega
    have HE := Lib.hid (pre_short a b (by omega))
    go_enter Tryz.func237, Tryz.ntmps237
    go_wp2
    go_ret
    exact ⟨by rw [HE.out]; rfl, rfl⟩
theorem has_prefix (a b : Bytes) (w : World) (ha : a.length ≤ 1000000) (hb : b.length ≤ 1000000) :
    Calls Tryz.prog 283 #[str a, str b] w fun u w' => u = .returned (.bool (b.isPrefixOf a)) ∧ w = w' := by
  go_enter Tryz.func283, Tryz.ntmps283
  go_wp2_with fail
  refine (lite_prefix a b _ ha hb).mono ?_
  rintro u w1 ⟨rfl, rfl⟩
  go_wp2
  go_ret
  exact ⟨rfl, rfl⟩
theorem lite_cut (a b : Bytes) (w : World) (ha : a.length ≤ 1000000) (hb : b.length ≤ 1000000) :
    Calls Tryz.prog 211 #[str a, str b] w fun u w' => u = .returned (.tuple #[str (cutB a b), .bool (b.isPrefixOf a)]) ∧ w = w' := by
  go_enter Tryz.func211, Tryz.ntmps211
  go_wp2_with fail
  refine (lite_prefix a b _ ha hb).mono ?_
  rintro u w1 ⟨rfl, rfl⟩
  by_cases hp : b.isPrefixOf a = true
  · have hl : b.length ≤ a.length := by
      rcases Nat.lt_or_ge a.length b.length with h | h
      · rw [pre_short a b h] at hp; cases hp
      · exact h
    have h1 : (b.length : Int) ≤ (a.length : Int) := by omega
    have h0 : (0 : Int) ≤ (b.length : Int) := by omega
    have HP := Lib.hid hp
    have HC := Lib.hid (cut_yes hp)
    rw [hp]
    clear hp
    go_wp2
    rw [ext_from _ _ _ rfl]
    go_ret2
    exact ⟨by rw [HC.out, HP.out]; rfl, rfl⟩
  · have hp' : b.isPrefixOf a = false := eq_false_of_ne_true hp
    have HP := Lib.hid hp'
    have HC := Lib.hid (cut_no hp')
    rw [hp']
    clear hp hp'
    go_wp2
    go_ret2
    exact ⟨by rw [HC.out, HP.out]; rfl, rfl⟩
theorem cut_prefix (a b : Bytes) (w : World) (ha : a.length ≤ 1000000) (hb : b.length ≤ 1000000) :
    Calls Tryz.prog 195 #[str a, str b] w fun u w' => u = .returned (.tuple #[str (cutB a b), .bool (b.isPrefixOf a)]) ∧ w = w' := by
  go_enter Tryz.func195, Tryz.ntmps195
  go_wp2_with fail
  refine (lite_cut a b _ ha hb).mono ?_
  rintro u w1 ⟨rfl, rfl⟩
  by_cases hp : b.isPrefixOf a = true
  · have HP := Lib.hid hp
    have HC := Lib.hid (cut_yes hp)
    rw [hp]
    clear hp
    rw [HC.out]
    go_wp2
    go_ret2
    exact ⟨by rw [HC.out, HP.out]; rfl, rfl⟩
  · have hp' : b.isPrefixOf a = false := eq_false_of_ne_true hp
    have HP := Lib.hid hp'
    have HC := Lib.hid (cut_no hp')
    rw [hp']
    clear hp hp'
    rw [HC.out]
    go_wp2
    go_ret2
    exact ⟨by rw [HC.out, HP.out]; rfl, rfl⟩
def opsS : Array Value := #[str [60, 62], str [60, 61], str [62, 61], str [43], str [45], str [42], str [47], str [94], str [38], str [61], str [60], str [62], str [37]]
def opsI : Array Value := #[.int .i64 8, .int .i64 10, .int .i64 12, .int .i64 1, .int .i64 2, .int .i64 3, .int .i64 4, .int .i64 5, .int .i64 6, .int .i64 7, .int .i64 9, .int .i64 11, .int .i64 13]
theorem lex_ops (w : World) :
    Calls Tryz.prog 282 #[] w fun u w' => u = .returned (.tuple #[.slice (some ⟨w.heap.size, 0, none⟩) 13 13, .slice (some ⟨w.heap.size + 1, 0, none⟩) 13 13]) ∧ w' = (w.alloc (.cells opsS 9)).alloc (.cells opsI 2) := by
  go_enter Tryz.func282, Tryz.ntmps282
  go_wp2
  go_ret2
  exact ⟨rfl, rfl⟩
theorem ops_at (k : Nat) (h : k < 13) : ∃ x n, opsW.drop k = (x, n) :: opsW.drop (k + 1) ∧ opsS[k]? = some (str x) ∧ opsI[k]? = some (.int .i64 n) ∧ x.length ≤ 2 ∧ 1 ≤ x.length := by
  rcases (by omega : k = 0 ∨ k = 1 ∨ k = 2 ∨ k = 3 ∨ k = 4 ∨ k = 5 ∨ k = 6 ∨ k = 7 ∨ k = 8 ∨ k = 9 ∨ k = 10 ∨ k = 11 ∨ k = 12) with rfl | rfl | rfl | rfl | rfl | rfl | rfl | rfl | rfl | rfl | rfl | rfl | rfl <;> exact ⟨_, _, rfl, rfl, rfl, by decide, by decide⟩
theorem lex_sign (g : Nat) (s : Bytes) (i : Nat) (w : World) (hs : s.length ≤ 1000000) (hi : i < s.length) (hg : Blk w g 263 #[str s]) :
    Calls Tryz.prog 250 #[.pointer (some ⟨g, 0, none⟩), .int .i64 i] w fun u w' => u = .returned (.tuple #[.agg (cTok (signS s i).1).toArray, .int .i64 (signS s i).2]) ∧ Below w.heap.size w w' := by
  have hgl := hg.lt
  have hG := ((hg.alloc (.cells #[.int .u8 0, .int .i64 0, str [], .int .i64 0, .int .i64 0, .int .i64 0, .int .i64 0, .int .i64 0] 239)).alloc (.cells opsS 9)).alloc (.cells opsI 2)
  have hZ := ((Blk.new w 239 #[.int .u8 0, .int .i64 0, str [], .int .i64 0, .int .i64 0, .int .i64 0, .int .i64 0, .int .i64 0]).alloc (.cells opsS 9)).alloc (.cells opsI 2)
  have hS := (Blk.new (w.alloc (.cells #[.int .u8 0, .int .i64 0, str [], .int .i64 0, .int .i64 0, .int .i64 0, .int .i64 0, .int .i64 0] 239)) 9 opsS).alloc (.cells opsI 2)
  have hI := Blk.new ((w.alloc (.cells #[.int .u8 0, .int .i64 0, str [], .int .i64 0, .int .i64 0, .int .i64 0, .int .i64 0, .int .i64 0] 239)).alloc (.cells opsS 9)) 2 opsI
  have hB : Below w.heap.size w (((w.alloc (.cells #[.int .u8 0, .int .i64 0, str [], .int .i64 0, .int .i64 0, .int .i64 0, .int .i64 0, .int .i64 0] 239)).alloc (.cells opsS 9)).alloc (.cells opsI 2)) := by go_grown
  clear hg
  have hi0 : (0 : Int) ≤ (i : Int) := Int.natCast_nonneg _
  have hi1 : (i : Int) < (s.length : Int) := by omega
  have hx0 := str_at s i (by rw [str_size]; exact hi)
  have HU := Lib.hid (show ub s i = (s.getD i 0).toNat from rfl)
  generalize s.getD i 0 = c0 at *
  simp only [World.size_alloc] at hS hI
  have HG' := Lib.hid hG
  have HZ' := Lib.hid hZ
  have HS' := Lib.hid hS
  have HI' := Lib.hid hI
  have HB' := Lib.hid hB
  clear hG hZ hS hI hB
  go_enter Tryz.func250, Tryz.ntmps250
  go_wp2_with fail
  refine (lex_ops _).mono ?_
  rintro u w1 ⟨rfl, hw1⟩
  obtain ⟨W1, hW1⟩ : ∃ W1, ((w.alloc (.cells #[.int .u8 0, .int .i64 0, str [], .int .i64 0, .int .i64 0, .int .i64 0, .int .i64 0, .int .i64 0] 239)).alloc (.cells opsS 9)).alloc (.cells opsI 2) = W1 := ⟨_, rfl⟩
  rw [hW1] at HG' HZ' HS' HI' HB'
  have e1 : w1 = W1 := hw1.trans hW1
  subst e1
  clear hw1 hW1
  simp only [World.size_alloc]
  go_wp2_with fail
  go_loopw [16] (fun v wr => ∃ k : Nat, k ≤ 13 ∧ v = .int .i64 k ∧ opsL s i opsW = opsL s i (opsW.drop k) ∧ wr = w1) (fun v _ => 13 - (intOf v).toNat)
  case atStart => exact ⟨0, by omega, rfl, rfl, rfl⟩
  case round =>
    obtain ⟨k, hk, rfl, hdr, rfl⟩ := hrel
    have HD := Lib.hid hdr
    clear hdr
    have k0 : (0 : Int) ≤ (k : Int) := by omega
    by_cases hk13 : k < 13
    · have hk1 : (k : Int) < 13 := by omega
      obtain ⟨x, n, hn, hx, hxi, hx2, hx1⟩ := ops_at k hk13
      have HN := Lib.hid hn
      clear hn
      have cS : wr.cell? ⟨w.heap.size + 1, k, none⟩ = some (str x) := (HS'.out.cell k).trans hx
      have cI : wr.cell? ⟨w.heap.size + 1 + 1, k, none⟩ = some (.int .i64 n) := (HI'.out.cell k).trans hxi
      have cG : wr.cell? ⟨g, 0, none⟩ = some (str s) := HG'.out.cell 0
      go_wp2_with fail
      rw [ext_from _ _ _ rfl]
      refine (has_prefix (s.drop i) x _ (by simp; omega) (by omega)).mono ?_
      rintro u w2 ⟨rfl, rfl⟩
      by_cases hp : x.isPrefixOf (s.drop i) = true
      · have HE := Lib.hid (show signS s i = (⟨8, n, [], z4, i⟩, x.length) by unfold signS; rw [HD.out, HN.out]; unfold opsL; rw [if_pos hp])
        rw [hp]
        clear hp hx hxi HD HN
        obtain ⟨q0, q1, q2, q3, q4, q5, q6, q7, qf⟩ := tokz_facts HZ'.out
        have hx3 : (x.length : Int) ≤ 2 := by omega
        go_wp2
        refine bodyPost_ret (v := .tuple #[.agg (cTok ⟨8, n, [], z4, i⟩).toArray, .int .i64 x.length]) (by simp (maxDischargeDepth := 9) [results, Tryz.results250, go_sem, q0, q1, q2, q3, q4, q5, q6, q7, cTok, z4]) rfl ?_
        rw [HE.out]
        exact ⟨rfl, below8 HB'.out (Nat.le_refl _) _ _ _ _ _ _ _ _⟩
      · have HE := Lib.hid (show opsL s i opsW = opsL s i (opsW.drop (k + 1)) by
          rw [HD.out, HN.out]; conv => lhs; unfold opsL
          rw [if_neg hp])
        rw [eq_false_of_ne_true hp]
        clear hp hx hxi HD HN
        go_wp2
        exact ⟨⟨k + 1, by omega, by go_num, HE.out, trivial⟩, by simp [intOf]; omega⟩
    · have hk1 : ¬ (k : Int) < 13 := by omega
      have HN := Lib.hid (show opsL s i opsW = none by rw [HD.out, show k = 13 by omega]; rfl)
      have cG : wr.cell? ⟨g, 0, none⟩ = some (str s) := HG'.out.cell 0
      clear HD
      obtain ⟨q0, q1, q2, q3, q4, q5, q6, q7, qf⟩ := tokz_facts HZ'.out
      by_cases e40 : c0.toNat = 40
      · have HE := Lib.hid (show signS s i = (⟨9, 0, [], z4, i⟩, 1) by unfold signS; rw [HN.out, HU.out]; exact if_pos e40)
        have b40 : ((c0.toNat : Int) == 40) = true := by rw [e40]; rfl
        clear e40
        go_wp2
        refine bodyPost_ret (v := .tuple #[.agg (cTok ⟨9, 0, [], z4, i⟩).toArray, .int .i64 1]) (by simp (maxDischargeDepth := 9) [results, Tryz.results250, go_sem, q0, q1, q2, q3, q4, q5, q6, q7, cTok, z4]) rfl ?_
        rw [HE.out]
        exact ⟨rfl, below8 HB'.out (Nat.le_refl _) _ _ _ _ _ _ _ _⟩
      have b40 : ((c0.toNat : Int) == 40) = false := by simp; omega
      by_cases e41 : c0.toNat = 41
      · have HE := Lib.hid (show signS s i = (⟨10, 0, [], z4, i⟩, 1) by unfold signS; rw [HN.out, HU.out]; exact (if_neg e40).trans (if_pos e41))
        have b41 : ((c0.toNat : Int) == 41) = true := by rw [e41]; rfl
        clear e40 e41
        go_wp2
        refine bodyPost_ret (v := .tuple #[.agg (cTok ⟨10, 0, [], z4, i⟩).toArray, .int .i64 1]) (by simp (maxDischargeDepth := 9) [results, Tryz.results250, go_sem, q0, q1, q2, q3, q4, q5, q6, q7, cTok, z4]) rfl ?_
        rw [HE.out]
        exact ⟨rfl, below8 HB'.out (Nat.le_refl _) _ _ _ _ _ _ _ _⟩
      have b41 : ((c0.toNat : Int) == 41) = false := by simp; omega
      by_cases e44 : c0.toNat = 44
      · have HE := Lib.hid (show signS s i = (⟨11, 0, [], z4, i⟩, 1) by unfold signS; rw [HN.out, HU.out]; exact (if_neg e40).trans ((if_neg e41).trans (if_pos e44)))
        have b44 : ((c0.toNat : Int) == 44) = true := by rw [e44]; rfl
        clear e40 e41 e44
        go_wp2
        refine bodyPost_ret (v := .tuple #[.agg (cTok ⟨11, 0, [], z4, i⟩).toArray, .int .i64 1]) (by simp (maxDischargeDepth := 9) [results, Tryz.results250, go_sem, q0, q1, q2, q3, q4, q5, q6, q7, cTok, z4]) rfl ?_
        rw [HE.out]
        exact ⟨rfl, below8 HB'.out (Nat.le_refl _) _ _ _ _ _ _ _ _⟩
      have b44 : ((c0.toNat : Int) == 44) = false := by simp; omega
      have HE := Lib.hid (show signS s i = (tok0, 0) by unfold signS; rw [HN.out, HU.out]; exact (if_neg e40).trans ((if_neg e41).trans (if_neg e44)))
      clear e40 e41 e44
      go_wp2
      refine bodyPost_ret (v := .tuple #[.agg (cTok tok0).toArray, .int .i64 0]) (by simp (maxDischargeDepth := 9) [results, Tryz.results250, go_sem, q0, q1, q2, q3, q4, q5, q6, q7, cTok, z4, tok0]) rfl ?_
      rw [HE.out]
      exact ⟨rfl, below8 HB'.out (Nat.le_refl _) _ _ _ _ _ _ _ _⟩
/-- The bytes of a number, the greatest first. -/
def beB (n : Nat) : Bytes := if _h : n = 0 then [] else beB (n / 256) ++ [UInt8.ofNat (n % 256)]
termination_by n
decreasing_by omega
def numB (n : Nat) : Bytes := UInt8.ofNat (beB n).length :: beB n
def numI (n : Int) : Bytes := numB (n % 18446744073709551616).toNat
theorem beB_zero : beB 0 = [] := by rw [beB]; simp
theorem beB_pos {n : Nat} (h : n ≠ 0) : beB n = beB (n / 256) ++ [UInt8.ofNat (n % 256)] := by rw [beB]; simp [h]
theorem beB_pos_len {n : Nat} (h : n ≠ 0) : (beB n).length = (beB (n / 256)).length + 1 := by rw [beB_pos h]; simp
theorem beB_le : ∀ (k n : Nat), n < 256 ^ k → (beB n).length ≤ k
  | 0, n, h => by
    have : n = 0 := by simpa using h
    subst this
    simp [beB_zero]
  | k + 1, n, h => by
    by_cases h0 : n = 0
    · subst h0; simp [beB_zero]
    · rw [beB_pos_len h0]
      have := beB_le k (n / 256) (by rw [Nat.pow_succ] at h; exact Nat.div_lt_of_lt_mul (by omega))
      omega
theorem beB_le8 {n : Nat} (h : n < 18446744073709551616) : (beB n).length ≤ 8 := beB_le 8 n (by simpa using h)
theorem beB_at : ∀ (n i : Nat), i < (beB n).length → (beB n)[(beB n).length - 1 - i]? = some (UInt8.ofNat (n / 256 ^ i % 256)) := by
  intro n
  induction n using Nat.strongRecOn with
  | _ n ih =>
    intro i hi
    by_cases h0 : n = 0
    · subst h0; simp [beB_zero] at hi
    · have hl := beB_pos_len h0
      rw [beB_pos h0] at hi ⊢
      rw [List.length_append, List.length_singleton] at hi ⊢
      rcases i with _ | i
      · rw [List.getElem?_append_right (by omega)]
        simp
      · rw [List.getElem?_append_left (by omega)]
        have h := ih (n / 256) (by omega) i (by omega)
        rw [show (beB (n / 256)).length + 1 - 1 - (i + 1) = (beB (n / 256)).length - 1 - i by omega, h, Nat.div_div_eq_div_mul, Nat.pow_succ, Nat.mul_comm]
theorem beB_take {n j : Nat} (h : j < (beB n).length) : (beB n).take (j + 1) = (beB n).take j ++ [UInt8.ofNat (n / 256 ^ ((beB n).length - 1 - j) % 256)] := by
  have h2 := beB_at n ((beB n).length - 1 - j) (by omega)
  rw [show (beB n).length - 1 - ((beB n).length - 1 - j) = j by omega] at h2
  rw [List.take_add_one, h2]
  rfl
theorem beB_byte (m i : Nat) : ((m : Int) / 2 ^ (8 * i) % 256).toNat = m / 256 ^ i % 256 := by
  have e : ((m : Int) / 2 ^ (8 * i) % 256) = ((m / 2 ^ (8 * i) % 256 : Nat) : Int) := by simp
  rw [e, Nat.pow_mul]
  rfl
theorem numB_le {n : Nat} (h : n < 18446744073709551616) : (numB n).length ≤ 9 := by have := beB_le8 h; simp [numB]; omega
theorem numI_le (n : Int) : (numI n).length ≤ 9 := numB_le (by omega)
/-! ### A script's bytes -/
def flagB (b : Bool) : Bytes := numI (if b then 1 else 0)
def textB (s : Bytes) : Bytes := numI s.length ++ s
def placeB (r : Ref) : Bytes := numI r.col ++ numI r.row
def cornB (r : Rct) : Bytes := numI r.c1 ++ numI r.r1 ++ numI r.c2 ++ numI r.r2
def setsB (r : Rts) : Bytes := numI r.rd ++ numI r.wr ++ numI r.ow
def entB (x : Ent) : Bytes := placeB x.at_ ++ textB x.input
def rulB (x : Rul) : Bytes := cornB x.rect ++ setsB x.rights
def grtB (x : Grt) : Bytes := cornB x.rect ++ numI x.fns ++ numI x.to_ ++ numI x.by_ ++ flagB x.revoked
def evtB (x : Evt) : Bytes := numI x.step ++ numI x.user ++ numI x.kind ++ cornB x.rect ++ flagB x.done_ ++ numI x.to_
def rlsB (x : Rls) : Bytes := numI x.step ++ placeB x.at_ ++ numI x.node ++ numI x.fn ++ cornB x.rect ++ numI x.grant ++ numI x.to_
def oprF (x : Opr) : List (Bool × Bytes) :=
  [(decide (x.user ≠ 0), numI x.user), (decide (x.rect ≠ ⟨0, 0, 0, 0⟩), cornB x.rect), (decide (x.input ≠ []), textB x.input), (decide (x.rights ≠ ⟨0, 0, 0⟩), setsB x.rights),
   (decide (x.fns ≠ 0), numI x.fns), (decide (x.to_ ≠ 0), numI x.to_), (decide (x.index ≠ 0), numI x.index)]
def maskN : List (Bool × Bytes) → Int
  | [] => 0
  | (b, _) :: l => (if b then 1 else 0) + 2 * maskN l
def oprB (x : Opr) : Bytes := numI x.kind ++ numI (maskN (oprF x)) ++ (oprF x).flatMap fun p => if p.1 then p.2 else []
def listB {α : Type} (f : α → Bytes) (l : List α) : Bytes := numI l.length ++ l.flatMap f
def scpB (s : Scp) : Bytes :=
  numI s.book.users ++ listB entB s.book.entries ++ listB rulB s.book.rules ++ listB grtB s.book.grants ++ listB evtB s.book.log ++ listB rlsB s.book.releases ++ numI s.book.step ++ listB oprB s.ops
theorem num_int (v : Value) (l : Bytes) (n : Int) (w : World) (h : Out w v l) (hl : l.length ≤ 100000000000) :
    Calls Tryz.prog 84 #[v, .int .i64 n] w fun e w' => ∃ v', e = .returned v' ∧ Out w' v' (l ++ numI n) ∧ OutTo w v w' v' := by
  obtain ⟨i0, hi0, hz0, hz1, hz2⟩ := info_parts (show (Tryz.prog.info? 5).map (fun i => (i.zero, i.size, i.bytes)) = some (some (.int .u8 0), 1, 1) by kernel_rfl)
  obtain ⟨m, hm, hm2⟩ : ∃ m : Nat, IntKind.u64.wrap n = (m : Int) ∧ m < 18446744073709551616 := ⟨(n % 18446744073709551616).toNat, by rw [IntKind.wrap_u64]; omega, by omega⟩
  have hN : Hid (numI n = numB m) := by
    unfold Hid numI
    rw [← IntKind.wrap_u64, hm]
    rfl
  have h8 := beB_le8 hm2
  have H0 := Lib.hid h
  clear h
  go_enter Tryz.func84, Tryz.ntmps84
  go_wp2
  go_loop [6, 7] (fun s x => ∃ k y : Nat, s = .int .i64 k ∧ x = .int .u64 y ∧ (beB m).length = k + (beB y).length) (fun _ x => (intOf x).toNat)
  case atStart => exact ⟨0, m, rfl, rfl, by simp⟩
  case round =>
    obtain ⟨k, y, rfl, rfl, hk⟩ := hrel
    by_cases hy : 0 < y
    · have hk2 := beB_pos_len (n := y) (by omega)
      have HK := Lib.hid hk
      go_wp2
      exact ⟨⟨k + 1, y / 256, rfl, rfl, by omega⟩, by simp [intOf]; omega⟩
    · obtain rfl : y = 0 := by omega
      rw [beB_zero] at hk
      have hk1 : k = (beB m).length := by simpa using hk.symm
      have HK := Lib.hid hk1
      have e1 : l ++ [UInt8.ofNat (k : Int).toNat] = l ++ [UInt8.ofNat (beB m).length] := by rw [hk1]; rfl
      have E1 := Lib.hid e1
      have hk9 : k ≤ 8 := by omega
      clear hk hk1 e1
      go_wp2_with (at_builtin; refine wpList_push rfl _ _ 59 rfl i0 rfl hi0 hz0 hz1 hz2 v l rfl (H0.out.alloc _) w.heap.size k rfl (by omega) (by omega) (World.cell?_alloc_at _ _ _ _ rfl) (by omega) ?_; intro v1 w1 o1 t1)
      have T1 := Lib.hid (((OutTo.refl w v).alloc _).trans t1)
      rw [E1.out] at o1
      have O1 := Lib.hid o1
      clear t1 o1
      go_wp2
      go_loopw [0, 8] (fun u i wr => ∃ j : Nat, j ≤ k ∧ i = .int .i64 ((k : Int) - 1 - j) ∧ Out wr u (l ++ UInt8.ofNat (beB m).length :: (beB m).take j) ∧ OutTo w v wr u) (fun _ i _ => (intOf i + 1).toNat)
      case atStart => exact ⟨0, by omega, by simp, by simpa using O1.out, T1.out⟩
      case round =>
        obtain ⟨j, hj, rfl, oj, tj⟩ := hrel
        have OJ := Lib.hid oj
        have TJ := Lib.hid tj
        clear oj tj
        by_cases hlt : j < k
        · have b0 : (0 : Int) ≤ (k : Int) - 1 - j := by omega
          have hb := beB_byte m (k - 1 - j)
          rw [HK.out] at hb
          have ht := beB_take (n := m) (j := j) (by rw [← HK.out]; omega)
          rw [← hb, ← HK.out] at ht
          have HT := Lib.hid ht
          clear hb ht
          go_wp2_with (at_builtin; refine wpList_push rfl _ _ 59 rfl i0 rfl hi0 hz0 hz1 hz2 u0 _ rfl (OJ.out.alloc _) wr.heap.size ((m : Int) / 2 ^ (8 * (k - 1 - j)) % 256) rfl (by omega) (by omega) (World.cell?_alloc_at _ _ _ _ rfl) (by simp; omega) ?_; intro v2 w2 o2 t2)
          have T2 := Lib.hid (TJ.out.trans (((OutTo.refl wr u0).alloc _).trans t2))
          have O2 := Lib.hid o2
          clear t2 o2
          go_wp2
          refine ⟨⟨j + 1, by omega, by go_num, ?_, T2.out⟩, by simp [intOf]; omega⟩
          rw [HT.out]
          simpa using O2.out
        · go_wp2
          go_ret
          have hjk : j = (beB m).length := by rw [← HK.out]; omega
          refine ⟨_, rfl, ?_, TJ.out⟩
          have := OJ.out
          rw [hjk, List.take_length] at this
          rw [hN.out]
          exact this
theorem num_u64 (v : Value) (l : Bytes) (n : Int) (w : World) (hn0 : 0 ≤ n) (hn1 : n < 18446744073709551616) (h : Out w v l) (hl : l.length ≤ 100000000000) :
    Calls Tryz.prog 96 #[v, .int .u64 n] w fun e w' => ∃ v', e = .returned v' ∧ Out w' v' (l ++ numI n) ∧ OutTo w v w' v' := by
  obtain ⟨i0, hi0, hz0, hz1, hz2⟩ := info_parts (show (Tryz.prog.info? 5).map (fun i => (i.zero, i.size, i.bytes)) = some (some (.int .u8 0), 1, 1) by kernel_rfl)
  obtain ⟨m, rfl⟩ : ∃ m : Nat, n = (m : Int) := ⟨n.toNat, by omega⟩
  have hm2 : m < 18446744073709551616 := by omega
  have hN : Hid (numI (m : Int) = numB m) := by
    unfold Hid numI
    congr 1
    omega
  clear hn0 hn1
  have h8 := beB_le8 hm2
  have H0 := Lib.hid h
  clear h
  go_enter Tryz.func96, Tryz.ntmps96
  go_wp2
  go_loop [6, 7] (fun s x => ∃ k y : Nat, s = .int .i64 k ∧ x = .int .u64 y ∧ (beB m).length = k + (beB y).length) (fun _ x => (intOf x).toNat)
  case atStart => exact ⟨0, m, rfl, rfl, by simp⟩
  case round =>
    obtain ⟨k, y, rfl, rfl, hk⟩ := hrel
    by_cases hy : 0 < y
    · have hk2 := beB_pos_len (n := y) (by omega)
      have HK := Lib.hid hk
      go_wp2
      exact ⟨⟨k + 1, y / 256, rfl, rfl, by omega⟩, by simp [intOf]; omega⟩
    · obtain rfl : y = 0 := by omega
      rw [beB_zero] at hk
      have hk1 : k = (beB m).length := by simpa using hk.symm
      have HK := Lib.hid hk1
      have e1 : l ++ [UInt8.ofNat (k : Int).toNat] = l ++ [UInt8.ofNat (beB m).length] := by rw [hk1]; rfl
      have E1 := Lib.hid e1
      have hk9 : k ≤ 8 := by omega
      clear hk hk1 e1
      go_wp2_with (at_builtin; refine wpList_push rfl _ _ 59 rfl i0 rfl hi0 hz0 hz1 hz2 v l rfl (H0.out.alloc _) w.heap.size k rfl (by omega) (by omega) (World.cell?_alloc_at _ _ _ _ rfl) (by omega) ?_; intro v1 w1 o1 t1)
      have T1 := Lib.hid (((OutTo.refl w v).alloc _).trans t1)
      rw [E1.out] at o1
      have O1 := Lib.hid o1
      clear t1 o1
      go_wp2
      go_loopw [0, 8] (fun u i wr => ∃ j : Nat, j ≤ k ∧ i = .int .i64 ((k : Int) - 1 - j) ∧ Out wr u (l ++ UInt8.ofNat (beB m).length :: (beB m).take j) ∧ OutTo w v wr u) (fun _ i _ => (intOf i + 1).toNat)
      case atStart => exact ⟨0, by omega, by simp, by simpa using O1.out, T1.out⟩
      case round =>
        obtain ⟨j, hj, rfl, oj, tj⟩ := hrel
        have OJ := Lib.hid oj
        have TJ := Lib.hid tj
        clear oj tj
        by_cases hlt : j < k
        · have b0 : (0 : Int) ≤ (k : Int) - 1 - j := by omega
          have hb := beB_byte m (k - 1 - j)
          rw [HK.out] at hb
          have ht := beB_take (n := m) (j := j) (by rw [← HK.out]; omega)
          rw [← hb, ← HK.out] at ht
          have HT := Lib.hid ht
          clear hb ht
          go_wp2_with (at_builtin; refine wpList_push rfl _ _ 59 rfl i0 rfl hi0 hz0 hz1 hz2 u0 _ rfl (OJ.out.alloc _) wr.heap.size ((m : Int) / 2 ^ (8 * (k - 1 - j)) % 256) rfl (by omega) (by omega) (World.cell?_alloc_at _ _ _ _ rfl) (by simp; omega) ?_; intro v2 w2 o2 t2)
          have T2 := Lib.hid (TJ.out.trans (((OutTo.refl wr u0).alloc _).trans t2))
          have O2 := Lib.hid o2
          clear t2 o2
          go_wp2
          refine ⟨⟨j + 1, by omega, by go_num, ?_, T2.out⟩, by simp [intOf]; omega⟩
          rw [HT.out]
          simpa using O2.out
        · go_wp2
          go_ret
          have hjk : j = (beB m).length := by rw [← HK.out]; omega
          refine ⟨_, rfl, ?_, TJ.out⟩
          have := OJ.out
          rw [hjk, List.take_length] at this
          rw [hN.out]
          exact this
end Go.Proofs.YtamcgggmfghljaaGreatDoor
