/- Layer 11 (program): what an input means. · Layer 11 (program): entries checked (printed by tools/gen_entchk.py). · Layer 18 (program): the set of all users; a user in a set. · Layer 19 (program): rules checked. -/
import Derived.Deep.QuietTactic
import Derived.BigQuiet
import Derived.Laws.ShiftsVarLaws
import Derived.Deep.RegionHeld3
import Derived.Test.YtamcgggmfghljaaGreatDoorC27
set_option maxRecDepth 100000
set_option maxHeartbeats 8000000
namespace Go.Proofs.YtamcgggmfghljaaGreatDoor
open Go.RowKit
theorem ext_one (l : Bytes) (k : Nat) (h : k < l.length) : (⟨l.toArray⟩ : ByteArray).extract k (k + 1) = ⟨[l[k]].toArray⟩ := by
  apply ByteArray.ext
  simp only [ByteArray.data_extract]
  apply Array.ext'
  simp only [Array.toList_extract, List.extract_eq_take_drop, Nat.add_sub_cancel_left]
  rw [List.drop_eq_getElem_cons h]
  rfl
theorem plt_one (c : UInt8) : txtE [c] = if 32 ≤ c.toNat ∧ c.toNat ≤ 126 then 0 else 4 := by
  unfold txtE prB
  simp
theorem plt_txt {s : Bytes} (h : pltB s = true) (hl : s.length ≤ 256) : txtE s = 0 := by
  unfold txtE
  rw [if_neg (by omega), if_pos (prB_pltB _ h)]
theorem ofE_eq {s : Bytes} (hl : s.length ≤ 256) (hp : pltB s = true) (h : s.head? = some 61) : ofE s = (formulaS s.tail).2 := by
  unfold ofE
  rw [if_neg (by omega), if_neg (by rw [hp]; simp), if_pos h]
theorem ofE_no {s : Bytes} (hl : s.length ≤ 256) (hp : pltB s = true) (h : s.head? ≠ some 61) : ofE s = 0 := by
  unfold ofE
  rw [if_neg (by omega), if_neg (by rw [hp]; simp), if_neg h]
theorem pre_61 (s : Bytes) : ([61] : Bytes).isPrefixOf s = decide (s.head? = some 61) := by
  cases s with
  | nil => rfl
  | cons c t =>
    simp only [List.isPrefixOf, List.head?_cons, Option.some.injEq, Bool.and_true]
    rw [Bool.eq_iff_iff]
    simp only [beq_iff_eq, decide_eq_true_eq]
    exact eq_comm
theorem of_any (s : Bytes) (w : World) (hs : s.length ≤ 1000000) (hw : Words w) :
    Calls Tryz.prog 169 #[str s] w fun u w' => ∃ (f : Bool) (k n : Int) (x : Bytes) (A : Option Addr) (l c : Nat) (p : Int), u = .returned (.tuple #[.agg #[.bool f, .int .u8 k, .int .i64 n, str x, .slice A l c], .int .i64 p, .int .i64 (ofE s)]) ∧ Below w.heap.size w w' := by
  have HW := Lib.hid hw
  clear hw
  have HB0 := Lib.hid (show Below w.heap.size w (w.alloc (.cells #[.bool false, .int .u8 0, .int .i64 0, str [], .slice none 0 0] 192)) from by go_grown)
  have K0 := Lib.hid (Blk.new w 192 #[.bool false, .int .u8 0, .int .i64 0, str [], .slice none 0 0])
  by_cases h256 : 256 < s.length
  · have HE := Lib.hid (show ofE s = 5 by unfold ofE; rw [if_pos h256])
    have g256 : (256 : Int) < (s.length : Int) := by omega
    go_enter Tryz.func169, Tryz.ntmps169
    go_wp2
    refine bodyPost_ret (v := .tuple #[.agg #[.bool false, .int .u8 0, .int .i64 0, str [], .slice none 0 0], .int .i64 0, .int .i64 5]) (by simp (maxDischargeDepth := 9) [results, Tryz.results169, go_sem]) rfl ?_
    exact ⟨false, 0, 0, [], none, 0, 0, 0, by rw [HE.out], by go_grown⟩
  have g256 : ¬ (256 : Int) < (s.length : Int) := by omega
  have hl256 : s.length ≤ 256 := by omega
  go_enter Tryz.func169, Tryz.ntmps169
  go_upto_region 3 with (fail)
  obtain ⟨W0, hW0⟩ : ∃ W0, w.alloc (.cells #[.bool false, .int .u8 0, .int .i64 0, str [], .slice none 0 0] 192) = W0 := ⟨_, rfl⟩
  rw [show (Value.string ⟨#[]⟩) = str [] from rfl] at *
  rw [hW0] at HB0 K0 ⊢
  clear hW0
  have HPL : RowKit.Hid ((∀ j, j < s.length → 32 ≤ ub s j ∧ ub s j ≤ 126) → pltB s = true) := Lib.hid (plt_all s)
  go_wp2_with fail
  go_loopw [15] (fun i wr => ∃ k : Nat, k ≤ s.length ∧ i = .int .i64 k ∧ (∀ j, j < k → 32 ≤ ub s j ∧ ub s j ≤ 126) ∧ Below w.heap.size w wr ∧ Blk wr w.heap.size 192 #[.bool false, .int .u8 0, .int .i64 0, str [], .slice none 0 0]) (fun i _ => s.length - (intOf i).toNat)
  case atStart => exact ⟨0, by omega, rfl, fun j hj => by omega, HB0.out, K0.out⟩
  case round =>
    obtain ⟨k, hk, rfl, hpl, hbw, hkw⟩ := hrel
    have HP := Lib.hid hpl
    have HBW := Lib.hid hbw
    have KW := Lib.hid hkw
    clear hpl hbw hkw K0 HB0
    have hk0 : (0 : Int) ≤ (k : Int) := Int.natCast_nonneg _
    by_cases hlt : k < s.length
    · have hk1 : (k : Int) < (s.length : Int) := by omega
      have hub : ub s k = s[k].toNat := by unfold ub; rw [List.getD_eq_getElem?_getD, List.getElem?_eq_getElem hlt]; rfl
      have HX := Lib.hid (ext_one s k hlt)
      have HUB := Lib.hid hub
      clear hub
      generalize s[k] = c at HX HUB
      go_wp2_with fail
      rw [HX.out]
      refine (glyph_check [c] _ (by simp)).mono ?_
      rintro u w2 ⟨rfl, hb2⟩
      have K2 := Lib.hid (KW.out.below_ hb2)
      have HB2 := Lib.hid (Below.next HBW.out hb2 HBW.out.size)
      clear hb2
      rw [plt_one]
      by_cases hc : 32 ≤ c.toNat ∧ c.toNat ≤ 126
      · rw [if_pos hc]
        have HC := Lib.hid hc
        clear hc
        go_wp2
        exact ⟨⟨k + 1, by omega, by go_num, fun j hj => by
          rcases Nat.lt_or_ge j k with h | h
          · exact HP.out j h
          · obtain rfl : j = k := by omega
            rw [HUB.out]
            exact HC.out, HB2.out, K2.out⟩, by simp [intOf]; omega⟩
      · rw [if_neg hc]
        have HE := Lib.hid (show ofE s = 4 by
          unfold ofE
          rw [if_neg (by omega), if_pos (plt_at s k hlt (by rw [HUB.out]; exact hc))])
        have g0 := K2.out.cell 0
        have g1 := K2.out.cell 1
        have g2 := K2.out.cell 2
        have g3 := K2.out.cell 3
        have g4 := K2.out.cell 4
        have fr := K2.out.frozen
        have lb := K2.out.lt
        clear hc
        go_wp2
        refine bodyPost_ret (v := .tuple #[.agg #[.bool false, .int .u8 0, .int .i64 0, str [], .slice none 0 0], .int .i64 k, .int .i64 4]) (by simp (maxDischargeDepth := 9) [results, Tryz.results169, go_sem, g0, g1, g2, g3, g4]) rfl ?_
        exact ⟨false, 0, 0, [], none, 0, 0, k, by rw [HE.out], Below.setCell (Below.setCell (Below.setCell (Below.setCell (Below.setCell HB2.out (by simp) _) (by simp) _) (by simp) _) (by simp) _) (by simp) _⟩
    · have hpl := HPL.out (fun j hj => HP.out j (by omega))
      have hnl : ¬ (k : Int) < (s.length : Int) := by omega
      have HTX := Lib.hid (plt_txt hpl hl256)
      have hp61 := pre_61 s
      have HEY : RowKit.Hid (s.head? = some 61 → ofE s = (formulaS s.tail).2) := Lib.hid (ofE_eq hl256 hpl)
      have HEN : RowKit.Hid (s.head? ≠ some 61 → ofE s = 0) := Lib.hid (ofE_no hl256 hpl)
      clear hpl HP
      go_wp2_with fail
      refine (cut_prefix s [61] _ hs (by simp)).mono ?_
      rintro u w2 ⟨rfl, rfl⟩
      by_cases hh : s.head? = some 61
      rotate_left
      · have HE := Lib.hid (HEN.out hh)
        have hb : ([61] : Bytes).isPrefixOf s = false := by rw [hp61]; simpa using hh
        rw [hb]
        clear hh hb hp61
        generalize cutB s [61] = rest
        go_wp2_with fail
        refine (constant_any s _ HTX.out hs (HW.out.below (HBW.out.mono (Nat.le_refl _)))).mono ?_
        rintro u w3 ⟨kk, n, x, rfl, hb3⟩
        have K3 := Lib.hid (KW.out.below_ hb3)
        have HB3 := Lib.hid (Below.next HBW.out hb3 HBW.out.size)
        clear hb3
        have g0 := K3.out.cell 0
        have g1 := K3.out.cell 1
        have g2 := K3.out.cell 2
        have g3 := K3.out.cell 3
        have g4 := K3.out.cell 4
        have fr := K3.out.frozen
        have lb := K3.out.lt
        go_wp2
        refine bodyPost_ret (v := .tuple #[.agg #[.bool false, .int .u8 kk, .int .i64 n, str x, .slice none 0 0], .int .i64 0, .int .i64 0]) (by simp (maxDischargeDepth := 9) [results, Tryz.results169, go_sem, g0, g1, g2, g3, g4]) rfl ?_
        exact ⟨false, kk, n, x, none, 0, 0, 0, by rw [HE.out], Below.setCell (Below.setCell (Below.setCell (Below.setCell (Below.setCell HB3.out (by simp) _) (by simp) _) (by simp) _) (by simp) _) (by simp) _⟩
      have HE := Lib.hid (HEY.out hh)
      have hb : ([61] : Bytes).isPrefixOf s = true := by rw [hp61]; simpa using hh
      have hcut : cutB s [61] = s.tail := by rw [cut_yes hb]; simp
      rw [hb, hcut]
      have htl : s.tail.length ≤ 1000000 := by rw [List.length_tail]; omega
      clear hh hb hp61 hcut
      go_wp2_with fail
      refine (formula_any s.tail _ htl (HW.out.below (HBW.out.mono (Nat.le_refl _)))).mono ?_
      rintro u w3 ⟨v, p, rfl, hsl, hb3⟩
      obtain ⟨A3, c3, rfl, -⟩ := id hsl
      have K3 := Lib.hid (KW.out.below_ hb3)
      have HB3 := Lib.hid (Below.next HBW.out hb3 HBW.out.size)
      clear hb3 hsl
      have g0 := K3.out.cell 0
      have g1 := K3.out.cell 1
      have g2 := K3.out.cell 2
      have g3 := K3.out.cell 3
      have g4 := K3.out.cell 4
      have fr := K3.out.frozen
      have lb := K3.out.lt
      by_cases he : (formulaS s.tail).2 = 0
      · have be : ((formulaS s.tail).2 != 0) = false := by simpa using he
        have HE0 := Lib.hid (HE.out.trans he)
        clear he
        go_wp2
        refine bodyPost_ret (v := .tuple #[.agg #[.bool true, .int .u8 0, .int .i64 0, str [], .slice A3 (formulaS s.tail).1.length c3], .int .i64 0, .int .i64 0]) (by simp (maxDischargeDepth := 9) [results, Tryz.results169, go_sem, g0, g1, g2, g3, g4]) rfl ?_
        exact ⟨true, 0, 0, [], A3, _, c3, 0, by rw [HE0.out], Below.setCell (Below.setCell (Below.setCell (Below.setCell (Below.setCell HB3.out (by simp) _) (by simp) _) (by simp) _) (by simp) _) (by simp) _⟩
      · have be : ((formulaS s.tail).2 != 0) = true := by simpa using he
        generalize (formulaS s.tail).2 = fe at *
        clear he
        go_wp2
        refine bodyPost_ret (v := .tuple #[.agg #[.bool false, .int .u8 0, .int .i64 0, str [], .slice none 0 0], .int .i64 (wrap64 (p + 1)), .int .i64 fe]) (by simp (maxDischargeDepth := 9) [results, Tryz.results169, go_sem, g0, g1, g2, g3, g4]) rfl ?_
        exact ⟨false, 0, 0, [], none, 0, 0, _, by rw [HE.out], Below.setCell (Below.setCell (Below.setCell (Below.setCell (Below.setCell HB3.out (by simp) _) (by simp) _) (by simp) _) (by simp) _) (by simp) _⟩
/-- An entry's error behind another one. -/
def entOneE (p : Option Ent) (x : Ent) : Int :=
  if validB x.at_.col x.at_.row = false then 3 else if (p.map fun y => lessB y.at_ x.at_) = some false then 12 else if x.input = [] then 2 else ofE x.input
def entE : Option Ent → List Ent → Int
  | _, [] => 0
  | p, x :: l => if entOneE p x ≠ 0 then entOneE p x else entE (some x) l
def prevAt (l : List Ent) (k : Nat) : Option Ent := if k = 0 then none else l[k - 1]?
theorem entE_drop (l : List Ent) {k : Nat} {x : Ent} (h : l[k]? = some x) : entE (prevAt l k) (l.drop k) = if entOneE (prevAt l k) x ≠ 0 then entOneE (prevAt l k) x else entE (prevAt l (k + 1)) (l.drop (k + 1)) := by
  have hk := (List.getElem?_eq_some_iff.1 h).1
  rw [List.drop_eq_getElem_cons hk]
  have e : l[k] = x := by rw [List.getElem?_eq_getElem hk] at h; simpa using h
  have e2 : prevAt l (k + 1) = some x := by
    unfold prevAt
    rw [if_neg (by omega), Nat.add_sub_cancel, h]
  rw [e, e2]
  rfl
theorem entry_check (sv : Value) (l : List Ent) (B : Nat) (w : World) (hB : B ≤ w.heap.size) (hs : Sls cEnt w B sv l) (hw : Words w) (hil : ∀ x ∈ l, x.input.length ≤ 1000000) :
    Calls Tryz.prog 110 #[sv] w fun u w' => ∃ i, u = .returned (.tuple #[.int .i64 i, .int .i64 (entE none l)]) ∧ Below w.heap.size w w' := by
  obtain ⟨A, cap, rfl, hc, hm, hr⟩ := id hs
  have HS := Lib.hid hs
  have HW := Lib.hid hw
  have HIL := Lib.hid hil
  clear hs hr hw hil
  unfold maxLen at hm
  go_enter Tryz.func110, Tryz.ntmps110
  go_wp2_with fail
  go_loopw [11] (fun i wr => ∃ k : Nat, k ≤ l.length ∧ i = .int .i64 k ∧ Below w.heap.size w wr ∧ entE none l = entE (prevAt l k) (l.drop k)) (fun i _ => l.length - (intOf i).toNat)
  case atStart => exact ⟨0, by omega, rfl, by go_grown, by simp [prevAt]⟩
  case round =>
    obtain ⟨k, hk, rfl, hbw, hfe⟩ := hrel
    have HF := Lib.hid hfe
    have HBW := Lib.hid hbw
    clear hfe
    by_cases hlt : k < l.length
    rotate_left
    · go_wp2
      go_ret2
      refine ⟨0, ?_, HBW.out⟩
      rw [HF.out, List.drop_eq_nil_of_le (by omega)]
      rfl
    have hy : l[k]? = some l[k] := List.getElem?_eq_getElem hlt
    obtain ⟨b, o, hA, hb2, r⟩ := (HS.out.below (hbw.mono hB)).get 3 cEnt_len hy
    have HD := Lib.hid (entE_drop l hy)
    have HIN := Lib.hid (HIL.out l[k] (List.getElem_mem hlt))
    generalize l[k] = y at *
    subst hA
    have HE : RowKit.Hid (entOneE (prevAt l k) y ≠ 0 → entE none l = entOneE (prevAt l k) y) := Lib.hid (fun h => by rw [HF.out, HD.out, if_pos h])
    have r0 : wr.cell? ⟨b, o + k * 3, none⟩ = some (.int .i64 y.at_.col) := r 0 _ rfl
    have r1 : wr.cell? ⟨b, o + k * 3 + 1, none⟩ = some (.int .i64 y.at_.row) := r 1 _ rfl
    have r2 : wr.cell? ⟨b, o + k * 3 + 2, none⟩ = some (str y.input) := r 2 _ rfl
    have K0 := Lib.hid (Blk.new wr 58 #[.int .i64 y.at_.col, .int .i64 y.at_.row, str y.input])
    have HB0 := Lib.hid (show Below w.heap.size w (wr.alloc (.cells #[.int .i64 y.at_.col, .int .i64 y.at_.row, str y.input] 58)) from HBW.out.alloc HBW.out.size _)
    have hi0 : (0 : Int) ≤ (k : Int) := Int.natCast_nonneg _
    have hi1 : (k : Int) < (l.length : Int) := by omega
    have hblt : b < wr.heap.size := by have := HBW.out.size; omega
    clear r hy
    go_wp2_with fail
    refine (addr_valid _ _ _).mono ?_
    rintro u w2 ⟨rfl, hb2'⟩
    have K2 := Lib.hid (K0.out.below_ hb2')
    have HB2 := Lib.hid (Below.next HB0.out hb2' HB0.out.size)
    have HBR := Lib.hid (show Below wr.heap.size wr w2 from Below.next (by go_grown) hb2' (by simp))
    clear hb2' K0 r0 r1 r2
    have x0 : w2.cell? ⟨wr.heap.size, 0, none⟩ = some (.int .i64 y.at_.col) := K2.out.cell 0
    have x1 : w2.cell? ⟨wr.heap.size, 1, none⟩ = some (.int .i64 y.at_.row) := K2.out.cell 1
    have x2 : w2.cell? ⟨wr.heap.size, 2, none⟩ = some (str y.input) := K2.out.cell 2
    cases hv : validB y.at_.col y.at_.row with
    | false =>
      have HY := Lib.hid (show entOneE (prevAt l k) y = 3 by unfold entOneE; rw [if_pos hv])
      go_wp2
      go_ret2
      exact ⟨k, by rw [HE.out (by rw [HY.out]; decide), HY.out]; rfl, HB2.out⟩
    | true =>
    by_cases hk0 : k = 0
    · subst hk0
      have HO : RowKit.Hid (entOneE (prevAt l 0) y = if y.input = [] then 2 else ofE y.input) := Lib.hid (by
        unfold entOneE
        rw [if_neg (by rw [hv]; simp), if_neg (by simp [prevAt])])
      go_wp2_with fail
      go_quiet (fail)
      have x2q : (w2.drewN nq).cell? ⟨wr.heap.size, 2, none⟩ = some (str y.input) := x2
      by_cases hin : y.input = []
      · have HY := Lib.hid (show entOneE (prevAt l 0) y = 2 from HO.out.trans (if_pos hin))
        have bi : (y.input == ([] : List UInt8)) = true := by simp [hin]
        clear hin
        go_wp2
        go_ret2
        exact ⟨_, by rw [HE.out (by rw [HY.out]; decide), HY.out]; rfl, (Below.drewN_ HB2.out _)⟩
      have bi : (y.input == ([] : List UInt8)) = false := by simpa using hin
      have HY := Lib.hid (HO.out.trans (if_neg hin))
      clear hin
      go_wp2_with fail
      refine (of_any y.input _ HIN.out (HW.out.below ((Below.drewN_ HB2.out _).mono (Nat.le_refl _)))).mono ?_
      rintro u w5 ⟨f, kk, n, x, A5, l5, c5, p5, rfl, hb5⟩
      have HB5 := Lib.hid (Below.next ((Below.drewN_ HB2.out _)) hb5 ((Below.drewN_ HB2.out _)).size)
      have HB6 := Lib.hid (HB5.out.alloc HB5.out.size (.cells #[.bool f, .int .u8 kk, .int .i64 n, str x, .slice A5 l5 c5] 192))
      clear hb5
      by_cases he : ofE y.input = 0
      · have be : (ofE y.input != 0) = false := by simpa using he
        have HZ := Lib.hid (HY.out.trans he)
        clear he
        go_wp2
        exact ⟨⟨0 + 1, by omega, by go_num, HB6.out, by rw [HF.out, HD.out, HZ.out]; rfl⟩, by simp [intOf]; omega⟩
      · have be : (ofE y.input != 0) = true := by simpa using he
        have HN := Lib.hid (show entOneE (prevAt l 0) y ≠ 0 by rw [HY.out]; exact he)
        clear he
        go_wp2
        go_ret2
        exact ⟨_, by rw [HE.out HN.out, HY.out]; rfl, HB6.out⟩
    obtain ⟨m, rfl⟩ : ∃ m, k = m + 1 := ⟨k - 1, by omega⟩
    have hz : l[m]? = some (l[m]'(by omega)) := List.getElem?_eq_getElem (by omega)
    obtain ⟨b4, o4, hA4, hb4, r4⟩ := (HS.out.below (hbw.mono hB)).get 3 cEnt_len hz
    have HPR := Lib.hid (show prevAt l (m + 1) = some (l[m]'(by omega)) by unfold prevAt; rw [if_neg (by omega), Nat.add_sub_cancel]; exact hz)
    generalize l[m]'(by omega) = z at *
    injection hA4 with hA4
    injection hA4 with e1 e2
    subst e1 e2
    have HO : RowKit.Hid (entOneE (prevAt l (m + 1)) y = if lessB z.at_ y.at_ = false then 12 else if y.input = [] then 2 else ofE y.input) := Lib.hid (by
      unfold entOneE
      rw [if_neg (by rw [hv]; simp), HPR.out]
      simp only [Option.map_some, Option.some.injEq])
    have RR := Lib.hid r4
    have LZ := Lib.hid (show ∀ W : World, Below w2.heap.size w2 W → W.rangeAt b (o + m * 3) [.int .i64 z.at_.col, .int .i64 z.at_.row] from fun W h => by
      intro j v hj
      refine (h.cell (p := ⟨b, o + m * 3 + j, none⟩) (Nat.lt_of_lt_of_le hblt HBR.out.size)).trans ((HBR.out.cell (p := ⟨b, o + m * 3 + j, none⟩) hblt).trans (RR.out j v ?_))
      rcases j with _ | _ | j
      · exact hj
      · exact hj
      · simp at hj)
    have LY := Lib.hid (show ∀ W : World, Below w2.heap.size w2 W → W.rangeAt wr.heap.size 0 [.int .i64 y.at_.col, .int .i64 y.at_.row] from fun W h => (K2.out.below_ h).range (by
      intro j v hj
      rw [Nat.zero_add]
      rcases j with _ | _ | j
      · exact hj
      · exact hj
      · simp at hj))
    have hm0 : (0 : Int) ≤ (m : Int) := Int.natCast_nonneg _
    have hm1 : (m : Int) < (l.length : Int) := by omega
    clear r4 hz
    go_upto_region 6 with (fail)
    have HM1 : RowKit.Hid (((m + 1 : Nat) : Int) = (m : Int) + 1) := Lib.hid (by omega)
    try rw [HM1.out]
    refine wp_region_noPanic ?_
    refine wp_region_held_drew (S := fun W => Below w2.heap.size w2 W) (by kernel_rfl) (Below.refl _ _).drew (fun hHeld => ?_)
    refine wpAnyH_take (i := 0) (oi := ⟨some 21, .move (.tmp 4), 3, _, _, none⟩) (v := .int .i64 ((m : Int) + 1)) rfl (by kernel_rfl) (by kernel_rfl) (by kernel_rfl) (fun c d e h => NoPanic.put h) (Or.inl ⟨by rfl, by intro W hW; go_simp⟩) hHeld ?_
    try simp only [Act.put, List.setIfInBounds_toArray, List.set_cons_zero, List.set_cons_succ]
    refine wpAnyH_take (i := 1) (oi := ⟨some 22, .binOp .gtr 3 (.tmp 21) (.const (.int .i64 0)) 3, 4, _, _, none⟩) (v := .bool true) rfl (by kernel_rfl) (by kernel_rfl) (by kernel_rfl) (fun c d e h => NoPanic.put h) (Or.inl ⟨by rfl, by intro W hW; go_simp⟩) hHeld ?_
    try simp only [Act.put, List.setIfInBounds_toArray, List.set_cons_zero, List.set_cons_succ]
    refine wpAnyH_take (i := 2) (oi := ⟨some 23, .move (.tmp 22), 4, _, _, none⟩) (v := .bool true) rfl (by kernel_rfl) (by kernel_rfl) (by kernel_rfl) (fun c d e h => NoPanic.put h) (Or.inl ⟨by rfl, by intro W hW; go_simp⟩) hHeld ?_
    try simp only [Act.put, List.setIfInBounds_toArray, List.set_cons_zero, List.set_cons_succ]
    refine wpAnyH_take (i := 3) (oi := ⟨some 24, .move (.tmp 0), 22, _, _, some (2, true)⟩) (v := .slice (some ⟨b, o, none⟩) l.length cap) rfl (by kernel_rfl) (by kernel_rfl) (by kernel_rfl) (fun c d e h => NoPanic.put h) (Or.inl ⟨by rfl, by intro W hW; go_simp⟩) hHeld ?_
    try simp only [Act.put, List.setIfInBounds_toArray, List.set_cons_zero, List.set_cons_succ]
    refine wpAnyH_take (i := 4) (oi := ⟨some 25, .move (.tmp 4), 3, _, _, some (2, true)⟩) (v := .int .i64 ((m : Int) + 1)) rfl (by kernel_rfl) (by kernel_rfl) (by kernel_rfl) (fun c d e h => NoPanic.put h) (Or.inl ⟨by rfl, by intro W hW; go_simp⟩) hHeld ?_
    try simp only [Act.put, List.setIfInBounds_toArray, List.set_cons_zero, List.set_cons_succ]
    refine wpAnyH_take (i := 5) (oi := ⟨some 26, .binOp .sub 3 (.tmp 25) (.const (.int .i64 1)) 3, 3, _, _, some (2, true)⟩) (v := .int .i64 m) rfl (by kernel_rfl) (by kernel_rfl) (by kernel_rfl) (fun c d e h => NoPanic.put h) (Or.inl ⟨by rfl, by intro W hW; go_simp; rw [IntKind.wrap_i64]; omega⟩) hHeld ?_
    try simp only [Act.put, List.setIfInBounds_toArray, List.set_cons_zero, List.set_cons_succ]
    refine wpAnyH_take (i := 6) (oi := ⟨some 27, .indexAddr 22 (.tmp 24) (.tmp 26), _, _, _, some (2, true)⟩) (v := .pointer (some ⟨b, o + m * 3, none⟩)) rfl (by kernel_rfl) (by kernel_rfl) (by kernel_rfl) (fun c d e h => NoPanic.put h) (Or.inl ⟨by rfl, by intro W hW; go_simp⟩) hHeld ?_
    try simp only [Act.put, List.setIfInBounds_toArray, List.set_cons_zero, List.set_cons_succ]
    refine wpAnyH_take (i := 7) (oi := ⟨some 28, .fieldAddr 58 (.tmp 27) 0, _, _, _, some (2, true)⟩) (v := .pointer (some ⟨b, o + m * 3, none⟩)) rfl (by kernel_rfl) (by kernel_rfl) (by kernel_rfl) (fun c d e h => NoPanic.put h) (Or.inl ⟨by rfl, by intro W hW; go_simp⟩) hHeld ?_
    try simp only [Act.put, List.setIfInBounds_toArray, List.set_cons_zero, List.set_cons_succ]
    refine wpAnyH_take (i := 8) (oi := ⟨some 29, .load 56 (.tmp 28), 56, _, _, some (2, true)⟩) (v := .agg _) rfl (by kernel_rfl) (by kernel_rfl) (by kernel_rfl) (fun c d e h => NoPanic.put h) (yieldsIf_load_mid rfl _ _ rfl (b) (o + m * 3) rfl _ _ LZ.out rfl rfl (by kernel_rfl)) hHeld ?_
    try simp only [Act.put, List.setIfInBounds_toArray, List.set_cons_zero, List.set_cons_succ]
    refine wpAnyH_take (i := 9) (oi := ⟨some 30, .fieldAddr 58 (.tmp 5) 0, _, _, _, some (2, true)⟩) (v := .pointer (some ⟨wr.heap.size, 0, none⟩)) rfl (by kernel_rfl) (by kernel_rfl) (by kernel_rfl) (fun c d e h => NoPanic.put h) (Or.inl ⟨by rfl, by intro W hW; go_simp⟩) hHeld ?_
    try simp only [Act.put, List.setIfInBounds_toArray, List.set_cons_zero, List.set_cons_succ]
    refine wpAnyH_take (i := 10) (oi := ⟨some 31, .load 56 (.tmp 30), 56, _, _, some (2, true)⟩) (v := .agg _) rfl (by kernel_rfl) (by kernel_rfl) (by kernel_rfl) (fun c d e h => NoPanic.put h) (yieldsIf_load_mid rfl _ _ rfl (wr.heap.size) (0) rfl _ _ LY.out rfl rfl (by kernel_rfl)) hHeld ?_
    try simp only [Act.put, List.setIfInBounds_toArray, List.set_cons_zero, List.set_cons_succ]
    refine wpAnyH_ready (rs := [11]) (by kernel_rfl) (by simp) ?_
    refine AllReadyH.cons (o := ⟨some 32, .call { callee := .value (.func 126), args := #[.tmp 29, .tmp 31], argTypes := #[56, 56] }, 4, _, _, some (2, true)⟩) rfl (fun K hK => ?_) AllReadyH.nil
    go_simp
    go_at_call 126
    refine (addr_less _ _ _ _ _).mono ?_
    rintro u w3 ⟨rfl, hb3⟩
    refine hK.out _ _ (Below.next hHeld hb3 hHeld.size) (fun hHeld => ?_)
    clear hK K
    try simp only [Act.put, List.setIfInBounds_toArray, List.set_cons_zero, List.set_cons_succ]
    have HB3 := Lib.hid (HB2.out.trans (hHeld.mono HB2.out.size))
    have K3 := Lib.hid (K2.out.below_ hHeld)
    clear x0 x1 x2
    cases hls : lessB z.at_ y.at_ with
    | false =>
      have HY := Lib.hid (show entOneE (prevAt l (m + 1)) y = 12 by rw [HO.out, if_pos hls])
      have hls' : lessB ⟨z.at_.col, z.at_.row⟩ ⟨y.at_.col, y.at_.row⟩ = false := hls
      try rw [hls']
      refine wpAnyH_take (i := 12) (oi := ⟨some 33, .unOp .not 4 (.tmp 32), 4, _, _, some (2, true)⟩) (v := .bool true) rfl (by kernel_rfl) (by kernel_rfl) (by kernel_rfl) (fun c d e h => NoPanic.put h) (Or.inl ⟨by rfl, by intro W hW; go_simp⟩) hHeld ?_
      try simp only [Act.put, List.setIfInBounds_toArray, List.set_cons_zero, List.set_cons_succ]
      refine wpAnyH_take (i := 13) (oi := ⟨some 34, .pick (.tmp 23) (.tmp 33) (.const (.bool false)), 4, _, _, none⟩) (v := .bool true) rfl (by kernel_rfl) (by kernel_rfl) (by kernel_rfl) (fun c d e h => NoPanic.put h) (Or.inl ⟨by rfl, by intro W hW; go_simp⟩) hHeld ?_
      try simp only [Act.put, List.setIfInBounds_toArray, List.set_cons_zero, List.set_cons_succ]
      refine wpAnyH_done (by kernel_rfl) ?_ _
      refine NoPanic.normal ?_
      clear hHeld
      go_wp2
      go_ret2
      exact ⟨_, by rw [HE.out (by rw [HY.out]; decide), HY.out]; rfl, HB3.out⟩
    | true =>
    have HO2 := Lib.hid (HO.out.trans (if_neg (by rw [hls]; simp)))
    have hls' : lessB ⟨z.at_.col, z.at_.row⟩ ⟨y.at_.col, y.at_.row⟩ = true := hls
    try rw [hls']
    refine wpAnyH_take (i := 12) (oi := ⟨some 33, .unOp .not 4 (.tmp 32), 4, _, _, some (2, true)⟩) (v := .bool false) rfl (by kernel_rfl) (by kernel_rfl) (by kernel_rfl) (fun c d e h => NoPanic.put h) (Or.inl ⟨by rfl, by intro W hW; go_simp⟩) hHeld ?_
    try simp only [Act.put, List.setIfInBounds_toArray, List.set_cons_zero, List.set_cons_succ]
    refine wpAnyH_take (i := 13) (oi := ⟨some 34, .pick (.tmp 23) (.tmp 33) (.const (.bool false)), 4, _, _, none⟩) (v := .bool false) rfl (by kernel_rfl) (by kernel_rfl) (by kernel_rfl) (fun c d e h => NoPanic.put h) (Or.inl ⟨by rfl, by intro W hW; go_simp⟩) hHeld ?_
    try simp only [Act.put, List.setIfInBounds_toArray, List.set_cons_zero, List.set_cons_succ]
    refine wpAnyH_done (by kernel_rfl) ?_ _
    refine NoPanic.normal ?_
    clear hHeld LZ LY HO
    have x2 : w3.cell? ⟨wr.heap.size, 2, none⟩ = some (str y.input) := K3.out.cell 2
    by_cases hin : y.input = []
    · have HY := Lib.hid (show entOneE (prevAt l (m + 1)) y = 2 from HO2.out.trans (if_pos hin))
      have bi : (y.input == ([] : List UInt8)) = true := by simp [hin]
      clear hin
      go_wp2
      go_ret2
      exact ⟨_, by rw [HE.out (by rw [HY.out]; decide), HY.out]; rfl, HB3.out⟩
    have bi : (y.input == ([] : List UInt8)) = false := by simpa using hin
    have HY := Lib.hid (HO2.out.trans (if_neg hin))
    clear hin
    go_wp2_with fail
    refine (of_any y.input _ HIN.out (HW.out.below (HB3.out.mono (Nat.le_refl _)))).mono ?_
    rintro u w5 ⟨f, kk, n, x, A5, l5, c5, p5, rfl, hb5⟩
    have HB5 := Lib.hid (Below.next (HB3.out) hb5 (HB3.out).size)
    have HB6 := Lib.hid (HB5.out.alloc HB5.out.size (.cells #[.bool f, .int .u8 kk, .int .i64 n, str x, .slice A5 l5 c5] 192))
    clear hb5
    by_cases he : ofE y.input = 0
    · have be : (ofE y.input != 0) = false := by simpa using he
      have HZ := Lib.hid (HY.out.trans he)
      clear he
      go_wp2
      exact ⟨⟨(m + 1) + 1, by omega, by go_num, HB6.out, by rw [HF.out, HD.out, HZ.out]; rfl⟩, by simp [intOf]; omega⟩
    · have be : (ofE y.input != 0) = true := by simpa using he
      have HN := Lib.hid (show entOneE (prevAt l (m + 1)) y ≠ 0 by rw [HY.out]; exact he)
      clear he
      go_wp2
      go_ret2
      exact ⟨_, by rw [HE.out HN.out, HY.out]; rfl, HB6.out⟩
/-- The set of the users from 0 to n - 1. -/
def allI (n : Int) : Int := 2 ^ n.toNat - 1
def hasI (s u : Int) : Bool := decide (0 ≤ u) && decide (u < 64) && decide (s / 2 ^ u.toNat % 2 = 1)
theorem pow_bd (n : Int) (h1 : n ≤ 64) : (1 : Int) ≤ 2 ^ n.toNat ∧ (2 : Int) ^ n.toNat ≤ 18446744073709551616 := by
  have a : (2 : Nat) ^ n.toNat ≤ 2 ^ 64 := Nat.pow_le_pow_right (by decide) (by omega)
  have b : 1 ≤ (2 : Nat) ^ n.toNat := Nat.one_le_two_pow
  have e : (2 : Int) ^ n.toNat = ((2 ^ n.toNat : Nat) : Int) := by simp
  rw [e]
  omega
theorem all_wrap (n : Int) (h1 : n ≤ 64) : IntKind.u64.wrap (IntKind.u64.wrap (2 ^ n.toNat) - 1) = allI n := by
  have h := pow_bd n h1
  rw [IntKind.wrap_u64, IntKind.wrap_u64]
  unfold allI
  omega
theorem allI_bd (n : Int) (h1 : n ≤ 64) : 0 ≤ allI n ∧ allI n < 18446744073709551616 := by
  have h := pow_bd n h1
  unfold allI
  omega
theorem bit_odd (x : Int) (h0 : 0 ≤ x) (h1 : x < 18446744073709551616) : (bits .and .u64 x 1 == 1) = decide (x % 2 = 1) := by
  rw [u64_and x 1 h0 h1 (by decide) (by decide), show (1 : Int).toNat = 1 from rfl, nat_mask1]
  by_cases h : x % 2 = 1
  · have : ((x.toNat % 2 : Nat) : Int) = 1 := by omega
    simp [this, h]
  · have : ((x.toNat % 2 : Nat) : Int) = 0 := by omega
    simp [this, h]
theorem shr_bd (s : Int) (k : Nat) (h0 : 0 ≤ s) (h1 : s < 18446744073709551616) : 0 ≤ s / 2 ^ k ∧ s / 2 ^ k < 18446744073709551616 := by
  have hp : (0 : Int) < 2 ^ k := Int.pow_pos (by decide)
  exact ⟨Int.ediv_nonneg h0 (Int.le_of_lt hp), Int.lt_of_le_of_lt (Int.ediv_le_self _ h0) h1⟩
theorem ret_bool' {a b : Bool} (h : a = b) : Ending.returned (.bool a) = .returned (.bool b) := by rw [h]
theorem all_no (n : Int) (w : World) (h : n < 0 ∨ 64 < n) :
    Calls Tryz.prog 170 #[.int .i64 n] w fun e w' => e = .returned (.tuple #[.int .u64 0, .int .i64 3]) ∧ w = w' := by
  by_cases h1 : n < 0
  all_goals
    go_enter Tryz.func170, Tryz.ntmps170
    go_wp2
    go_ret2
    exact ⟨rfl, rfl⟩
theorem all_yes (n : Int) (w : World) (h0 : 0 ≤ n) (h1 : n ≤ 64) :
    Calls Tryz.prog 170 #[.int .i64 n] w fun e w' => e = .returned (.tuple #[.int .u64 (allI n), .int .i64 0]) ∧ w = w' := by
  have H := Lib.hid (all_wrap n h1)
  go_enter Tryz.func170, Tryz.ntmps170
  go_wp2
  go_ret2
  exact ⟨by rw [H.out]; rfl, rfl⟩
theorem has_any (s u : Int) (w : World) (s0 : 0 ≤ s) (s1 : s < 18446744073709551616) :
    Calls Tryz.prog 173 #[.int .u64 s, .int .i64 u] w fun e w' => e = .returned (.bool (hasI s u)) ∧ w = w' := by
  have hb := shr_bd s u.toNat s0 s1
  have H := Lib.hid (bit_odd _ hb.1 hb.2)
  clear hb s0 s1
  by_cases h0 : 0 ≤ u
  · by_cases h1 : u < 64
    · have HH := Lib.hid (show hasI s u = decide (s / 2 ^ u.toNat % 2 = 1) by simp [hasI, h0, h1])
      go_enter Tryz.func173, Tryz.ntmps173
      go_wp2
      go_ret
      exact ⟨ret_bool' (by rw [HH.out, H.out]), rfl⟩
    · have HH := Lib.hid (show hasI s u = false by simp [hasI, h1])
      go_enter Tryz.func173, Tryz.ntmps173
      go_wp2
      go_ret
      exact ⟨ret_bool' (by rw [HH.out]), rfl⟩
  · have HH := Lib.hid (show hasI s u = false by simp [hasI, h0])
    go_enter Tryz.func173, Tryz.ntmps173
    go_wp2
    go_ret
    exact ⟨ret_bool' (by rw [HH.out]), rfl⟩
/-- A rule's error among users. -/
def rulE (u : Int) (x : Rul) : Int :=
  if rctE x.rect ≠ 0 then 3 else if bits .andNot .u64 (bits .or .u64 (bits .or .u64 x.rights.rd x.rights.wr) x.rights.ow) (allI u) ≠ 0 then 2 else 0
def firstE {α : Type} (f : α → Int) : List α → Int
  | [] => 0
  | x :: l => if f x ≠ 0 then f x else firstE f l
def aclE (u : Int) (l : List Rul) : Int :=
  if u < 1 ∨ 64 < u ∨ l = [] then 2 else if 64 < l.length then 5 else if (l.head?.map (·.rect)) ≠ some ⟨1, 1, 1024, 1024⟩ then 2 else firstE (rulE u) l
theorem firstE_drop {α : Type} (f : α → Int) {l : List α} {k : Nat} {x : α} (h : l[k]? = some x) : firstE f (l.drop k) = if f x ≠ 0 then f x else firstE f (l.drop (k + 1)) := by
  have hk := (List.getElem?_eq_some_iff.1 h).1
  rw [List.drop_eq_getElem_cons hk]
  have : l[k] = x := by rw [List.getElem?_eq_getElem hk] at h; simpa using h
  rw [this]
  rfl
theorem neq_rct (x y : Rct) (w : World) : (binOp .neq 43 (.agg (cRct x).toArray) (.agg (cRct y).toArray)).run Tryz.prog w = .ok (.bool (!decide (x = y))) w := by
  obtain ⟨a, b, c, d⟩ := x
  obtain ⟨a', b', c', d'⟩ := y
  simp [go_sem, cRct]
  by_cases q0 : a = a'
  · by_cases q1 : b = b'
    · by_cases q2 : c = c'
      · by_cases q3 : d = d'
        · simp [q0, q1, q2, q3]
        · simp [q0, q1, q2, q3]
      · simp [q0, q1, q2]
    · simp [q0, q1]
  · simp [q0]
theorem acl_check (u : Int) (sv : Value) (l : List Rul) (B : Nat) (w : World) (hB : B ≤ w.heap.size) (hs : Sls cRul w B sv l) :
    Calls Tryz.prog 111 #[.int .i64 u, sv] w fun e w' => ∃ i, e = .returned (.tuple #[.int .i64 i, .int .i64 (aclE u l)]) ∧ Below w.heap.size w w' := by
  obtain ⟨A, cap, rfl, hc, hm, hr⟩ := id hs
  have HS := Lib.hid hs
  clear hs hr
  unfold maxLen at hm
  by_cases hu : u < 0 ∨ 64 < u
  · have HE := Lib.hid (show aclE u l = 2 by unfold aclE; rw [if_pos (by omega)])
    go_enter Tryz.func111, Tryz.ntmps111
    go_wp2_with fail
    refine (all_no u _ hu).mono ?_
    rintro e w1 ⟨rfl, rfl⟩
    go_wp2
    go_ret2
    exact ⟨_, by rw [HE.out]; rfl, by go_grown⟩
  · skip
    go_enter Tryz.func111, Tryz.ntmps111
    go_wp2_with fail
    refine (all_yes u _ (by omega) (by omega)).mono ?_
    rintro e w1 ⟨rfl, rfl⟩
    by_cases h0 : u = 0
    · subst h0
      have HE := Lib.hid (show aclE 0 l = 2 by unfold aclE; rw [if_pos (by omega)])
      go_wp2
      go_ret2
      exact ⟨_, by rw [HE.out]; rfl, by go_grown⟩
    · have u0 : (u == 0) = false := by simpa using h0
      by_cases hl0 : l.length = 0
      · have l0 : ((l.length : Int) == 0) = true := by simp [hl0]
        have HE := Lib.hid (show aclE u l = 2 by unfold aclE; rw [if_pos (.inr (.inr (List.eq_nil_of_length_eq_zero hl0)))])
        clear hl0
        go_wp2
        go_ret2
        exact ⟨_, by rw [HE.out]; rfl, by go_grown⟩
      · have l0 : ((l.length : Int) == 0) = false := by simpa using hl0
        have hne : l ≠ [] := fun e => hl0 (by rw [e]; rfl)
        by_cases h64 : 64 < l.length
        · have HE := Lib.hid (show aclE u l = 5 by unfold aclE; rw [if_neg (by simp [hne]; omega), if_pos h64])
          clear hne hl0
          go_wp2
          go_ret2
          exact ⟨_, by rw [HE.out]; rfl, by go_grown⟩
        · have hx : l[0]? = some (l[0]'(by omega)) := List.getElem?_eq_getElem (by omega)
          obtain ⟨b, o, rfl, hb, r⟩ := HS.out.get 7 cRul_len hx
          have HE := Lib.hid (show aclE u l = if (l[0]'(by omega)).rect ≠ ⟨1, 1, 1024, 1024⟩ then 2 else firstE (rulE u) l by
            unfold aclE
            rw [if_neg (by simp [hne]; omega), if_neg h64, List.head?_eq_getElem?, hx]
            simp)
          generalize l[0]'(by omega) = x at *
          have r0 : w.cell? ⟨b, o, none⟩ = some (.int .i64 x.rect.c1) := by simpa using r 0 _ rfl
          have r1 : w.cell? ⟨b, o + 1, none⟩ = some (.int .i64 x.rect.r1) := by simpa using r 1 _ rfl
          have r2 : w.cell? ⟨b, o + 2, none⟩ = some (.int .i64 x.rect.c2) := by simpa using r 2 _ rfl
          have r3 : w.cell? ⟨b, o + 3, none⟩ = some (.int .i64 x.rect.r2) := by simpa using r 3 _ rfl
          have hn : ∀ W, (binOp .neq 43 (.agg #[.int .i64 x.rect.c1, .int .i64 x.rect.r1, .int .i64 x.rect.c2, .int .i64 x.rect.r2]) (.agg #[.int .i64 1, .int .i64 1, .int .i64 1024, .int .i64 1024])).run Tryz.prog W = .ok (.bool (!decide (x.rect = ⟨1, 1, 1024, 1024⟩))) W := fun W => neq_rct x.rect ⟨1, 1, 1024, 1024⟩ W
          have hi0 : (0 : Int) < (l.length : Int) := by omega
          have hi1 : 0 < l.length := by omega
          clear hx r hne hl0
          have hbl := block_lt_of_cell r0
          by_cases hxs : x.rect = ⟨1, 1, 1024, 1024⟩
          · have hd : decide (x.rect = ⟨1, 1, 1024, 1024⟩) = true := by simpa using hxs
            rw [hd] at hn
            have HX := Lib.hid hxs
            clear hd hxs
            go_wp2
            go_region_held3 (fun W : World => W.cell? ⟨b, o, none⟩ = some (.int .i64 x.rect.c1) ∧ W.cell? ⟨b, o + 1, none⟩ = some (.int .i64 x.rect.r1) ∧ W.cell? ⟨b, o + 2, none⟩ = some (.int .i64 x.rect.c2) ∧ W.cell? ⟨b, o + 3, none⟩ = some (.int .i64 x.rect.r2))
              (first
               | exact ⟨r0, r1, r2, r3⟩
               | exact ⟨(hb1.cell hbl).trans r0, (hb1.cell hbl).trans r1, (hb1.cell hbl).trans r2, (hb1.cell hbl).trans r3⟩)
              (first
               | (go_at_call 171; refine (acl_sheet _).mono ?_; rintro e w1 ⟨rfl, hb1⟩))
            go_wp2
            have HB1 := Lib.hid ((Below.refl w.heap.size w).drew.trans hb1)
            clear r0 r1 r2 r3 hn hi0 hi1 hb1
            go_loopw [39] (fun i wr => ∃ k : Nat, k ≤ l.length ∧ i = .int .i64 k ∧ Below w.heap.size w wr ∧ firstE (rulE u) l = firstE (rulE u) (l.drop k)) (fun i _ => l.length - (intOf i).toNat)
            case atStart => exact ⟨0, by omega, rfl, HB1.out, by simp⟩
            case round =>
              obtain ⟨k, hk, rfl, hbw, hfe⟩ := hrel
              have HF := Lib.hid hfe
              have HBW := Lib.hid hbw
              clear hfe
              by_cases hlt : k < l.length
              · have hy : l[k]? = some l[k] := List.getElem?_eq_getElem hlt
                obtain ⟨b2, o2, hA, hb2, r⟩ := (HS.out.below (hbw.mono hB)).get 7 cRul_len hy
                have HD := Lib.hid (firstE_drop (rulE u) hy)
                generalize l[k] = y at *
                obtain ⟨rfl, rfl⟩ : b = b2 ∧ o = o2 := by simpa using hA
                have r0 : wr.cell? ⟨b, o + k * 7, none⟩ = some (.int .i64 y.rect.c1) := r 0 _ rfl
                have r1 : wr.cell? ⟨b, o + k * 7 + 1, none⟩ = some (.int .i64 y.rect.r1) := r 1 _ rfl
                have r2 : wr.cell? ⟨b, o + k * 7 + 2, none⟩ = some (.int .i64 y.rect.c2) := r 2 _ rfl
                have r3 : wr.cell? ⟨b, o + k * 7 + 3, none⟩ = some (.int .i64 y.rect.r2) := r 3 _ rfl
                have r4 : wr.cell? ⟨b, o + k * 7 + 4, none⟩ = some (.int .u64 y.rights.rd) := r 4 _ rfl
                have r5 : wr.cell? ⟨b, o + k * 7 + 5, none⟩ = some (.int .u64 y.rights.wr) := r 5 _ rfl
                have r6 : wr.cell? ⟨b, o + k * 7 + 6, none⟩ = some (.int .u64 y.rights.ow) := r 6 _ rfl
                have hi0 : (0 : Int) ≤ (k : Int) := Int.natCast_nonneg _
                have hi1 : (k : Int) < (l.length : Int) := by omega
                clear r hy hA hbw
                go_wp2_with fail
                refine (rect_check _ _ _ _ _).mono ?_
                rintro e w3 ⟨rfl, hb3⟩
                have q4 : w3.cell? ⟨wr.heap.size, 4, none⟩ = some (.int .u64 y.rights.rd) := (hb3.cell (p := ⟨wr.heap.size, 4, none⟩) (by simp)).trans (by go_simp)
                have q5 : w3.cell? ⟨wr.heap.size, 5, none⟩ = some (.int .u64 y.rights.wr) := (hb3.cell (p := ⟨wr.heap.size, 5, none⟩) (by simp)).trans (by go_simp)
                have q6 : w3.cell? ⟨wr.heap.size, 6, none⟩ = some (.int .u64 y.rights.ow) := (hb3.cell (p := ⟨wr.heap.size, 6, none⟩) (by simp)).trans (by go_simp)
                have HB3 := Lib.hid (Below.trans (HBW.out.alloc HBW.out.size _) (hb3.mono (by have := HBW.out.size; simp; omega)))
                clear hb3 r0 r1 r2 r3 r4 r5 r6
                by_cases hre : rctE ⟨y.rect.c1, y.rect.r1, y.rect.c2, y.rect.r2⟩ = 0
                · rw [hre]
                  by_cases hbt : bits .andNot .u64 (bits .or .u64 (bits .or .u64 y.rights.rd y.rights.wr) y.rights.ow) (allI u) = 0
                  · have HY := Lib.hid (show rulE u y = 0 by unfold rulE; rw [if_neg (by simpa using hre), if_neg (by simpa using hbt)])
                    have t1 : (bits .andNot .u64 (bits .or .u64 (bits .or .u64 y.rights.rd y.rights.wr) y.rights.ow) (allI u) != 0) = false := by simpa using hbt
                    clear hbt hre
                    go_wp2
                    exact ⟨⟨k + 1, by omega, by go_num, HB3.out, by rw [HF.out, HD.out, HY.out]; rfl⟩, by simp [intOf]; omega⟩
                  · have HY := Lib.hid (show rulE u y = 2 by unfold rulE; rw [if_neg (by simpa using hre), if_pos (by simpa using hbt)])
                    have t1 : (bits .andNot .u64 (bits .or .u64 (bits .or .u64 y.rights.rd y.rights.wr) y.rights.ow) (allI u) != 0) = true := by simpa using hbt
                    clear hbt hre
                    go_wp2
                    go_ret2
                    refine ⟨k, ?_, HB3.out⟩
                    rw [HE.out, if_neg (by simpa using HX.out), HF.out, HD.out, HY.out]
                    rfl
                · have HY := Lib.hid (show rulE u y = 3 by unfold rulE; rw [if_pos (by simpa using hre)])
                  have t1 : (rctE ⟨y.rect.c1, y.rect.r1, y.rect.c2, y.rect.r2⟩ != 0) = true := by simpa using hre
                  clear hre
                  go_wp2
                  go_ret2
                  refine ⟨k, ?_, HB3.out⟩
                  rw [HE.out, if_neg (by simpa using HX.out), HF.out, HD.out, HY.out]
                  rfl
              · go_wp2
                go_ret2
                refine ⟨0, ?_, HBW.out⟩
                rw [HE.out, if_neg (by simpa using HX.out), HF.out, List.drop_eq_nil_of_le (by omega)]
                rfl
          · have hd : decide (x.rect = ⟨1, 1, 1024, 1024⟩) = false := by simpa using hxs
            rw [hd] at hn
            have HX := Lib.hid hxs
            clear hd hxs
            go_wp2
            go_region_held3 (fun W : World => W.cell? ⟨b, o, none⟩ = some (.int .i64 x.rect.c1) ∧ W.cell? ⟨b, o + 1, none⟩ = some (.int .i64 x.rect.r1) ∧ W.cell? ⟨b, o + 2, none⟩ = some (.int .i64 x.rect.c2) ∧ W.cell? ⟨b, o + 3, none⟩ = some (.int .i64 x.rect.r2))
              (first
               | exact ⟨r0, r1, r2, r3⟩
               | exact ⟨(hb1.cell hbl).trans r0, (hb1.cell hbl).trans r1, (hb1.cell hbl).trans r2, (hb1.cell hbl).trans r3⟩)
              (first
               | (go_at_call 171; refine (acl_sheet _).mono ?_; rintro e w1 ⟨rfl, hb1⟩))
            go_wp2
            go_ret2
            exact ⟨_, by rw [HE.out, if_pos HX.out]; rfl, (Below.refl w.heap.size w).drew.trans hb1⟩
end Go.Proofs.YtamcgggmfghljaaGreatDoor
