/- Layer 9 (program): the parser's call (printed by tools/gen_paro.py). · Layer 9 (program): the parser, whole: by induction on the fuel. · Layer 9 (program): Formula. -/
import Derived.Deep.QuietTactic
import Derived.BigQuiet
import Derived.Recover
import Derived.Defers
import Derived.Test.YtamcgggmfghljaaGreatDoorC24
set_option maxRecDepth 100000
set_option maxHeartbeats 8000000
namespace Go.Proofs.YtamcgggmfghljaaGreatDoor
open Go.RowKit
theorem arity_one (fn : Nat) (h1 : 1 ≤ fn) (h2 : fn ≤ 50) : 1 ≤ (arityS fn).1 := by
  unfold arityS
  repeat' split
  all_goals first | decide | omega
theorem fn_range (s : Bytes) (h : fnOf s ≠ 0) : 1 ≤ fnOf s ∧ fnOf s ≤ 50 := by
  cases hc : fnNames.contains s with
  | true =>
    obtain ⟨i, hi, _, e⟩ := fn_some s hc
    omega
  | false => exact absurd (fn_none s hc).2 h
theorem call_ok (e : Int) (f : Nat) (hl : ∀ f' fn n, f' ≤ f → 1 ≤ fn → fn ≤ 50 → n ≤ 2000 → RunS 356 (arg1 fn n) e f' (.arg fn n)) : CallOk e (f + 1) := by
  intro t p ov st W h hn hf ht hk
  have HL := Lib.hid hl
  have HH := Lib.hid h
  have HLT := Lib.hid h.lt
  have HOV := Lib.hid (show ∀ k, W.heap.size ≤ k → ov.ownBlock ≠ some k from fun k hk e => by have := h.ow.lt _ e; omega)
  have hne : st.1 ≠ [] := head_ne (e := e) (by rw [ht, hk]; decide)
  have HR : RowKit.Hid (parS e (f + 1) (.call t) st = if fnOf t.text = 0 then .error (t.at_, 10) else
    thenS (wantK e 9 (skipS st)) fun st => if (headS e st).kind = 10 then doneS e t (fnOf t.text) 0 st else parS e f (.args t (fnOf t.text) 0) st) := Lib.hid rfl
  generalize parS e (f + 1) (.call t) st = R at HR ⊢
  clear hl h ht hk
  have K0 := Lib.hid (Blk.new W 239 (cTok t).toArray)
  have HB0 := Lib.hid (show Below W.heap.size W (W.alloc (.cells (cTok t).toArray 239)) from by go_grown)
  rw [show (cTok t).toArray = #[.int .u8 t.kind, .int .i64 t.num, str t.text, .int .i64 t.rect.c1, .int .i64 t.rect.r1, .int .i64 t.rect.c2, .int .i64 t.rect.r2, .int .i64 t.at_] from rfl] at K0 HB0 ⊢
  have H0 := Lib.hid (HH.out.below HB0.out)
  go_enter Tryz.func343, Tryz.ntmps343
  go_upto_region 1 with (fail)
  obtain ⟨W1, hW1⟩ : ∃ W1, W.alloc (.cells #[.int .u8 t.kind, .int .i64 t.num, str t.text, .int .i64 t.rect.c1, .int .i64 t.rect.r1, .int .i64 t.rect.c2, .int .i64 t.rect.r2, .int .i64 t.at_] 239) = W1 := ⟨_, rfl⟩
  rw [hW1] at K0 HB0 H0 ⊢
  clear hW1
  have KU : RowKit.Hid (∀ W' ov', PTo p W1 ov W' ov' → Blk W' W.heap.size 239 #[.int .u8 t.kind, .int .i64 t.num, str t.text, .int .i64 t.rect.c1, .int .i64 t.rect.r1, .int .i64 t.rect.c2, .int .i64 t.rect.r2, .int .i64 t.at_]) := Lib.hid (fun W' ov' h => h.blk K0.out (by have := HLT.out; omega) (HOV.out _ (Nat.le_refl _)))
  have BU : RowKit.Hid (∀ W' ov', PTo p W1 ov W' ov' → Below p W W') := Lib.hid (fun W' ov' h => (HB0.out.mono (Nat.le_of_lt HLT.out)).trans (h.old (by have := H0.out.lt; omega) HH.out.ob))
  have TU : RowKit.Hid (∀ W' ov', PTo p W1 ov W' ov' → PTo p W ov W' ov') := Lib.hid (fun W' ov' h => (PTo.below (PTo.refl p W ov) HB0.out).trans h)
  have x2 : W1.cell? ⟨W.heap.size, 2, none⟩ = some (str t.text) := K0.out.cell 2
  have x7 : W1.cell? ⟨W.heap.size, 7, none⟩ = some (.int .i64 t.at_) := K0.out.cell 7
  go_wp2_with fail
  refine (tree_function t.text _).mono ?_
  rintro u w2 ⟨⟨er, her, rfl⟩, hb2⟩
  have H2 := Lib.hid (H0.out.below hb2)
  have U2 := Lib.hid (PTo.below (PTo.refl p W1 ov) hb2)
  clear hb2 x2 x7
  by_cases hf0 : fnOf t.text = 0
  · have x7 : w2.cell? ⟨W.heap.size, 7, none⟩ = some (.int .i64 t.at_) := (KU.out _ _ U2.out).cell 7
    have HR2 := Lib.hid (HR.out.trans (if_pos hf0))
    have be : (er != 0) = true := by
      have : ¬ er = 0 := fun h => her.1 h hf0
      simpa using this
    clear her hf0 HR
    generalize fnOf t.text = fn
    go_wp2_with fail
    refine (par_fail _ t.at_ 10 _).mono ?_
    rintro u w3 ⟨rfl, rfl⟩
    unfold flt
    go_wp2
    exact ⟨rfl, went_err HR2.out (BU.out _ _ U2.out)⟩
  have HR2 := Lib.hid (HR.out.trans (if_neg hf0))
  have he0 : er = 0 := her.2 hf0
  have HFR := Lib.hid (fn_range t.text hf0)
  subst he0
  clear her hf0 HR
  generalize hfn : fnOf t.text = fn at HR2 HFR ⊢
  clear hfn
  go_wp2_with fail
  refine (par_skip p e ov st _ H2.out (by omega) hne).mono ?_
  rintro u w3 ⟨rfl, ha, ht⟩
  have hpos : 1 ≤ st.1.length := List.length_pos_iff.2 hne
  have H3 := Lib.hid ha
  have U3 := Lib.hid (U2.out.trans ht)
  clear ha ht
  go_wp2_with fail
  refine (par_want p e ov (skipS st) 9 _ H3.out (by rw [skip_len]; omega) (by decide)).mono ?_
  intro u w4 hw
  rcases went_cases hw with ⟨s4, ov4, hr, rfl, ha, ht⟩ | ⟨a, er, hr, rfl, hb⟩
  rotate_left
  · have HR3 := Lib.hid (show R = .error (a, er) by rw [HR2.out, hr]; rfl)
    have HB3 := Lib.hid ((BU.out _ _ U3.out).trans hb)
    clear hr hw hb
    unfold flt
    go_wp2
    exact ⟨rfl, went_err HR3.out HB3.out⟩
  have HS4 := Lib.hid (want_ok (by decide) hr)
  have HR3 := Lib.hid (show R = if (headS e s4).kind = 10 then doneS e t fn 0 s4 else parS e f (.args t fn 0) s4 by rw [HR2.out, hr]; rfl)
  have H4 := Lib.hid ha
  have U4 := Lib.hid (U3.out.trans ht)
  have HL4 := Lib.hid (show s4.1.length + 2 = st.1.length ∧ s4.2 = st.2 by
    obtain ⟨h1, h2⟩ := HS4.out
    rw [h1, skip_len, skip_len, skip_two, skip_two]
    rw [skip_len] at h2
    exact ⟨by omega, rfl⟩)
  clear ha ht hr hw HR2
  go_wp2_with fail
  refine (par_head p e ov4 s4 _ H4.out (by have := HL4.out; omega)).mono ?_
  rintro u w5 ⟨rfl, hb5⟩
  have H5 := Lib.hid (H4.out.below hb5)
  have U5 := Lib.hid (PTo.below U4.out hb5)
  clear hb5
  generalize hq : headS e s4 = q at HR3 ⊢
  have HQ := Lib.hid hq
  clear hq
  rw [show (cTok q).toArray = #[.int .u8 q.kind, .int .i64 q.num, str q.text, .int .i64 q.rect.c1, .int .i64 q.rect.r1, .int .i64 q.rect.c2, .int .i64 q.rect.r2, .int .i64 q.at_] from rfl]
  have hfi : ∀ W : World, (Instr.field 239 (.agg #[.int .u8 q.kind, .int .i64 q.num, str q.text, .int .i64 q.rect.c1, .int .i64 q.rect.r1, .int .i64 q.rect.c2, .int .i64 q.rect.r2, .int .i64 q.at_]) 0).run Tryz.prog W = .ok (.int .u8 q.kind) W := fun W => by rfl
  by_cases h10 : q.kind = 10
  · have b10 : (q.kind != 10) = false := by simpa using h10
    have HR4 := Lib.hid (HR3.out.trans (if_pos h10))
    have H10 := Lib.hid h10
    clear HR3 h10
    go_wp2_with fail
    refine (par_head p e ov4 s4 _ H5.out (by have := HL4.out; omega)).mono ?_
    rintro u w6 ⟨rfl, hb6⟩
    rw [HQ.out]
    have U6 := Lib.hid (PTo.below U5.out (hb6.alloc hb6.size (.cells (cTok q).toArray 239)))
    have KQ := Lib.hid (Blk.new w6 239 (cTok q).toArray)
    clear hb6
    obtain ⟨W6, hW6⟩ : ∃ W6, w6.alloc (.cells (cTok q).toArray 239) = W6 := ⟨_, rfl⟩
    rw [hW6] at U6 KQ
    rw [show (cTok q).toArray = #[.int .u8 q.kind, .int .i64 q.num, str q.text, .int .i64 q.rect.c1, .int .i64 q.rect.r1, .int .i64 q.rect.c2, .int .i64 q.rect.r2, .int .i64 q.at_] from rfl] at hW6 KQ ⊢
    go_upto_region 13 with (fail)
    clear hW6
    have y0 : W6.cell? ⟨w6.heap.size, 0, none⟩ = some (.int .u8 q.kind) := KQ.out.cell 0
    have x7 : W6.cell? ⟨W.heap.size, 7, none⟩ = some (.int .i64 t.at_) := (KU.out _ _ U6.out).cell 7
    have ha1 := arity_one fn HFR.out.1 HFR.out.2
    have HA := Lib.hid (tree_arity fn HFR.out.1 HFR.out.2 W6)
    have HD : RowKit.Hid (doneS e t fn 0 s4 = .error (t.at_, 11)) := Lib.hid (by
      unfold doneS
      rw [HQ.out, if_neg (by simpa using H10.out), if_pos (.inl (by omega))])
    generalize (arityS fn).1 = m0 at HA ha1
    generalize (arityS fn).2.1 = m1 at HA
    generalize (arityS fn).2.2 = m2 at HA
    have m0p : (0 : Int) < m0 := by omega
    clear ha1
    go_wp2_with fail
    refine HA.out.mono ?_
    rintro u w7 ⟨rfl, rfl⟩
    go_wp2_with fail
    refine (par_fail _ t.at_ 11 _).mono ?_
    rintro u w8 ⟨rfl, rfl⟩
    unfold flt
    go_wp2
    exact ⟨rfl, went_err (HR4.out.trans HD.out) (BU.out _ _ U6.out)⟩
  have b10 : (q.kind != 10) = true := by simpa using h10
  have HR4 := Lib.hid (HR3.out.trans (if_neg h10))
  clear HR3 h10 HQ
  go_wp2_with fail
  go_loopw [6] (fun nv wr => ∃ (n : Nat) (f' : Nat) (s' : PSt) (ov' : Value), nv = .int .i64 n ∧ R = parS e f' (.args t fn n) s' ∧ 10 * s'.1.length + 13 ≤ f' ∧ f' ≤ f + 1 ∧ n + s'.1.length ≤ 2000 ∧ s'.1.length + s'.2.length ≤ 2000 ∧ PA wr p e ov' s' ∧ PTo p W1 ov wr ov') (fun _ wr => lenAt p wr)
  case atStart => exact ⟨0, f, s4, ov4, rfl, HR4.out, by have := HL4.out; omega, by omega, by have := HL4.out; omega, by have := HL4.out; rw [this.2]; omega, H5.out, U5.out⟩
  case round =>
    obtain ⟨n, f', s', ov', rfl, hr, hf', hff, hns, hn', ha, ht⟩ := hrel
    obtain ⟨f2, rfl⟩ : ∃ f2, f' = f2 + 1 := ⟨f' - 1, by omega⟩
    have HR5 := Lib.hid (show R = thenS (parS e f2 (.arg fn n) s') fun st => if (headS e st).kind = 11 then parS e f2 (.args t fn (n + 1)) (skipS st) else doneS e t fn (n + 1) st from hr)
    have H6 := Lib.hid ha
    have U6 := Lib.hid ht
    have HLA := Lib.hid (lenAt_eq ha)
    have n0 : (0 : Int) ≤ (n : Int) := by omega
    have n1 : (n : Int) ≤ 2000 := by omega
    clear hr ha ht HR4
    go_wp2_with fail
    refine (HL.out f2 fn n (by omega) HFR.out.1 HFR.out.2 (by omega) p ov' s' _ H6.out hn' (by simp only [needS]; omega)).mono ?_
    intro u w7 hw
    rcases went_cases hw with ⟨s7, ov7, hr, rfl, ha, ht⟩ | ⟨a, er, hr, rfl, hb⟩
    rotate_left
    · have HR6 := Lib.hid (show R = .error (a, er) by rw [HR5.out, hr]; rfl)
      have HB6 := Lib.hid ((BU.out _ _ U6.out).trans hb)
      clear hr hw hb
      unfold flt
      go_wp2
      exact ⟨rfl, went_err HR6.out HB6.out⟩
    have HL7 := Lib.hid (par_len e f2 _ _ _ hr)
    have HG7 := Lib.hid (par_grow e f2 _ _ _ hr)
    have HR6 := Lib.hid (show R = if (headS e s7).kind = 11 then parS e f2 (.args t fn (n + 1)) (skipS s7) else doneS e t fn (n + 1) s7 by rw [HR5.out, hr]; rfl)
    have H7 := Lib.hid ha
    have U7 := Lib.hid (U6.out.trans ht)
    clear ha ht hr hw HR5
    go_wp2_with fail
    refine (par_head p e ov7 s7 _ H7.out (by have := HL7.out; omega)).mono ?_
    rintro u w8 ⟨rfl, hb8⟩
    have H8 := Lib.hid (H7.out.below hb8)
    have U8 := Lib.hid (PTo.below U7.out hb8)
    clear hb8
    have HN8 : RowKit.Hid ((headS e s7).kind ≠ 0 → s7.1 ≠ []) := Lib.hid head_ne
    generalize hq8 : headS e s7 = q8 at HR6 HN8 ⊢
    have HQ8 := Lib.hid hq8
    clear hq8
    rw [show (cTok q8).toArray = #[.int .u8 q8.kind, .int .i64 q8.num, str q8.text, .int .i64 q8.rect.c1, .int .i64 q8.rect.r1, .int .i64 q8.rect.c2, .int .i64 q8.rect.r2, .int .i64 q8.at_] from rfl]
    have hfi8 : ∀ W : World, (Instr.field 239 (.agg #[.int .u8 q8.kind, .int .i64 q8.num, str q8.text, .int .i64 q8.rect.c1, .int .i64 q8.rect.r1, .int .i64 q8.rect.c2, .int .i64 q8.rect.r2, .int .i64 q8.at_]) 0).run Tryz.prog W = .ok (.int .u8 q8.kind) W := fun W => by rfl
    by_cases h11 : q8.kind = 11
    · have b11 : (q8.kind != 11) = false := by simpa using h11
      have HR7 := Lib.hid (HR6.out.trans (if_pos h11))
      have hne8 := HN8.out (by omega)
      have hpos8 : 1 ≤ s7.1.length := List.length_pos_iff.2 hne8
      clear h11 HR6
      go_wp2_with fail
      refine (par_skip p e ov7 s7 _ H8.out (by have := HL7.out; omega) hne8).mono ?_
      rintro u w9 ⟨rfl, ha, ht⟩
      have H9 := Lib.hid ha
      have U9 := Lib.hid (U8.out.trans ht)
      have HL9 := Lib.hid (lenAt_eq ha)
      clear ha ht
      go_wp2
      exact ⟨⟨n + 1, f2, skipS s7, ov7, by go_num, HR7.out, by have := HL7.out; rw [skip_len]; simp only [usesS] at this; omega, by omega, by have := HL7.out; rw [skip_len]; simp only [usesS] at this; omega, by have := HL7.out; rw [skip_len, skip_two]; simp only [usesS] at this; omega, H9.out, U9.out⟩, by rw [HL9.out, HLA.out, skip_len]; have := HL7.out; simp only [usesS] at this; omega⟩
    have b11 : (q8.kind != 11) = true := by simpa using h11
    have HR7 := Lib.hid (HR6.out.trans (if_neg h11))
    clear h11 HR6 b10
    go_wp2_with fail
    refine (par_head p e ov7 s7 _ H8.out (by have := HL7.out; omega)).mono ?_
    rintro u w9 ⟨rfl, hb9⟩
    rw [HQ8.out]
    have H9 := Lib.hid (H8.out.below (hb9.alloc hb9.size (.cells (cTok q8).toArray 239)))
    have U9 := Lib.hid (PTo.below U8.out (hb9.alloc hb9.size (.cells (cTok q8).toArray 239)))
    have KQ := Lib.hid (Blk.new w9 239 (cTok q8).toArray)
    clear hb9
    obtain ⟨W9, hW9⟩ : ∃ W9, w9.alloc (.cells (cTok q8).toArray 239) = W9 := ⟨_, rfl⟩
    rw [hW9] at H9 U9 KQ
    rw [show (cTok q8).toArray = #[.int .u8 q8.kind, .int .i64 q8.num, str q8.text, .int .i64 q8.rect.c1, .int .i64 q8.rect.r1, .int .i64 q8.rect.c2, .int .i64 q8.rect.r2, .int .i64 q8.at_] from rfl] at hW9 KQ ⊢
    go_upto_region 13 with (fail)
    clear hW9
    have y0 : W9.cell? ⟨w9.heap.size, 0, none⟩ = some (.int .u8 q8.kind) := KQ.out.cell 0
    have y7 : W9.cell? ⟨w9.heap.size, 7, none⟩ = some (.int .i64 q8.at_) := KQ.out.cell 7
    have x7 : W9.cell? ⟨W.heap.size, 7, none⟩ = some (.int .i64 t.at_) := (KU.out _ _ U9.out).cell 7
    by_cases h10 : q8.kind = 10
    rotate_left
    · have c10 : (q8.kind != 10) = true := by simpa using h10
      have HD := Lib.hid (show R = .error (q8.at_, 4) by
        rw [HR7.out]
        unfold doneS
        rw [HQ8.out, if_pos h10])
      clear h10
      go_wp2_with fail
      refine (par_fail _ q8.at_ 4 _).mono ?_
      rintro u w10 ⟨rfl, rfl⟩
      unfold flt
      go_wp2
      exact ⟨rfl, went_err HD.out (BU.out _ _ U9.out)⟩
    have c10 : (q8.kind != 10) = false := by simpa using h10
    have hne8 := HN8.out (by omega)
    have HA := Lib.hid (tree_arity fn HFR.out.1 HFR.out.2 W9)
    have HD : RowKit.Hid (R = if ((n + 1 : Nat) : Int) < (arityS fn).1 ∨ (arityS fn).2.1 < ((n + 1 : Nat) : Int) then .error (t.at_, 11) else if 46 ≤ fn ∧ (s7.2.getLast?.map (·.kind)) ≠ some 2 ∧ (s7.2.getLast?.map (·.kind)) ≠ some 3 then .error (t.at_, 4) else .ok (putS { nod0 7 with fn := fn, n := (n + 1 : Nat) } (skipS s7))) := Lib.hid (by
      rw [HR7.out]
      unfold doneS
      rw [HQ8.out, if_neg (by simpa using h10)])
    clear h10 HR7
    rw [show ((n + 1 : Nat) : Int) = (n : Int) + 1 by omega] at HD
    generalize (arityS fn).1 = m0 at HA HD
    generalize (arityS fn).2.1 = m1 at HA HD
    generalize (arityS fn).2.2 = m2 at HA
    go_wp2_with fail
    refine HA.out.mono ?_
    rintro u w10 ⟨rfl, rfl⟩
    by_cases hm : (n : Int) + 1 < m0 ∨ m1 < (n : Int) + 1
    · have HD2 := Lib.hid (HD.out.trans (if_pos hm))
      have HM := Lib.hid hm
      clear HD hm
      by_cases hm0 : (n : Int) + 1 < m0
      · go_wp2_with fail
        refine (par_fail _ t.at_ 11 _).mono ?_
        rintro u w11 ⟨rfl, rfl⟩
        unfold flt
        go_wp2
        exact ⟨rfl, went_err HD2.out (BU.out _ _ U9.out)⟩
      · have hm1 : m1 < (n : Int) + 1 := HM.out.resolve_left hm0
        go_wp2_with fail
        refine (par_fail _ t.at_ 11 _).mono ?_
        rintro u w11 ⟨rfl, rfl⟩
        unfold flt
        go_wp2
        exact ⟨rfl, went_err HD2.out (BU.out _ _ U9.out)⟩
    have HD2 := Lib.hid (HD.out.trans (if_neg hm))
    have hm0 : ¬ (n : Int) + 1 < m0 := fun h => hm (.inl h)
    have hm1 : ¬ m1 < (n : Int) + 1 := fun h => hm (.inr h)
    clear HD hm
    obtain ⟨m, hm⟩ : ∃ m, s7.2.length = m + 1 := ⟨s7.2.length - 1, by have := HG7.out; simp only [usesS] at this; omega⟩
    have hx := List.getElem?_eq_getElem (l := s7.2) (i := m) (by omega)
    have hlast : s7.2.getLast? = some (s7.2[m]'(by omega)) := by rw [List.getLast?_eq_getElem?, show s7.2.length - 1 = m by omega]; exact hx
    generalize s7.2[m]'(by omega) = x at hx hlast
    obtain ⟨g, cap, hv, hcells⟩ : ∃ g cap, ov7 = .slice (some ⟨g, 0, none⟩) (m + 1) cap ∧ W9.cell? ⟨g, m * 11, none⟩ = some (.int .u8 x.kind) := by
      obtain ⟨g, cap, hv, _⟩ := World.ownsRow.form H9.out.ow (by omega)
      have hs := H9.out.ow.sls (by have := HL7.out; unfold maxLen; omega)
      rw [hv] at hs
      obtain ⟨b, o, e1, _, hr⟩ := Sls.get hs 11 cNod_len hx
      injection e1 with e1
      injection e1 with e1 e2
      subst e1 e2
      refine ⟨g, cap, by rw [hv, hm], ?_⟩
      have := hr 0 _ rfl
      rwa [Nat.zero_add, Nat.add_zero] at this
    have HD4 : RowKit.Hid (R = if 46 ≤ fn ∧ x.kind ≠ 2 ∧ x.kind ≠ 3 then .error (t.at_, 4) else .ok (putS { nod0 7 with fn := fn, n := (n : Int) + 1 } (skipS s7))) := Lib.hid (by
      rw [HD2.out, hlast]
      simp only [Option.map_some, ne_eq, Option.some.injEq])
    obtain ⟨lv, hbx, _⟩ := H9.out.bx
    have p2 : W9.cell? ⟨p, 2, none⟩ = some (.slice (some ⟨g, 0, none⟩) (m + 1) cap) := by rw [← hv]; exact hbx.cell 2
    have HV := Lib.hid hv
    have hmz : (0 : Int) ≤ (m : Int) := by omega
    have hmy : (m : Int) ≤ 2000 := by have := HL7.out; omega
    clear hx hlast hm hv hbx HD2
    generalize x.kind = xk at HD4 hcells
    clear x
    go_upto_region 18 with (fail)
    go_region
    have HH10 := Lib.hid (H9.out.below ((Below.refl _ _).drew))
    have UU10 := Lib.hid (PTo.below U9.out ((Below.refl _ _).drew))
    clear hcells p2 H9 U9
    have H9 := HH10
    have U9 := UU10
    clear HH10 UU10
    by_cases h46 : 46 ≤ fn
    rotate_left
    · have g46 : ¬ (46 : Int) ≤ (fn : Int) := by omega
      have HD3 := Lib.hid (HD4.out.trans (if_neg (fun h => h46 h.1)))
      clear HD4
      go_wp2_with fail
      refine (par_skip p e _ s7 _ H9.out (by have := HL7.out; omega) hne8).mono ?_
      rintro u w11 ⟨rfl, ha, ht⟩
      have H11 := Lib.hid ha
      have U11 := Lib.hid (U9.out.trans ht)
      clear ha ht
      go_wp2_with fail
      refine (par_put p e _ (skipS s7) { nod0 7 with fn := fn, n := (n : Int) + 1 } _ H11.out (by have := HL7.out; rw [skip_two]; omega)).mono ?_
      rintro u w12 ⟨rfl, ov12, ha, ht⟩
      have H12 := Lib.hid ha
      have U12 := Lib.hid (U11.out.trans ht)
      clear ha ht
      go_wp2
      refine bodyPost_end (results_none rfl _ _ _) rfl ?_
      exact went_ok HD3.out H12.out (TU.out _ _ U12.out)
    have g46 : (46 : Int) ≤ (fn : Int) := by omega
    by_cases k2 : xk = 2
    · have b2 : (xk != 2) = false := by simpa using k2
      have HD3 := Lib.hid (HD4.out.trans (if_neg (fun h => h.2.1 k2)))
      clear HD4
      go_wp2_with fail
      refine (par_skip p e _ s7 _ H9.out (by have := HL7.out; omega) hne8).mono ?_
      rintro u w11 ⟨rfl, ha, ht⟩
      have H11 := Lib.hid ha
      have U11 := Lib.hid (U9.out.trans ht)
      clear ha ht
      go_wp2_with fail
      refine (par_put p e _ (skipS s7) { nod0 7 with fn := fn, n := (n : Int) + 1 } _ H11.out (by have := HL7.out; rw [skip_two]; omega)).mono ?_
      rintro u w12 ⟨rfl, ov12, ha, ht⟩
      have H12 := Lib.hid ha
      have U12 := Lib.hid (U11.out.trans ht)
      clear ha ht
      go_wp2
      refine bodyPost_end (results_none rfl _ _ _) rfl ?_
      exact went_ok HD3.out H12.out (TU.out _ _ U12.out)
    have b2 : (xk != 2) = true := by simpa using k2
    by_cases k3 : xk = 3
    · have b3 : (xk != 3) = false := by simpa using k3
      have HD3 := Lib.hid (HD4.out.trans (if_neg (fun h => h.2.2 k3)))
      clear HD4
      go_wp2_with fail
      refine (par_skip p e _ s7 _ H9.out (by have := HL7.out; omega) hne8).mono ?_
      rintro u w11 ⟨rfl, ha, ht⟩
      have H11 := Lib.hid ha
      have U11 := Lib.hid (U9.out.trans ht)
      clear ha ht
      go_wp2_with fail
      refine (par_put p e _ (skipS s7) { nod0 7 with fn := fn, n := (n : Int) + 1 } _ H11.out (by have := HL7.out; rw [skip_two]; omega)).mono ?_
      rintro u w12 ⟨rfl, ov12, ha, ht⟩
      have H12 := Lib.hid ha
      have U12 := Lib.hid (U11.out.trans ht)
      clear ha ht
      go_wp2
      refine bodyPost_end (results_none rfl _ _ _) rfl ?_
      exact went_ok HD3.out H12.out (TU.out _ _ U12.out)
    have b3 : (xk != 3) = true := by simpa using k3
    have HD3 := Lib.hid (HD4.out.trans (if_pos ⟨h46, k2, k3⟩))
    clear HD4 k2 k3
    go_wp2_with fail
    refine (par_fail _ t.at_ 4 _).mono ?_
    rintro u w11 ⟨rfl, rfl⟩
    unfold flt
    go_wp2
    exact ⟨rfl, went_err HD3.out (BU.out _ _ U9.out)⟩
structure AllOk (e : Int) (f : Nat) : Prop where
  sign : RunS 284 one1 e f .sign
  pct : RunS 307 one1 e f .pct
  prim : RunS 325 one1 e f .prim
  level : ∀ k, 1 ≤ k → k ≤ 4 → RunS 251 (lev1 k) e f (.level k)
  call : CallOk e f
  arg : ∀ fn n, 1 ≤ fn → fn ≤ 50 → n ≤ 2000 → RunS 356 (arg1 fn n) e f (.arg fn n)
theorem all_zero (e : Int) : AllOk e 0 where
  sign := fun p ov st W h hn hf => by simp only [needS] at hf; omega
  pct := fun p ov st W h hn hf => by simp only [needS] at hf; omega
  prim := fun p ov st W h hn hf => by simp only [needS] at hf; omega
  level := fun k h1 h4 p ov st W h hn hf => by simp only [needS] at hf; omega
  call := fun t p ov st W h hn hf => by omega
  arg := fun fn n h1 h2 h3 p ov st W h hn hf => by simp only [needS] at hf; omega
theorem all_ok (e : Int) : ∀ f, ∀ f' ≤ f, AllOk e f'
  | 0, f', h => by
    obtain rfl : f' = 0 := by omega
    exact all_zero e
  | f + 1, f', h => by
    have ih := all_ok e f
    rcases Nat.lt_or_ge f f' with hlt | hge
    rotate_left
    · exact ih f' hge
    obtain rfl : f' = f + 1 := by omega
    have a := ih f (Nat.le_refl _)
    have hfo := formula_ok e f (a.level 1 (by omega) (by omega))
    exact
      { sign := sign_ok e f a.sign a.pct
        pct := pct_ok e f a.prim
        prim := prim_ok e f hfo a.call
        level := fun k h1 h4 => by
          rcases Nat.lt_or_ge k 4 with hk | hk
          · exact level_low e f k h1 hk (fun f' hf' => (ih f' hf').level (k + 1) (by omega) (by omega))
          · exact level_four e f k h1 (by omega) (fun f' hf' => (ih f' hf').sign)
        call := call_ok e f (fun f' fn n hf' h1 h2 h3 => (ih f' hf').arg fn n h1 h2 h3)
        arg := fun fn n h1 h2 h3 => arg_ok e f fn n h1 h2 h3 hfo }
theorem parse_ok (e : Int) (f : Nat) : RunS 224 one1 e f (.level 1) := formula_ok e f ((all_ok e f f (Nat.le_refl _)).level 1 (by omega) (by omega))
/-- The deferred closure where nothing has panicked. -/
theorem form_idle (p q r : Addr) (w : World) :
    CallsD Tryz.prog 223 #[.pointer (some p), .pointer (some q), .pointer (some r)] .returning w fun e u' w' => e = .returned (.tuple #[]) ∧ u' = .returning ∧ w' = w := by
  have hnil : ∀ w : World, (binOp BinOp.eql 20 .nilIface .nilIface).run Tryz.prog w = .ok (.bool true) w := fun _ => by kernel_rfl
  refine callsD_of_wpS Tryz.func223 rfl fun c₀ cs hu => ?_
  apply wpS_seq
  apply wpS_region
  simp [wpOpsS, go_sem, recoverD, hu, Tryz.ntmps223, Exit.thenS]
  refine wpS_of_wp ?_
  go_wp2
  cases c₀
  simp_all [bodyPostS, results, Tryz.results223]
theorem form_caught (p q r : Nat) (a er v1 v2 : Int) (v0 : Value) (w : World) (older : List PanicEntry) (hp : Blk w p 190 #[v0]) (hq : Blk w q 3 #[.int .i64 v1]) (hr : Blk w r 35 #[.int .i64 v2]) (hpq : p ≠ q) (hpr : p ≠ r) (hqr : q ≠ r) :
    CallsD Tryz.prog 223 #[.pointer (some ⟨p, 0, none⟩), .pointer (some ⟨q, 0, none⟩), .pointer (some ⟨r, 0, none⟩)] (.panicking ({ v := .iface 234 (.agg #[.int .i64 a, .int .i64 er]), recovered := false } :: older)) w fun e u' w' =>
      e = .returned (.tuple #[]) ∧ u' = .panicking ({ v := .iface 234 (.agg #[.int .i64 a, .int .i64 er]), recovered := true } :: older) ∧ Blk w' p 190 #[.slice none 0 0] ∧ Blk w' q 3 #[.int .i64 a] ∧ Blk w' r 35 #[.int .i64 er] ∧ Chg (fun k => k = p ∨ k = q ∨ k = r) w w' := by
  have hnil : ∀ w : World, (binOp BinOp.eql 20 (.iface 234 (.agg #[.int .i64 a, .int .i64 er])) .nilIface).run Tryz.prog w = .ok (.bool false) w := fun _ => by rfl
  have hta : ∀ w : World, (Instr.typeAssert (.iface 234 (.agg #[.int .i64 a, .int .i64 er])) 20 234 true).run Tryz.prog w = .ok (.tuple #[.agg #[.int .i64 a, .int .i64 er], .bool true]) w := fun _ => by rfl
  have HP := Lib.hid hp
  have HQ := Lib.hid hq
  have HR := Lib.hid hr
  have c0 : w.cell? ⟨p, 0, none⟩ = some v0 := hp.cell 0
  have c1 : w.cell? ⟨q, 0, none⟩ = some (.int .i64 v1) := hq.cell 0
  have c2 : w.cell? ⟨r, 0, none⟩ = some (.int .i64 v2) := hr.cell 0
  have f0 : w.frozen? ⟨p, 0, none⟩ = false := hp.frozen 0
  have f1 : w.frozen? ⟨q, 0, none⟩ = false := hq.frozen 0
  have f2 : w.frozen? ⟨r, 0, none⟩ = false := hr.frozen 0
  have l0 := hp.lt
  have l1 := hq.lt
  have l2 := hr.lt
  clear hp hq hr
  refine callsD_of_wpS Tryz.func223 rfl fun c₀ cs hu => ?_
  apply wpS_seq
  apply wpS_region
  simp [wpOpsS, go_sem, recoverD, hu, Tryz.ntmps223, Exit.thenS]
  refine wpS_of_wp ?_
  rw [show (#[Value.pointer (some ⟨p, 0, none⟩), .pointer (some ⟨q, 0, none⟩), .pointer (some ⟨r, 0, none⟩)] ++ (Array.replicate 13 undef).setIfInBounds 3 (.iface 234 (.agg #[.int .i64 a, .int .i64 er]))) = #[Value.pointer (some ⟨p, 0, none⟩), .pointer (some ⟨q, 0, none⟩), .pointer (some ⟨r, 0, none⟩), undef, undef, undef, .iface 234 (.agg #[.int .i64 a, .int .i64 er]), undef, undef, undef, undef, undef, undef, undef, undef, undef] from rfl]
  go_wp2_with fail
  have H1 := Lib.hid (((((HP.out.set_ 0 (.slice none 0 0)).far (p := ⟨q, 0, none⟩) hpq (.int .i64 a)).far (p := ⟨r, 0, none⟩) hpr (.int .i64 er)).alloc (.cells #[.int .i64 a, .int .i64 er] 234)).drew)
  have H2 := Lib.hid (((((HQ.out.far (p := ⟨p, 0, none⟩) (Ne.symm hpq) (.slice none 0 0)).set_ 0 (.int .i64 a)).far (p := ⟨r, 0, none⟩) hqr (.int .i64 er)).alloc (.cells #[.int .i64 a, .int .i64 er] 234)).drew)
  have H3 := Lib.hid (((((HR.out.far (p := ⟨p, 0, none⟩) (Ne.symm hpr) (.slice none 0 0)).far (p := ⟨q, 0, none⟩) (Ne.symm hqr) (.int .i64 a)).set_ 0 (.int .i64 er)).alloc (.cells #[.int .i64 a, .int .i64 er] 234)).drew)
  have H4 := Lib.hid ((((((Chg.refl (fun k => k = p ∨ k = q ∨ k = r) w).setCell (p := ⟨p, 0, none⟩) (.inl (.inl rfl)) (.slice none 0 0)).setCell (p := ⟨q, 0, none⟩) (.inl (.inr (.inl rfl))) (.int .i64 a)).setCell (p := ⟨r, 0, none⟩) (.inl (.inr (.inr rfl))) (.int .i64 er)).alloc (.cells #[.int .i64 a, .int .i64 er] 234)).drew)
  go_region
  all_goals
    go_wp2
    cases c₀
    simp [bodyPostS, results, Tryz.results223]
    exact ⟨H1.out, H2.out, H3.out, H4.out⟩
end Go.Proofs.YtamcgggmfghljaaGreatDoor
