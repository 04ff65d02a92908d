/- Layer 8 (program): Check. · Layer 9 (program): the parser's sign. · Layer 9 (program): the parser's percent. · Layer 9 (program): the parser's formula and primary (printed by tools/gen_parg.py). -/
import Derived.Deep.QuietTactic
import Derived.BigQuiet
import Derived.Test.YtamcgggmfghljaaGreatDoorC22
set_option maxRecDepth 100000
set_option maxHeartbeats 8000000
namespace Go.Proofs.YtamcgggmfghljaaGreatDoor
open Go.RowKit
theorem tree_check_in (tv : Value) (t : List Nod) (B : Nat) (w : World) (hB : B ≤ w.heap.size) (ht : Sls cNod w B tv t) (htl : t.length ≤ 2000) (hn : ∀ n ∈ t, NodOk n) :
    Calls Tryz.prog 252 #[tv, .bool false, .func (.func 253) #[] #[]] w fun u w' => u = .returned (.int .i64 (treeE t)) ∧ Below w.heap.size w w' := by
  obtain ⟨A, cap, rfl, hc1, hm1, ha1⟩ := id ht
  have HT := Lib.hid ht
  have HN := Lib.hid hn
  clear ht hn ha1
  unfold maxLen at hm1
  by_cases h256 : 256 < t.length
  · have HE := Lib.hid (show treeE t = 5 by unfold treeE; rw [if_pos h256])
    have g256 : (256 : Int) < (t.length : Int) := by omega
    go_enter Tryz.func252, Tryz.ntmps252
    go_wp2
    go_ret
    exact ⟨by rw [HE.out]; rfl, Below.refl _ _⟩
  have g256 : ¬ (256 : Int) < (t.length : Int) := by omega
  by_cases h0 : t.length = 0
  · have HE := Lib.hid (show treeE t = 4 by unfold treeE; rw [if_neg h256, if_pos (List.eq_nil_of_length_eq_zero h0)])
    have g0 : ((t.length : Int) == 0) = true := by simp [h0]
    clear h0
    go_enter Tryz.func252, Tryz.ntmps252
    go_wp2
    go_ret
    exact ⟨by rw [HE.out]; rfl, Below.refl _ _⟩
  have g0 : ((t.length : Int) == 0) = false := by simpa using h0
  have hne : t ≠ [] := fun e => h0 (by rw [e]; rfl)
  have HE0 := Lib.hid (show treeE t = if walkS t 0 t [] ≠ 0 then walkS t 0 t [] else if (t.getLast?.map (·.kind)) = some 3 then 4 else 0 by unfold treeE; rw [if_neg h256, if_neg hne])
  have HWK := Lib.hid (tree_walk _ t B w hB HT.out htl HN.out)
  obtain ⟨m, hm⟩ : ∃ m, t.length = m + 1 := ⟨t.length - 1, by omega⟩
  have hx := List.getElem?_eq_getElem (l := t) (i := m) (by omega)
  have hlast : t.getLast? = some (t[m]'(by omega)) := by rw [List.getLast?_eq_getElem?, show t.length - 1 = m by omega]; exact hx
  generalize t[m]'(by omega) = x at hx hlast
  obtain ⟨b, o, hA, hb, r⟩ := HT.out.get 11 cNod_len hx
  subst hA
  have r0 : w.cell? ⟨b, o + m * 11, none⟩ = some (.int .u8 x.kind) := r 0 _ rfl
  rw [hlast] at HE0
  have HE1 : RowKit.Hid (treeE t = if walkS t 0 t [] ≠ 0 then walkS t 0 t [] else if x.kind = 3 then 4 else 0) := Lib.hid (by
    rw [HE0.out]
    simp only [Option.map_some, Option.some.injEq])
  generalize walkS t 0 t [] = wk at HE1 HWK
  have hmz : (0 : Int) ≤ (m : Int) := Int.natCast_nonneg _
  have hmy : (m : Int) ≤ 2000 := by omega
  have hmi : (t.length : Int) - 1 = (m : Int) := by omega
  have hml : (m : Int) < (t.length : Int) := by omega
  have hblt : b < w.heap.size := by omega
  clear hx hlast r HE0 h0 hne hm h256
  generalize x.kind = xk at HE1 r0
  clear x
  go_enter Tryz.func252, Tryz.ntmps252
  go_wp2_with fail
  refine HWK.out.mono ?_
  rintro u w2 ⟨rfl, hb2⟩
  have HB2 := Lib.hid hb2
  have r2 : w2.cell? ⟨b, o + m * 11, none⟩ = some (.int .u8 xk) := (hb2.cell (p := ⟨b, o + m * 11, none⟩) hblt).trans r0
  clear hb2 r0
  by_cases hw : wk = 0
  · have HE2 := Lib.hid (HE1.out.trans (if_neg (by simpa using hw)))
    have bw : (wk != 0) = false := by simpa using hw
    clear HE1
    by_cases h3 : xk = 3
    · have HE3 := Lib.hid (HE2.out.trans (if_pos h3))
      have b3 : (xk == 3) = true := by simpa using h3
      clear h3 hw
      go_wp2
      go_ret
      exact ⟨by rw [HE3.out]; rfl, HB2.out⟩
    · have HE3 := Lib.hid (HE2.out.trans (if_neg h3))
      have b3 : (xk == 3) = false := by simpa using h3
      clear h3 hw
      go_wp2
      go_ret
      exact ⟨by rw [HE3.out]; rfl, HB2.out⟩
  · have HE2 := Lib.hid (HE1.out.trans (if_pos (by simpa using hw)))
    have bw : (wk != 0) = true := by simpa using hw
    clear HE1 hw
    go_wp2
    go_ret
    exact ⟨by rw [HE2.out]; rfl, HB2.out⟩
theorem tree_check (tv : Value) (t : List Nod) (B : Nat) (w : World) (hB : B ≤ w.heap.size) (ht : Sls cNod w B tv t) (htl : t.length ≤ 2000) (hn : ∀ n ∈ t, NodOk n) :
    Calls Tryz.prog 227 #[tv] w fun u w' => u = .returned (.int .i64 (treeE t)) ∧ Below w.heap.size w w' := by
  have HC := Lib.hid (tree_check_in tv t B w hB ht htl hn)
  generalize treeE t = e at HC ⊢
  clear ht hn
  go_enter Tryz.func227, Tryz.ntmps227
  go_wp2_with fail
  refine HC.out.mono ?_
  rintro u w2 ⟨rfl, hb2⟩
  have HB2 := Lib.hid hb2
  clear hb2
  go_wp2
  go_ret
  exact ⟨rfl, HB2.out⟩
/-- The fuel that suffices. -/
def needS : Stg → Nat → Nat
  | .level k, m => 10 * m + 2 * (5 - k) + 3
  | .loop k, m => 10 * m + 2 * (5 - k) + 2
  | .sign, m => 10 * m + 4
  | .pct, m => 10 * m + 3
  | .pctl, m => 10 * m + 2
  | .prim, m => 10 * m + 2
  | .call _, m => 10 * m + 1
  | .args _ _ _, m => 10 * m + 13
  | .arg _ _, m => 10 * m + 12
/-- A function of the parser does what the stage says, at a fuel. -/
def RunS (fn : Nat) (args : Nat → Array Value) (e : Int) (f : Nat) (g : Stg) : Prop :=
  ∀ (p : Nat) (ov : Value) (st : PSt) (W : World), PA W p e ov st → st.1.length + st.2.length ≤ 2000 → needS g st.1.length ≤ f → Calls Tryz.prog fn (args p) W (Went p e W ov (parS e f g st))
def one1 (p : Nat) : Array Value := #[.pointer (some ⟨p, 0, none⟩)]
theorem went_cases {p : Nat} {e : Int} {W W' : World} {ov : Value} {r : PRes} {u : Ending} (h : Went p e W ov r u W') :
    (∃ st' ov', r = .ok st' ∧ u = .returned (.tuple #[]) ∧ PA W' p e ov' st' ∧ PTo p W ov W' ov') ∨ (∃ a er, r = .error (a, er) ∧ u = flt a er ∧ Below p W W') := by
  unfold Went at h
  cases r with
  | error x => exact .inr ⟨x.1, x.2, rfl, h⟩
  | ok st' => obtain ⟨h1, ov', h2, h3⟩ := h; exact .inl ⟨st', ov', rfl, h1, h2, h3⟩
theorem sign_ok (e : Int) (f : Nat) (hs : RunS 284 one1 e f .sign) (hp : RunS 307 one1 e f .pct) :
    RunS 284 one1 e (f + 1) .sign := by
  intro p ov st W h hn hf
  have HS := Lib.hid hs
  have HPC := Lib.hid hp
  have HH := Lib.hid h
  have hlt := h.lt
  simp only [needS] at hf
  have HR : RowKit.Hid (parS e (f + 1) .sign st = if isOpS e st 2 then thenS (parS e f .sign (skipS st)) fun st => .ok (putS (nod0 4) st) else thenS (parS e f .pct st) fun st => if isOpS e st 5 then thenS (parS e f .sign (skipS st)) fun st => .ok (putS { nod0 6 with op := 5 } st) else .ok st) := Lib.hid rfl
  generalize parS e (f + 1) .sign st = R at HR ⊢
  clear hs hp h
  unfold one1
  go_enter Tryz.func284, Tryz.ntmps284
  go_wp2_with fail
  refine (par_is p e ov st 2 _ HH.out (by omega)).mono ?_
  rintro u w1 ⟨rfl, hb1⟩
  have H1 := Lib.hid (HH.out.below hb1)
  have T1 := Lib.hid (PTo.below (PTo.refl p W ov) hb1)
  clear hb1
  by_cases hi : isOpS e st 2 = true
  · have hpos := isOp_pos hi
    have hne : st.1 ≠ [] := List.length_pos_iff.1 hpos
    have HR2 := Lib.hid (HR.out.trans (if_pos hi))
    rw [hi]
    clear hi HR
    go_wp2_with fail
    refine (par_skip p e ov st _ H1.out (by omega) hne).mono ?_
    rintro u w2 ⟨rfl, ha, ht⟩
    have H2 := Lib.hid ha
    have T2 := Lib.hid (T1.out.trans ht)
    clear ha ht
    go_wp2_with fail
    refine (HS.out p ov (skipS st) _ H2.out (by rw [skip_len, skip_two]; omega) (by simp only [needS, skip_len]; omega)).mono ?_
    intro u w3 hw
    rcases went_cases hw with ⟨s3, ov3, hr, rfl, ha, ht⟩ | ⟨a, er, hr, rfl, hb⟩
    · have HL := Lib.hid (par_len e f .sign _ _ hr)
      have HR3 := Lib.hid (show R = .ok (putS (nod0 4) s3) by rw [HR2.out, hr]; rfl)
      have H3 := Lib.hid ha
      have T3 := Lib.hid (T2.out.trans ht)
      clear ha ht hr hw
      go_wp2_with fail
      refine (par_put p e ov3 s3 (nod0 4) _ H3.out (by have := HL.out; simp only [skip_len, skip_two, usesS] at this; omega)).mono ?_
      rintro u w4 ⟨rfl, ov4, ha, ht⟩
      have H4 := Lib.hid ha
      have T4 := Lib.hid (T3.out.trans ht)
      clear ha ht
      go_wp2
      refine bodyPost_ret (results_none rfl _ _ _) rfl ?_
      exact went_ok HR3.out H4.out T4.out
    · have HR3 := Lib.hid (show R = .error (a, er) by rw [HR2.out, hr]; rfl)
      have HB3 := Lib.hid ((T2.out.old' HH.out).trans hb)
      clear hr hw hb
      unfold flt
      go_wp2
      exact ⟨rfl, went_err HR3.out HB3.out⟩
  · have hi' : isOpS e st 2 = false := eq_false_of_ne_true hi
    have HR2 := Lib.hid (HR.out.trans (if_neg hi))
    rw [hi']
    clear hi hi' HR
    go_wp2_with fail
    refine (HPC.out p ov st _ H1.out hn (by simp only [needS]; omega)).mono ?_
    intro u w2 hw
    rcases went_cases hw with ⟨s2, ov2, hr, rfl, ha, ht⟩ | ⟨a, er, hr, rfl, hb⟩
    · have HL2 := Lib.hid (par_len e f .pct _ _ hr)
      have HR3 := Lib.hid (show R = if isOpS e s2 5 then thenS (parS e f .sign (skipS s2)) fun st => .ok (putS { nod0 6 with op := 5 } st) else .ok s2 by rw [HR2.out, hr]; rfl)
      have H2 := Lib.hid ha
      have T2 := Lib.hid (T1.out.trans ht)
      clear ha ht hr hw HR2
      go_wp2_with fail
      refine (par_is p e ov2 s2 5 _ H2.out (by have := HL2.out; omega)).mono ?_
      rintro u w3 ⟨rfl, hb3⟩
      have H3 := Lib.hid (H2.out.below hb3)
      have T3 := Lib.hid (PTo.below T2.out hb3)
      clear hb3
      by_cases hi : isOpS e s2 5 = true
      · have hpos := isOp_pos hi
        have hne : s2.1 ≠ [] := List.length_pos_iff.1 hpos
        have HR4 := Lib.hid (HR3.out.trans (if_pos hi))
        rw [hi]
        clear hi HR3
        go_wp2_with fail
        refine (par_skip p e ov2 s2 _ H3.out (by have := HL2.out; omega) hne).mono ?_
        rintro u w4 ⟨rfl, ha, ht⟩
        have H4 := Lib.hid ha
        have T4 := Lib.hid (T3.out.trans ht)
        clear ha ht
        go_wp2_with fail
        refine (HS.out p ov2 (skipS s2) _ H4.out (by have := HL2.out; rw [skip_len, skip_two]; omega) (by have := HL2.out; simp only [needS, skip_len, usesS] at this ⊢; omega)).mono ?_
        intro u w5 hw
        rcases went_cases hw with ⟨s5, ov5, hr, rfl, ha, ht⟩ | ⟨a, er, hr, rfl, hb⟩
        · have HL := Lib.hid (par_len e f .sign _ _ hr)
          have HR5 := Lib.hid (show R = .ok (putS { nod0 6 with op := 5 } s5) by rw [HR4.out, hr]; rfl)
          have H5 := Lib.hid ha
          have T5 := Lib.hid (T4.out.trans ht)
          clear ha ht hr hw
          go_wp2_with fail
          refine (par_put p e ov5 s5 { nod0 6 with op := 5 } _ H5.out (by have := HL.out; have := HL2.out; simp only [skip_len, skip_two, usesS] at *; omega)).mono ?_
          rintro u w6 ⟨rfl, ov6, ha, ht⟩
          have H6 := Lib.hid ha
          have T6 := Lib.hid (T5.out.trans ht)
          clear ha ht
          go_wp2
          refine bodyPost_end (results_none rfl _ _ _) rfl ?_
          exact went_ok HR5.out H6.out T6.out
        · have HR5 := Lib.hid (show R = .error (a, er) by rw [HR4.out, hr]; rfl)
          have HB5 := Lib.hid ((T4.out.old' HH.out).trans hb)
          clear hr hw hb
          unfold flt
          go_wp2
          exact ⟨rfl, went_err HR5.out HB5.out⟩
      · have hi' : isOpS e s2 5 = false := eq_false_of_ne_true hi
        have HR4 := Lib.hid (HR3.out.trans (if_neg hi))
        rw [hi']
        clear hi hi' HR3
        go_wp2
        refine bodyPost_end (results_none rfl _ _ _) rfl ?_
        exact went_ok HR4.out H3.out T3.out
    · have HR3 := Lib.hid (show R = .error (a, er) by rw [HR2.out, hr]; rfl)
      have HB3 := Lib.hid ((T1.out.old' HH.out).trans hb)
      clear hr hw hb
      unfold flt
      go_wp2
      exact ⟨rfl, went_err HR3.out HB3.out⟩
def lenAt (p : Nat) (W : World) : Nat := match W.cell? ⟨p, 0, none⟩ with
  | some (.slice _ n _) => n
  | _ => 0
theorem lenAt_eq {W : World} {p : Nat} {e : Int} {ov : Value} {st : PSt} (h : PA W p e ov st) : lenAt p W = st.1.length := by
  obtain ⟨lv, h1, h2⟩ := h.bx
  obtain ⟨A, cap, rfl, -⟩ := h2
  have hc : W.cell? ⟨p, 0, none⟩ = some (.slice A st.1.length cap) := h1.cell 0
  unfold lenAt
  rw [hc]
theorem pct_ok (e : Int) (f : Nat) (hp : RunS 325 one1 e f .prim) : RunS 307 one1 e (f + 1) .pct := by
  intro p ov st W h hn hf
  have HPC := Lib.hid hp
  have HH := Lib.hid h
  simp only [needS] at hf
  have HR : RowKit.Hid (parS e (f + 1) .pct st = thenS (parS e f .prim st) (parS e f .pctl)) := Lib.hid rfl
  generalize parS e (f + 1) .pct st = R at HR ⊢
  clear hp h
  unfold one1
  go_enter Tryz.func307, Tryz.ntmps307
  go_wp2_with fail
  refine (HPC.out p ov st _ HH.out hn (by simp only [needS]; omega)).mono ?_
  intro u w1 hw
  rcases went_cases hw with ⟨s1, ov1, hr, rfl, ha, ht⟩ | ⟨a, er, hr, rfl, hb⟩
  · have HL := Lib.hid (par_len e f .prim _ _ hr)
    have HR1 := Lib.hid (show R = parS e f .pctl s1 by rw [HR.out, hr]; rfl)
    have H1 := Lib.hid ha
    have T1 := Lib.hid ht
    clear ha ht hr hw HR
    go_wp2_with fail
    go_loopw [5] (fun _ wr => ∃ f' s' ov', R = parS e f' .pctl s' ∧ 10 * s'.1.length + 2 ≤ f' ∧ s'.1.length + s'.2.length ≤ 2000 ∧ PA wr p e ov' s' ∧ PTo p W ov wr ov') (fun _ wr => lenAt p wr)
    case atStart => exact ⟨f, s1, ov1, HR1.out, by have := HL.out; simp only [usesS] at this; omega, by have := HL.out; omega, H1.out, T1.out⟩
    case round =>
      obtain ⟨f', s', ov', hr, hf', hn', ha, ht⟩ := hrel
      obtain ⟨f2, rfl⟩ : ∃ f2, f' = f2 + 1 := ⟨f' - 1, by omega⟩
      have HR2 : RowKit.Hid (R = if isOpS e s' 13 then parS e f2 .pctl (putS (nod0 5) (skipS s')) else .ok s') := Lib.hid hr
      have H2 := Lib.hid ha
      have T2 := Lib.hid ht
      have hla := lenAt_eq ha
      clear hr ha ht
      go_wp2_with fail
      refine (par_is p e ov' s' 13 _ H2.out (by omega)).mono ?_
      rintro u w3 ⟨rfl, hb3⟩
      have H3 := Lib.hid (H2.out.below hb3)
      have T3 := Lib.hid (PTo.below T2.out hb3)
      clear hb3
      by_cases hi : isOpS e s' 13 = true
      · have hpos := isOp_pos hi
        have hne : s'.1 ≠ [] := List.length_pos_iff.1 hpos
        have HR4 := Lib.hid (HR2.out.trans (if_pos hi))
        rw [hi]
        clear hi HR2
        go_wp2_with fail
        refine (par_skip p e ov' s' _ H3.out (by omega) hne).mono ?_
        rintro u w4 ⟨rfl, ha, ht⟩
        have H4 := Lib.hid ha
        have T4 := Lib.hid (T3.out.trans ht)
        clear ha ht
        go_wp2_with fail
        refine (par_put p e ov' (skipS s') (nod0 5) _ H4.out (by rw [skip_two]; omega)).mono ?_
        rintro u w5 ⟨rfl, ov5, ha, ht⟩
        have H5 := Lib.hid ha
        have T5 := Lib.hid (T4.out.trans ht)
        have hl5 := lenAt_eq ha
        clear ha ht
        rw [put_one, skip_len] at hl5
        have HL5 := Lib.hid hl5
        have HLA := Lib.hid hla
        clear hl5 hla
        go_wp2
        exact ⟨⟨f2, _, ov5, HR4.out, by rw [put_one, skip_len]; omega, by rw [put_one, put_len, skip_len, skip_two]; omega, H5.out, T5.out⟩, by rw [HL5.out, HLA.out]; omega⟩
      · have hi' : isOpS e s' 13 = false := eq_false_of_ne_true hi
        have HR4 := Lib.hid (HR2.out.trans (if_neg hi))
        rw [hi']
        clear hi hi' HR2
        go_wp2
        refine bodyPost_end (results_none rfl _ _ _) rfl ?_
        exact went_ok HR4.out H3.out T3.out
  · have HR3 := Lib.hid (show R = .error (a, er) by rw [HR.out, hr]; rfl)
    have HB3 := Lib.hid hb
    clear hr hw hb
    unfold flt
    go_wp2
    exact ⟨rfl, went_err HR3.out HB3.out⟩
def lev1 (k : Nat) (p : Nat) : Array Value := #[.pointer (some ⟨p, 0, none⟩), .int .i64 k]
theorem formula_ok (e : Int) (f : Nat) (hl : RunS 251 (lev1 1) e f (.level 1)) : RunS 224 one1 e f (.level 1) := by
  intro p ov st W h hn hf
  have HH := Lib.hid h
  have HL := Lib.hid hl
  clear h hl
  generalize hR : parS e f (.level 1) st = R
  have HR := Lib.hid hR
  clear hR
  unfold one1
  go_enter Tryz.func224, Tryz.ntmps224
  go_wp2_with fail
  refine (HL.out p ov st _ HH.out hn hf).mono ?_
  intro u w1 hw
  rcases went_cases hw with ⟨s1, ov1, hr, rfl, ha, ht⟩ | ⟨a, er, hr, rfl, hb⟩
  · have HR2 := Lib.hid (HR.out.symm.trans hr)
    have H1 := Lib.hid ha
    have T1 := Lib.hid ht
    clear hr ha ht hw
    go_wp2
    refine bodyPost_end (results_none rfl _ _ _) rfl ?_
    exact went_ok HR2.out H1.out T1.out
  · have HR2 := Lib.hid (HR.out.symm.trans hr)
    have HB := Lib.hid hb
    clear hr hw hb
    unfold flt
    go_wp2
    exact ⟨rfl, went_err HR2.out HB.out⟩
/-- A call, at its name. -/
def CallOk (e : Int) (f : Nat) : Prop := ∀ (name : Tok) (p : Nat) (ov : Value) (st : PSt) (W : World), PA W p e ov st → st.1.length + st.2.length ≤ 2000 → 10 * st.1.length + 1 ≤ f → headS e st = name → name.kind = 7 →
  Calls Tryz.prog 343 #[.pointer (some ⟨p, 0, none⟩), .agg (cTok name).toArray] W (Went p e W ov (parS e f (.call name) st))
theorem prim_ok (e : Int) (f : Nat) (hl : RunS 224 one1 e f (.level 1)) (hc : CallOk e f) : RunS 325 one1 e (f + 1) .prim := by
  intro p ov st W h hn hf
  have HFO := Lib.hid hl
  have HCA := Lib.hid hc
  have HH := Lib.hid h
  simp only [needS] at hf
  generalize ht : headS e st = t
  have HR : RowKit.Hid (parS e (f + 1) .prim st = if t.kind = 1 then .ok (putS { nod0 1 with vk := 1, vn := t.num } (skipS st))
    else if t.kind = 2 then .ok (putS { nod0 1 with vk := 3, vt := t.text } (skipS st))
    else if t.kind = 3 then .ok (putS { nod0 1 with vk := 2, vn := t.num } (skipS st))
    else if t.kind = 4 then .ok (putS { nod0 1 with vk := 4, vn := t.num } (skipS st))
    else if t.kind = 5 then .ok (putS { nod0 2 with rect := t.rect } (skipS st))
    else if t.kind = 9 then thenS (parS e f (.level 1) (skipS st)) (wantK e 10)
    else if t.kind = 7 then parS e f (.call t) st
    else .error (t.at_, 4)) := Lib.hid (by subst ht; rfl)
  generalize parS e (f + 1) .prim st = R at HR ⊢
  have HN : RowKit.Hid (t.kind ≠ 0 → st.1 ≠ []) := Lib.hid (by rw [← ht]; exact head_ne)
  have HT0 := Lib.hid ht
  have HLT := Lib.hid h.lt
  have HOV := Lib.hid (show ∀ k, W.heap.size ≤ k → ov.ownBlock ≠ some k from fun k hk e => by have := h.ow.lt _ e; omega)
  clear hl hc h
  unfold one1
  go_enter Tryz.func325, Tryz.ntmps325
  go_wp2_with fail
  refine (par_head p e ov st _ HH.out (by omega)).mono ?_
  rintro u w1 ⟨rfl, hb1⟩
  rw [ht]
  clear ht
  have K1 := Lib.hid (Blk.new w1 239 (cTok t).toArray)
  have HB2 := Lib.hid (show Below W.heap.size W (w1.alloc (.cells (cTok t).toArray 239)) from hb1.alloc hb1.size _)
  have HS1 := Lib.hid hb1.size
  clear hb1
  have H1 := Lib.hid (HH.out.below HB2.out)
  have T1 := Lib.hid (PTo.below (PTo.refl p W ov) HB2.out)
  obtain ⟨W1, hW1⟩ : ∃ W1, w1.alloc (.cells (cTok t).toArray 239) = W1 := ⟨_, rfl⟩
  rw [hW1] at K1 HB2 H1 T1
  rw [show (cTok t).toArray = #[.int .u8 t.kind, .int .i64 t.num, str t.text, .int .i64 t.rect.c1, .int .i64 t.rect.r1, .int .i64 t.rect.c2, .int .i64 t.rect.r2, .int .i64 t.at_] from rfl] at hW1 ⊢
  obtain ⟨g, hg⟩ : ∃ g, g = w1.heap.size := ⟨_, rfl⟩
  rw [← hg] at K1 HS1
  have HGN := Lib.hid (show g ≠ p by have := HLT.out; have := HS1.out; omega)
  have HGO := Lib.hid (HOV.out g HS1.out)
  go_upto_region 1 with (fail)
  rw [← hg]
  clear hW1 hg
  have x0 : W1.cell? ⟨g, 0, none⟩ = some (.int .u8 t.kind) := K1.out.cell 0
  have x1 : W1.cell? ⟨g, 1, none⟩ = some (.int .i64 t.num) := K1.out.cell 1
  have x2 : W1.cell? ⟨g, 2, none⟩ = some (str t.text) := K1.out.cell 2
  have x3 : W1.cell? ⟨g, 3, none⟩ = some (.int .i64 t.rect.c1) := K1.out.cell 3
  have x4 : W1.cell? ⟨g, 4, none⟩ = some (.int .i64 t.rect.r1) := K1.out.cell 4
  have x5 : W1.cell? ⟨g, 5, none⟩ = some (.int .i64 t.rect.c2) := K1.out.cell 5
  have x6 : W1.cell? ⟨g, 6, none⟩ = some (.int .i64 t.rect.r2) := K1.out.cell 6
  have x7 : W1.cell? ⟨g, 7, none⟩ = some (.int .i64 t.at_) := K1.out.cell 7
  by_cases h1 : t.kind = 1
  · have HR2 := Lib.hid (HR.out.trans (if_pos h1))
    have hne := HN.out (by omega)
    have b1 : (t.kind == 1) = true := by simpa using h1
    clear HR h1
    go_wp2_with fail
    refine (par_value p e ov st 1 t.num [] _ H1.out (by omega) (by omega) hne).mono ?_
    rintro u w2 ⟨rfl, ov2, ha, ht⟩
    have H2 := Lib.hid ha
    have T2 := Lib.hid (T1.out.trans ht)
    clear ha ht
    go_wp2
    refine bodyPost_end (results_none rfl _ _ _) rfl ?_
    exact went_ok HR2.out H2.out T2.out
  have b1 : (t.kind == 1) = false := by simpa using h1
  by_cases h2 : t.kind = 2
  · have HR2 := Lib.hid (HR.out.trans ((if_neg h1).trans (if_pos h2)))
    have hne := HN.out (by omega)
    have b2 : (t.kind == 2) = true := by simpa using h2
    clear HR h1 h2
    go_wp2_with fail
    refine (par_value p e ov st 3 0 t.text _ H1.out (by omega) (by omega) hne).mono ?_
    rintro u w2 ⟨rfl, ov2, ha, ht⟩
    have H2 := Lib.hid ha
    have T2 := Lib.hid (T1.out.trans ht)
    clear ha ht
    go_wp2
    refine bodyPost_end (results_none rfl _ _ _) rfl ?_
    exact went_ok HR2.out H2.out T2.out
  have b2 : (t.kind == 2) = false := by simpa using h2
  by_cases h3 : t.kind = 3
  · have HR2 := Lib.hid (HR.out.trans ((if_neg h1).trans ((if_neg h2).trans (if_pos h3))))
    have hne := HN.out (by omega)
    have b3 : (t.kind == 3) = true := by simpa using h3
    clear HR h1 h2 h3
    go_wp2_with fail
    refine (par_value p e ov st 2 t.num [] _ H1.out (by omega) (by omega) hne).mono ?_
    rintro u w2 ⟨rfl, ov2, ha, ht⟩
    have H2 := Lib.hid ha
    have T2 := Lib.hid (T1.out.trans ht)
    clear ha ht
    go_wp2
    refine bodyPost_end (results_none rfl _ _ _) rfl ?_
    exact went_ok HR2.out H2.out T2.out
  have b3 : (t.kind == 3) = false := by simpa using h3
  by_cases h4 : t.kind = 4
  · have HR2 := Lib.hid (HR.out.trans ((if_neg h1).trans ((if_neg h2).trans ((if_neg h3).trans (if_pos h4)))))
    have hne := HN.out (by omega)
    have b4 : (t.kind == 4) = true := by simpa using h4
    clear HR h1 h2 h3 h4
    go_wp2_with fail
    refine (par_value p e ov st 4 t.num [] _ H1.out (by omega) (by omega) hne).mono ?_
    rintro u w2 ⟨rfl, ov2, ha, ht⟩
    have H2 := Lib.hid ha
    have T2 := Lib.hid (T1.out.trans ht)
    clear ha ht
    go_wp2
    refine bodyPost_end (results_none rfl _ _ _) rfl ?_
    exact went_ok HR2.out H2.out T2.out
  have b4 : (t.kind == 4) = false := by simpa using h4
  by_cases h5 : t.kind = 5
  · have HR2 := Lib.hid (HR.out.trans ((if_neg h1).trans ((if_neg h2).trans ((if_neg h3).trans ((if_neg h4).trans (if_pos h5))))))
    have hne := HN.out (by omega)
    have b5 : (t.kind == 5) = true := by simpa using h5
    clear HR h1 h2 h3 h4 h5
    go_wp2_with fail
    refine (par_skip p e ov st _ H1.out (by omega) hne).mono ?_
    rintro u w2 ⟨rfl, ha, ht⟩
    have H2 := Lib.hid ha
    have T2 := Lib.hid (T1.out.trans ht)
    have K2 := Lib.hid (ht.blk K1.out HGN.out HGO.out)
    clear ha ht
    have y3 : w2.cell? ⟨g, 3, none⟩ = some (.int .i64 t.rect.c1) := K2.out.cell 3
    have y4 : w2.cell? ⟨g, 4, none⟩ = some (.int .i64 t.rect.r1) := K2.out.cell 4
    have y5 : w2.cell? ⟨g, 5, none⟩ = some (.int .i64 t.rect.c2) := K2.out.cell 5
    have y6 : w2.cell? ⟨g, 6, none⟩ = some (.int .i64 t.rect.r2) := K2.out.cell 6
    go_wp2_with fail
    refine (par_put p e ov (skipS st) { nod0 2 with rect := t.rect } _ H2.out (by rw [skip_two]; omega)).mono ?_
    rintro u w3 ⟨rfl, ov3, ha, ht⟩
    have H3 := Lib.hid ha
    have T3 := Lib.hid (T2.out.trans ht)
    clear ha ht
    go_wp2
    refine bodyPost_end (results_none rfl _ _ _) rfl ?_
    exact went_ok HR2.out H3.out T3.out
  have b5 : (t.kind == 5) = false := by simpa using h5
  by_cases h9 : t.kind = 9
  · have HR2 := Lib.hid (HR.out.trans ((if_neg h1).trans ((if_neg h2).trans ((if_neg h3).trans ((if_neg h4).trans ((if_neg h5).trans (if_pos h9)))))))
    have hne := HN.out (by omega)
    have b9 : (t.kind == 9) = true := by simpa using h9
    clear HR h1 h2 h3 h4 h5 h9
    have hpos : 1 ≤ st.1.length := List.length_pos_iff.2 hne
    go_wp2_with fail
    refine (par_skip p e ov st _ H1.out (by omega) hne).mono ?_
    rintro u w2 ⟨rfl, ha, ht⟩
    have H2 := Lib.hid ha
    have T2 := Lib.hid (T1.out.trans ht)
    clear ha ht
    go_wp2_with fail
    refine (HFO.out p ov (skipS st) _ H2.out (by rw [skip_len, skip_two]; omega) (by simp only [needS, skip_len]; omega)).mono ?_
    intro u w3 hw
    rcases went_cases hw with ⟨s3, ov3, hr, rfl, ha, ht⟩ | ⟨a, er, hr, rfl, hb⟩
    · have HL := Lib.hid (par_len e f _ _ _ hr)
      have HR3 := Lib.hid (show R = wantK e 10 s3 by rw [HR2.out, hr]; rfl)
      have H3 := Lib.hid ha
      have T3 := Lib.hid (T2.out.trans ht)
      clear ha ht hr hw
      go_wp2_with fail
      refine (par_want p e ov3 s3 10 _ H3.out (by have := HL.out; rw [skip_len] at this; omega) (by decide)).mono ?_
      intro u w4 hw
      rcases went_cases hw with ⟨s4, ov4, hr, rfl, ha, ht⟩ | ⟨a, er, hr, rfl, hb⟩
      · have HR4 := Lib.hid (HR3.out.trans hr)
        have H4 := Lib.hid ha
        have T4 := Lib.hid (T3.out.trans ht)
        clear ha ht hr hw
        go_wp2
        refine bodyPost_end (results_none rfl _ _ _) rfl ?_
        exact went_ok HR4.out H4.out T4.out
      · have HR4 := Lib.hid (HR3.out.trans hr)
        have HB4 := Lib.hid ((T3.out.old' HH.out).trans hb)
        clear hr hw hb
        unfold flt
        go_wp2
        exact ⟨rfl, went_err HR4.out HB4.out⟩
    · have HR3 := Lib.hid (show R = .error (a, er) by rw [HR2.out, hr]; rfl)
      have HB3 := Lib.hid ((T2.out.old' HH.out).trans hb)
      clear hr hw hb
      unfold flt
      go_wp2
      exact ⟨rfl, went_err HR3.out HB3.out⟩
  have b9 : (t.kind == 9) = false := by simpa using h9
  by_cases h7 : t.kind = 7
  · have HR2 := Lib.hid (HR.out.trans ((if_neg h1).trans ((if_neg h2).trans ((if_neg h3).trans ((if_neg h4).trans ((if_neg h5).trans ((if_neg h9).trans (if_pos h7))))))))
    have hne := HN.out (by omega)
    have b7 : (t.kind == 7) = true := by simpa using h7
    have HK := Lib.hid h7
    clear HR h1 h2 h3 h4 h5 h9 h7
    go_wp2_with fail
    refine (HCA.out t p ov st _ H1.out hn (by omega) HT0.out HK.out).mono ?_
    intro u w2 hw
    rcases went_cases hw with ⟨s2, ov2, hr, rfl, ha, ht⟩ | ⟨a, er, hr, rfl, hb⟩
    · have HR3 := Lib.hid (HR2.out.trans hr)
      have H2 := Lib.hid ha
      have T2 := Lib.hid (T1.out.trans ht)
      clear ha ht hr hw
      go_wp2
      refine bodyPost_end (results_none rfl _ _ _) rfl ?_
      exact went_ok HR3.out H2.out T2.out
    · have HR3 := Lib.hid (HR2.out.trans hr)
      have HB3 := Lib.hid ((T1.out.old' HH.out).trans hb)
      clear hr hw hb
      unfold flt
      go_wp2
      exact ⟨rfl, went_err HR3.out HB3.out⟩
  have b7 : (t.kind == 7) = false := by simpa using h7
  have HR2 := Lib.hid (HR.out.trans ((if_neg h1).trans ((if_neg h2).trans ((if_neg h3).trans ((if_neg h4).trans ((if_neg h5).trans ((if_neg h9).trans (if_neg h7))))))))
  clear HR h1 h2 h3 h4 h5 h9 h7
  go_wp2_with fail
  refine (par_fail _ t.at_ 4 _).mono ?_
  rintro u w3 ⟨rfl, rfl⟩
  unfold flt
  go_wp2
  exact ⟨rfl, went_err HR2.out (T1.out.old' HH.out)⟩
end Go.Proofs.YtamcgggmfghljaaGreatDoor
