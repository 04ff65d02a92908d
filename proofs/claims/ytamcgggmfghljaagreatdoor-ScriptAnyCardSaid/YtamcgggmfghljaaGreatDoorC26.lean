/- Layer 9 (program): Formula, walked. · Layer 5 (program): conversions of texts to bools. · Layer 1 (program): numbers read: that something is handed back. · Layer 11 (program): the entry "9". -/
import Derived.Deep.QuietTactic
import Derived.BigQuiet
import Derived.Laws.IdiomStrings
import Derived.WalkMore
import Derived.Test.YtamcgggmfghljaaGreatDoorC25
set_option maxRecDepth 100000
set_option maxHeartbeats 8000000
namespace Go.Proofs.YtamcgggmfghljaaGreatDoor
open Go.RowKit
theorem toksL_len (s : Bytes) : ∀ (f i : Nat) (l : List Tok), toksL s f i = some l → l.length ≤ s.length - i
  | 0, i, l, h => by simp [toksL] at h
  | f + 1, i, l, h => by
    unfold toksL at h
    split at h
    · cases h; simp
    · split at h
      · have := toksL_len s f _ l h; omega
      · split at h
        · cases h
        · obtain ⟨l2, h2, rfl⟩ := Option.map_eq_some_iff.1 h
          have := toksL_len s f _ l2 h2
          rw [List.length_cons]
          omega
theorem toks_len (s : Bytes) : (tokensS s).1.length ≤ 256 := by
  unfold tokensS
  split
  · simp
  · split
    · simp
    · split
      · simp
      · rename_i l hl
        have := toksL_len s _ _ l hl
        simp only
        omega
theorem Sls.chgOwn {α : Type} {c : α → List Value} {S : Nat → Prop} {w w' : World} {B : Nat} {v : Value} {l : List α} (h : Sls c w B v l) (hb : Chg S w w') (hB : B ≤ w.heap.size) (hs : ∀ q, v.ownBlock = some q → ¬ S q) : Sls c w' B v l := by
  obtain ⟨A, cap, rfl, h1, hm, h2⟩ := h
  refine ⟨A, cap, rfl, h1, hm, fun hn => ?_⟩
  obtain ⟨b, o, rfl, hlt, hr⟩ := h2 hn
  exact ⟨b, o, rfl, hlt, range_chg hr hb (Nat.lt_of_lt_of_le hlt hB) (hs b rfl)⟩
theorem form_ok {s : Bytes} (h : ¬ (tokensS s).2 ≠ 0) : formulaS s = match parS s.length (10 * (tokensS s).1.length + 20) (.level 1) ((tokensS s).1, []) with
    | .error e => ([], e.2)
    | .ok st => if st.1 ≠ [] then ([], 4) else if treeE st.2 ≠ 0 then ([], treeE st.2) else (st.2, 0) := by
  unfold formulaS
  rw [if_neg h]
  cases parS s.length (10 * (tokensS s).1.length + 20) (.level 1) ((tokensS s).1, []) <;> rfl
theorem form_err {s : Bytes} (h : (tokensS s).2 ≠ 0) : formulaS s = ([], (tokensS s).2) := by unfold formulaS; rw [if_pos h]
theorem formula_any (s : Bytes) (w : World) (hs : s.length ≤ 1000000) (hw : Words w) :
    Calls Tryz.prog 197 #[str s] w fun u w' => ∃ v, ∃ p : Int, u = .returned (.tuple #[v, .int .i64 p, .int .i64 (formulaS s).2]) ∧ Sls cNod w' w'.heap.size v (formulaS s).1 ∧ Below w.heap.size w w' := by
  have hmf : ∀ (fn : Fn) (first cap : Array Value) (w : World), (Instr.makeFunc fn first cap).run Tryz.prog w = .ok (.func fn first cap) w := fun _ _ _ _ => rfl
  have HW := Lib.hid hw
  clear hw
  have HB0 := Lib.hid (show Below w.heap.size w (((w.alloc (.cells #[.slice none 0 0] 190)).alloc (.cells #[.int .i64 0] 3)).alloc (.cells #[.int .i64 0] 35)) from by go_grown)
  have K0 := Lib.hid (((Blk.new w 190 #[.slice none 0 0]).alloc (.cells #[.int .i64 0] 3)).alloc (.cells #[.int .i64 0] 35))
  have K1 := Lib.hid (show Blk (((w.alloc (.cells #[.slice none 0 0] 190)).alloc (.cells #[.int .i64 0] 3)).alloc (.cells #[.int .i64 0] 35)) (w.heap.size + 1) 3 #[.int .i64 0] by
    have := (Blk.new (w.alloc (.cells #[.slice none 0 0] 190)) 3 #[.int .i64 0]).alloc (.cells #[.int .i64 0] 35)
    simpa using this)
  have K2 := Lib.hid (show Blk (((w.alloc (.cells #[.slice none 0 0] 190)).alloc (.cells #[.int .i64 0] 3)).alloc (.cells #[.int .i64 0] 35)) (w.heap.size + 1 + 1) 35 #[.int .i64 0] by
    have := Blk.new ((w.alloc (.cells #[.slice none 0 0] 190)).alloc (.cells #[.int .i64 0] 3)) 35 #[.int .i64 0]
    simpa using this)
  go_enter_defers Tryz.func197, Tryz.ntmps197
  go_upto_region 1 with (fail)
  obtain ⟨W0, hW0⟩ : ∃ W0, (((w.alloc (.cells #[.slice none 0 0] 190)).alloc (.cells #[.int .i64 0] 3)).alloc (.cells #[.int .i64 0] 35)) = W0 := ⟨_, rfl⟩
  have HZ0 := Lib.hid (show (((w.alloc (.cells #[.slice none 0 0] 190)).alloc (.cells #[.int .i64 0] 3)).alloc (.cells #[.int .i64 0] 35)).heap.size = w.heap.size + 1 + 1 + 1 by simp)
  rw [hW0] at HB0 K0 K1 K2 HZ0 ⊢
  clear hW0
  go_wp2_with fail
  refine (lex_tokens s _ hs (HW.out.below HB0.out)).mono ?_
  rintro u w1 ⟨tv, tp, rfl, hsl, hb1, htq⟩
  have HTQ := Lib.hid htq
  clear htq
  obtain ⟨TA, tcap, rfl, -⟩ := id hsl
  have HT1 := Lib.hid hsl
  have HB1 := Lib.hid (Below.next HB0.out hb1 HB0.out.size)
  have L0 := Lib.hid (K0.out.below_ hb1)
  have L1 := Lib.hid (K1.out.below_ hb1)
  have L2 := Lib.hid (K2.out.below_ hb1)
  clear hsl hb1 K0 K1 K2
  have c1 : w1.cell? ⟨w.heap.size + 1, 0, none⟩ = some (.int .i64 0) := L1.out.cell 0
  have c2 : w1.cell? ⟨w.heap.size + 1 + 1, 0, none⟩ = some (.int .i64 0) := L2.out.cell 0
  have f1 : w1.frozen? ⟨w.heap.size + 1, 0, none⟩ = false := L1.out.frozen 0
  have f2 : w1.frozen? ⟨w.heap.size + 1 + 1, 0, none⟩ = false := L2.out.frozen 0
  go_upto_region 2 with (fail)
  have M0 := Lib.hid ((L0.out.far (p := ⟨w.heap.size + 1, 0, none⟩) (by show w.heap.size ≠ w.heap.size + 1; omega) (.int .i64 tp)).far (p := ⟨w.heap.size + 1 + 1, 0, none⟩) (by show w.heap.size ≠ w.heap.size + 1 + 1; omega) (.int .i64 (tokensS s).2))
  have M1 := Lib.hid (show Blk ((w1.setCell ⟨w.heap.size + 1, 0, none⟩ (.int .i64 tp)).setCell ⟨w.heap.size + 1 + 1, 0, none⟩ (.int .i64 (tokensS s).2)) (w.heap.size + 1) 3 #[.int .i64 tp] from (L1.out.set_ 0 (.int .i64 tp)).far (p := ⟨w.heap.size + 1 + 1, 0, none⟩) (by show w.heap.size + 1 ≠ w.heap.size + 1 + 1; omega) (.int .i64 (tokensS s).2))
  have M2 := Lib.hid (show Blk ((w1.setCell ⟨w.heap.size + 1, 0, none⟩ (.int .i64 tp)).setCell ⟨w.heap.size + 1 + 1, 0, none⟩ (.int .i64 (tokensS s).2)) (w.heap.size + 1 + 1) 35 #[.int .i64 (tokensS s).2] from (L2.out.far (p := ⟨w.heap.size + 1, 0, none⟩) (by show w.heap.size + 1 + 1 ≠ w.heap.size + 1; omega) (.int .i64 tp)).set_ 0 (.int .i64 (tokensS s).2))
  have HC2 := Lib.hid (((Chg.refl (fun k => k = w.heap.size + 1 ∨ k = w.heap.size + 1 + 1) w1).setCell (p := ⟨w.heap.size + 1, 0, none⟩) (.inl (.inl rfl)) (.int .i64 tp)).setCell (p := ⟨w.heap.size + 1 + 1, 0, none⟩) (.inl (.inr rfl)) (.int .i64 (tokensS s).2))
  have HB2 := Lib.hid (HB1.out.trans (HC2.out.to_below (B := w.heap.size) HB1.out.size (fun k hk e => by omega)))
  obtain ⟨W2, hW2⟩ : ∃ W2, (w1.setCell ⟨w.heap.size + 1, 0, none⟩ (.int .i64 tp)).setCell ⟨w.heap.size + 1 + 1, 0, none⟩ (.int .i64 (tokensS s).2) = W2 := ⟨_, rfl⟩
  rw [hW2] at M0 M1 M2 HC2 HB2 ⊢
  clear hW2 c1 c2 f1 f2 L0 L1 L2
  have d0 : W2.cell? ⟨w.heap.size, 0, none⟩ = some (.slice none 0 0) := M0.out.cell 0
  have d1 : W2.cell? ⟨w.heap.size + 1, 0, none⟩ = some (.int .i64 tp) := M1.out.cell 0
  have d2 : W2.cell? ⟨w.heap.size + 1 + 1, 0, none⟩ = some (.int .i64 (tokensS s).2) := M2.out.cell 0
  have e0 : W2.frozen? ⟨w.heap.size, 0, none⟩ = false := M0.out.frozen 0
  have e1 : W2.frozen? ⟨w.heap.size + 1, 0, none⟩ = false := M1.out.frozen 0
  have e2 : W2.frozen? ⟨w.heap.size + 1 + 1, 0, none⟩ = false := M2.out.frozen 0
  by_cases hte : (tokensS s).2 ≠ 0
  · have HE := Lib.hid (form_err hte)
    have bt : ((tokensS s).2 != 0) = true := by simpa using hte
    generalize (tokensS s).2 = te at *
    clear hte
    have N0 := Lib.hid ((((M0.out.set_ 0 (.slice none 0 0)).far (p := ⟨w.heap.size + 1, 0, none⟩) (by show w.heap.size ≠ w.heap.size + 1; omega) (.int .i64 tp)).far (p := ⟨w.heap.size + 1 + 1, 0, none⟩) (by show w.heap.size ≠ w.heap.size + 1 + 1; omega) (.int .i64 te)).drew)
    have N1 := Lib.hid ((((M1.out.far (p := ⟨w.heap.size, 0, none⟩) (by show w.heap.size + 1 ≠ w.heap.size; omega) (.slice none 0 0)).set_ 0 (.int .i64 tp)).far (p := ⟨w.heap.size + 1 + 1, 0, none⟩) (by show w.heap.size + 1 ≠ w.heap.size + 1 + 1; omega) (.int .i64 te)).drew)
    have N2 := Lib.hid ((((M2.out.far (p := ⟨w.heap.size, 0, none⟩) (by show w.heap.size + 1 + 1 ≠ w.heap.size; omega) (.slice none 0 0)).far (p := ⟨w.heap.size + 1, 0, none⟩) (by show w.heap.size + 1 + 1 ≠ w.heap.size + 1; omega) (.int .i64 tp)).set_ 0 (.int .i64 te)).drew)
    have HB3 := Lib.hid (show Below w.heap.size w (((W2.setCell ⟨w.heap.size, 0, none⟩ (.slice none 0 0)).setCell ⟨w.heap.size + 1, 0, none⟩ (.int .i64 tp)).setCell ⟨w.heap.size + 1 + 1, 0, none⟩ (.int .i64 te)).drew from (Below.setCell (Below.setCell (Below.setCell HB2.out (Nat.le_refl _) _) (Nat.le_succ _) _) (by show w.heap.size ≤ w.heap.size + 1 + 1; omega) _).drew)
    go_wp2_with fail
    go_region
    all_goals
      go_wp2
      obtain ⟨W3, hW3⟩ : ∃ W3, (((W2.setCell ⟨w.heap.size, 0, none⟩ (.slice none 0 0)).setCell ⟨w.heap.size + 1, 0, none⟩ (.int .i64 tp)).setCell ⟨w.heap.size + 1 + 1, 0, none⟩ (.int .i64 te)).drew = W3 := ⟨_, rfl⟩
      rw [hW3] at N0 N1 N2 HB3 ⊢
      clear hW3
      have z0 : W3.cell? ⟨w.heap.size, 0, none⟩ = some (.slice none 0 0) := N0.out.cell 0
      have z1 : W3.cell? ⟨w.heap.size + 1, 0, none⟩ = some (.int .i64 tp) := N1.out.cell 0
      have z2 : W3.cell? ⟨w.heap.size + 1 + 1, 0, none⟩ = some (.int .i64 te) := N2.out.cell 0
      simp only [bodyPostD, Leaves]
      refine ⟨.tuple #[.slice none 0 0, .int .i64 tp, .int .i64 te], by simp [results, Tryz.results197, go_sem, z0, z1, z2], .slice none 0 0, tp, by rw [HE.out], by rw [HE.out]; exact Sls.nil _ _ _ _ _, HB3.out⟩
  have hte0 : (tokensS s).2 = 0 := Classical.not_not.1 hte
  rw [hte0] at d2 M2
  have HF := Lib.hid (form_ok hte)
  have HTL := Lib.hid (toks_len s)
  have HTO := Lib.hid (toks_ok s)
  clear hte hte0
  have HTP := Lib.hid (show Sls cTok (W2.alloc (.cells #[.slice TA (tokensS s).1.length tcap, .int .i64 s.length, .slice none 0 0] 237)) W2.heap.size (.slice TA (tokensS s).1.length tcap) (tokensS s).1 from
    ((Sls.chgOwn HT1.out HC2.out (Nat.le_refl _) (fun q hq e => by have h1 := HTQ.out q hq; have h2 := HZ0.out; omega)).more HC2.out.size).below (by go_grown))
  have HPA := Lib.hid (show PA (W2.alloc (.cells #[.slice TA (tokensS s).1.length tcap, .int .i64 s.length, .slice none 0 0] 237)) W2.heap.size s.length (.slice none 0 0) ((tokensS s).1, []) from
    ⟨⟨_, Blk.new _ _ _, (HTP.out)⟩, Own.nil _ _ _ _, fun k hk => by simp [Value.ownBlock] at hk⟩)
  have HN := Lib.hid (show (((tokensS s).1, []) : PSt).1.length + (((tokensS s).1, []) : PSt).2.length ≤ 2000 by have := HTL.out; simp; omega)
  have HFU := Lib.hid (show needS (.level 1) (((tokensS s).1, []) : PSt).1.length ≤ 10 * (tokensS s).1.length + 20 by simp only [needS]; omega)
  have HPO0 := Lib.hid (show POk ((tokensS s).1, []) from ⟨HTO.out, fun n hn => by simp at hn⟩)
  go_wp2_with fail
  refine (parse_ok s.length (10 * (tokensS s).1.length + 20) W2.heap.size (.slice none 0 0) ((tokensS s).1, []) _ HPA.out HN.out HFU.out).mono ?_
  intro u w4 hw
  have HBP := Lib.hid (show Below w.heap.size w (W2.alloc (.cells #[.slice TA (tokensS s).1.length tcap, .int .i64 s.length, .slice none 0 0] 237)) from HB2.out.alloc HB2.out.size _)
  have Q0 := Lib.hid (M0.out.alloc (.cells #[.slice TA (tokensS s).1.length tcap, .int .i64 s.length, .slice none 0 0] 237))
  have Q1 := Lib.hid (M1.out.alloc (.cells #[.slice TA (tokensS s).1.length tcap, .int .i64 s.length, .slice none 0 0] 237))
  have Q2 := Lib.hid (M2.out.alloc (.cells #[.slice TA (tokensS s).1.length tcap, .int .i64 s.length, .slice none 0 0] 237))
  have HL2 := Lib.hid (show w.heap.size < W2.heap.size ∧ w.heap.size + 1 < W2.heap.size ∧ w.heap.size + 1 + 1 < W2.heap.size from ⟨M0.out.lt, M1.out.lt, M2.out.lt⟩)
  clear d0 d1 d2 e0 e1 e2
  rcases went_cases hw with ⟨s4, ov4, hr, rfl, ha, ht⟩ | ⟨a, er, hr, rfl, hb⟩
  rotate_left
  · have HE := Lib.hid (show formulaS s = ([], er) by rw [HF.out, hr])
    have R0 := Lib.hid (Q0.out.below hb HL2.out.1)
    have R1 := Lib.hid (Q1.out.below hb HL2.out.2.1)
    have R2 := Lib.hid (Q2.out.below hb HL2.out.2.2)
    have HB4 := Lib.hid (HBP.out.trans (hb.mono HB2.out.size))
    clear hr hw hb
    unfold flt
    go_wp2
    refine leaves_cons (f := 223) (args := #[.pointer (some ⟨w.heap.size, 0, none⟩), .pointer (some ⟨w.heap.size + 1, 0, none⟩), .pointer (some ⟨w.heap.size + 1 + 1, 0, none⟩)]) (by simp) (by simp [go_sem]) ?_
    refine (form_caught (w.heap.size) (w.heap.size + 1) (w.heap.size + 1 + 1) a er _ _ _ _ [] R0.out R1.out R2.out (by omega) (by omega) (by omega)).mono ?_
    rintro e u' w9 ⟨rfl, rfl, k0, k1, k2, hc⟩
    have z0 : w9.cell? ⟨w.heap.size, 0, none⟩ = some (.slice none 0 0) := k0.cell 0
    have z1 : w9.cell? ⟨w.heap.size + 1, 0, none⟩ = some (.int .i64 a) := k1.cell 0
    have z2 : w9.cell? ⟨w.heap.size + 1 + 1, 0, none⟩ = some (.int .i64 er) := k2.cell 0
    have HB9 := Lib.hid (HB4.out.trans (hc.to_below (B := w.heap.size) HB4.out.size (fun k hk e => by omega)))
    clear hc k0 k1 k2
    show Leaves _ _ _ _ [] .returning _
    simp only [Leaves]
    refine ⟨.tuple #[.slice none 0 0, .int .i64 a, .int .i64 er], by simp [results, Tryz.results197, go_sem, z0, z1, z2], .slice none 0 0, a, by rw [HE.out], by rw [HE.out]; exact Sls.nil _ _ _ _ _, HB9.out⟩
  have HR4 := Lib.hid hr
  have HPO4 := Lib.hid (par_ok _ _ (.level 1) _ _ (show 1 ≤ 4 by omega) (fun k e => by cases e; omega) HPO0.out hr)
  have HPL4 := Lib.hid (par_len _ _ _ _ _ hr)
  have H4 := Lib.hid ha
  have HO4 := Lib.hid (ht.old (Nat.le_of_lt HPA.out.lt) (fun k hk => by simp [Value.ownBlock] at hk))
  clear hr hw ha ht
  go_wp2_with fail
  refine (par_head W2.heap.size s.length ov4 s4 _ H4.out (by have := HPL4.out; have := HN.out; omega)).mono ?_
  rintro u w5 ⟨rfl, hb5⟩
  have HHD : RowKit.Hid ((headS s.length s4).kind ≠ 0 ↔ s4.1 ≠ []) := Lib.hid ⟨head_ne, fun h => by
    unfold headS
    cases hl : s4.1 with
    | nil => exact absurd hl h
    | cons t l =>
      have := HPO4.out.toks t (by rw [hl]; simp)
      rw [List.head?_cons, Option.getD_some]
      cases this <;> simp <;> omega⟩
  generalize headS s.length s4 = q at HHD ⊢
  have H5 := Lib.hid (H4.out.below (hb5.alloc hb5.size (.cells (cTok q).toArray 239)))
  have HO5 := Lib.hid (HO4.out.trans ((hb5.alloc hb5.size (.cells (cTok q).toArray 239)).mono (by have := H4.out.lt; omega)))
  have K5 := Lib.hid (Blk.new w5 239 (cTok q).toArray)
  rw [show (cTok q).toArray = #[.int .u8 q.kind, .int .i64 q.num, str q.text, .int .i64 q.rect.c1, .int .i64 q.rect.r1, .int .i64 q.rect.c2, .int .i64 q.rect.r2, .int .i64 q.at_] from rfl] at H5 HO5 K5 ⊢
  have R0 := Lib.hid (Q0.out.below HO5.out HL2.out.1)
  have R1 := Lib.hid (Q1.out.below HO5.out HL2.out.2.1)
  have R2 := Lib.hid (Q2.out.below HO5.out HL2.out.2.2)
  have HB5 := Lib.hid (HBP.out.trans (HO5.out.mono HB2.out.size))
  obtain ⟨g, hg⟩ : ∃ g, w5.heap.size = g := ⟨_, rfl⟩
  rw [hg] at K5
  obtain ⟨W5, hW5⟩ : ∃ W5, w5.alloc (.cells #[.int .u8 q.kind, .int .i64 q.num, str q.text, .int .i64 q.rect.c1, .int .i64 q.rect.r1, .int .i64 q.rect.c2, .int .i64 q.rect.r2, .int .i64 q.at_] 239) = W5 := ⟨_, rfl⟩
  rw [hW5] at H5 HO5 K5 R0 R1 R2 HB5
  go_upto_region 9 with (fail)
  clear hW5 hg hb5
  have x0 : W5.cell? ⟨g, 0, none⟩ = some (.int .u8 q.kind) := K5.out.cell 0
  have x7 : W5.cell? ⟨g, 7, none⟩ = some (.int .i64 q.at_) := K5.out.cell 7
  by_cases hk0 : q.kind = 0
  rotate_left
  · have bk : (q.kind != 0) = true := by simpa using hk0
    have HE := Lib.hid (show formulaS s = ([], 4) by rw [HF.out, HR4.out]; simp only; rw [if_pos (HHD.out.1 hk0)])
    clear hk0
    go_wp2_with fail
    refine (par_fail _ q.at_ 4 _).mono ?_
    rintro u w6 ⟨rfl, rfl⟩
    unfold flt
    go_wp2
    refine leaves_cons (f := 223) (args := #[.pointer (some ⟨w.heap.size, 0, none⟩), .pointer (some ⟨w.heap.size + 1, 0, none⟩), .pointer (some ⟨w.heap.size + 1 + 1, 0, none⟩)]) (by simp) (by simp [go_sem]) ?_
    refine (form_caught (w.heap.size) (w.heap.size + 1) (w.heap.size + 1 + 1) q.at_ 4 _ _ _ _ [] R0.out R1.out R2.out (by omega) (by omega) (by omega)).mono ?_
    rintro e u' w9 ⟨rfl, rfl, k0, k1, k2, hc⟩
    have z0 : w9.cell? ⟨w.heap.size, 0, none⟩ = some (.slice none 0 0) := k0.cell 0
    have z1 : w9.cell? ⟨w.heap.size + 1, 0, none⟩ = some (.int .i64 q.at_) := k1.cell 0
    have z2 : w9.cell? ⟨w.heap.size + 1 + 1, 0, none⟩ = some (.int .i64 4) := k2.cell 0
    have HB9 := Lib.hid (HB5.out.trans (hc.to_below (B := w.heap.size) HB5.out.size (fun k hk e => by omega)))
    clear hc k0 k1 k2
    show Leaves _ _ _ _ [] .returning _
    simp only [Leaves]
    refine ⟨.tuple #[.slice none 0 0, .int .i64 q.at_, .int .i64 4], by simp [results, Tryz.results197, go_sem, z0, z1, z2], .slice none 0 0, q.at_, by rw [HE.out], by rw [HE.out]; exact Sls.nil _ _ _ _ _, HB9.out⟩
  have bk : (q.kind != 0) = false := by simpa using hk0
  have HNIL := Lib.hid (show s4.1 = [] from Classical.not_not.1 (fun h => HHD.out.2 h hk0))
  have HF5 := Lib.hid (show formulaS s = if treeE s4.2 ≠ 0 then ([], treeE s4.2) else (s4.2, 0) by rw [HF.out, HR4.out]; simp only; rw [if_neg (by rw [HNIL.out]; simp)])
  clear hk0
  obtain ⟨lv, hbx, -⟩ := H5.out.bx
  have y2 : W5.cell? ⟨W2.heap.size, 2, none⟩ = some ov4 := hbx.cell 2
  have HS5 := Lib.hid (H5.out.ow.sls (by have := HPL4.out; have := HN.out; unfold maxLen; omega))
  obtain ⟨A4, c4, rfl, -⟩ := id HS5.out
  have hfl : s4.2.length ≤ 2000 := by have := HPL4.out; have := HN.out; omega
  clear hbx
  go_wp2_with fail
  refine (tree_check _ s4.2 _ _ (Nat.le_refl _) HS5.out hfl HPO4.out.nods).mono ?_
  rintro u w6 ⟨rfl, hb6⟩
  have S0 := Lib.hid (R0.out.below_ hb6)
  have S1 := Lib.hid (R1.out.below_ hb6)
  have S2 := Lib.hid (R2.out.below_ hb6)
  have HB6 := Lib.hid (Below.next HB5.out hb6 HB5.out.size)
  have HS6 := Lib.hid (HS5.out.below hb6)
  have y2 : w6.cell? ⟨W2.heap.size, 2, none⟩ = some (.slice A4 s4.2.length c4) := (hb6.cell (p := ⟨W2.heap.size, 2, none⟩) H5.out.lt).trans y2
  have HZ6 := Lib.hid hb6.size
  clear hb6 x0 x7
  have d0 : w6.cell? ⟨w.heap.size, 0, none⟩ = some (.slice none 0 0) := S0.out.cell 0
  have d1 : w6.cell? ⟨w.heap.size + 1, 0, none⟩ = some (.int .i64 tp) := S1.out.cell 0
  have d2 : w6.cell? ⟨w.heap.size + 1 + 1, 0, none⟩ = some (.int .i64 0) := S2.out.cell 0
  have e0 : w6.frozen? ⟨w.heap.size, 0, none⟩ = false := S0.out.frozen 0
  have e1 : w6.frozen? ⟨w.heap.size + 1, 0, none⟩ = false := S1.out.frozen 0
  have e2 : w6.frozen? ⟨w.heap.size + 1 + 1, 0, none⟩ = false := S2.out.frozen 0
  by_cases ht0 : treeE s4.2 = 0
  · have HE := Lib.hid (HF5.out.trans (if_neg (by simpa using ht0)))
    have bt : (treeE s4.2 != 0) = false := by simpa using ht0
    clear ht0
    have N0 := Lib.hid (((S0.out.set_ 0 (.slice A4 s4.2.length c4)).far (p := ⟨w.heap.size + 1, 0, none⟩) (by show w.heap.size ≠ w.heap.size + 1; omega) (.int .i64 0)).far (p := ⟨w.heap.size + 1 + 1, 0, none⟩) (by show w.heap.size ≠ w.heap.size + 1 + 1; omega) (.int .i64 0))
    have N1 := Lib.hid (((S1.out.far (p := ⟨w.heap.size, 0, none⟩) (by show w.heap.size + 1 ≠ w.heap.size; omega) (.slice A4 s4.2.length c4)).set_ 0 (.int .i64 0)).far (p := ⟨w.heap.size + 1 + 1, 0, none⟩) (by show w.heap.size + 1 ≠ w.heap.size + 1 + 1; omega) (.int .i64 0))
    have N2 := Lib.hid (((S2.out.far (p := ⟨w.heap.size, 0, none⟩) (by show w.heap.size + 1 + 1 ≠ w.heap.size; omega) (.slice A4 s4.2.length c4)).far (p := ⟨w.heap.size + 1, 0, none⟩) (by show w.heap.size + 1 + 1 ≠ w.heap.size + 1; omega) (.int .i64 0)).set_ 0 (.int .i64 0))
    have HC7 := Lib.hid ((((Chg.refl (fun k => k = w.heap.size ∨ k = w.heap.size + 1 ∨ k = w.heap.size + 1 + 1) w6).setCell (p := ⟨w.heap.size, 0, none⟩) (.inl (.inl rfl)) (.slice A4 s4.2.length c4)).setCell (p := ⟨w.heap.size + 1, 0, none⟩) (.inl (.inr (.inl rfl))) (.int .i64 0)).setCell (p := ⟨w.heap.size + 1 + 1, 0, none⟩) (.inl (.inr (.inr rfl))) (.int .i64 0))
    have HB7 := Lib.hid (HB6.out.trans (HC7.out.to_below (B := w.heap.size) HB6.out.size (fun k hk e => by omega)))
    go_wp2
    obtain ⟨W7, hW7⟩ : ∃ W7, ((w6.setCell ⟨w.heap.size, 0, none⟩ (.slice A4 s4.2.length c4)).setCell ⟨w.heap.size + 1, 0, none⟩ (.int .i64 0)).setCell ⟨w.heap.size + 1 + 1, 0, none⟩ (.int .i64 0) = W7 := ⟨_, rfl⟩
    rw [hW7] at N0 N1 N2 HC7 HB7 ⊢
    clear hW7
    have z0 : W7.cell? ⟨w.heap.size, 0, none⟩ = some (.slice A4 s4.2.length c4) := N0.out.cell 0
    have z1 : W7.cell? ⟨w.heap.size + 1, 0, none⟩ = some (.int .i64 0) := N1.out.cell 0
    have z2 : W7.cell? ⟨w.heap.size + 1 + 1, 0, none⟩ = some (.int .i64 0) := N2.out.cell 0
    refine leaves_cons (f := 223) (args := #[.pointer (some ⟨w.heap.size, 0, none⟩), .pointer (some ⟨w.heap.size + 1, 0, none⟩), .pointer (some ⟨w.heap.size + 1 + 1, 0, none⟩)]) (by simp) (by simp [go_sem]) ?_
    refine (form_idle _ _ _ _).mono ?_
    rintro e u' w9 ⟨rfl, rfl, rfl⟩
    show Leaves _ _ _ _ [] .returning _
    simp only [Leaves]
    have HSL := Lib.hid ((Sls.chgOwn HS6.out HC7.out HZ6.out (fun q hq e => by have h1 := H5.out.ob q hq; have h2 := HL2.out; omega)).more (Nat.le_trans HZ6.out HC7.out.size))
    refine ⟨.tuple #[.slice A4 s4.2.length c4, .int .i64 0, .int .i64 0], by simp [results, Tryz.results197, go_sem, z0, z1, z2], .slice A4 s4.2.length c4, 0, by rw [HE.out], by rw [HE.out]; exact HSL.out, HB7.out⟩
  · have HE := Lib.hid (HF5.out.trans (if_pos ht0))
    have bt : (treeE s4.2 != 0) = true := by simpa using ht0
    generalize treeE s4.2 = te at *
    clear ht0
    have N0 := Lib.hid (((S0.out.set_ 0 (.slice none 0 0)).far (p := ⟨w.heap.size + 1, 0, none⟩) (by show w.heap.size ≠ w.heap.size + 1; omega) (.int .i64 0)).far (p := ⟨w.heap.size + 1 + 1, 0, none⟩) (by show w.heap.size ≠ w.heap.size + 1 + 1; omega) (.int .i64 te))
    have N1 := Lib.hid (((S1.out.far (p := ⟨w.heap.size, 0, none⟩) (by show w.heap.size + 1 ≠ w.heap.size; omega) (.slice none 0 0)).set_ 0 (.int .i64 0)).far (p := ⟨w.heap.size + 1 + 1, 0, none⟩) (by show w.heap.size + 1 ≠ w.heap.size + 1 + 1; omega) (.int .i64 te))
    have N2 := Lib.hid (((S2.out.far (p := ⟨w.heap.size, 0, none⟩) (by show w.heap.size + 1 + 1 ≠ w.heap.size; omega) (.slice none 0 0)).far (p := ⟨w.heap.size + 1, 0, none⟩) (by show w.heap.size + 1 + 1 ≠ w.heap.size + 1; omega) (.int .i64 0)).set_ 0 (.int .i64 te))
    have HC7 := Lib.hid ((((Chg.refl (fun k => k = w.heap.size ∨ k = w.heap.size + 1 ∨ k = w.heap.size + 1 + 1) w6).setCell (p := ⟨w.heap.size, 0, none⟩) (.inl (.inl rfl)) (.slice none 0 0)).setCell (p := ⟨w.heap.size + 1, 0, none⟩) (.inl (.inr (.inl rfl))) (.int .i64 0)).setCell (p := ⟨w.heap.size + 1 + 1, 0, none⟩) (.inl (.inr (.inr rfl))) (.int .i64 te))
    have HB7 := Lib.hid (HB6.out.trans (HC7.out.to_below (B := w.heap.size) HB6.out.size (fun k hk e => by omega)))
    go_wp2
    obtain ⟨W7, hW7⟩ : ∃ W7, ((w6.setCell ⟨w.heap.size, 0, none⟩ (.slice none 0 0)).setCell ⟨w.heap.size + 1, 0, none⟩ (.int .i64 0)).setCell ⟨w.heap.size + 1 + 1, 0, none⟩ (.int .i64 te) = W7 := ⟨_, rfl⟩
    rw [hW7] at N0 N1 N2 HC7 HB7 ⊢
    clear hW7
    have z0 : W7.cell? ⟨w.heap.size, 0, none⟩ = some (.slice none 0 0) := N0.out.cell 0
    have z1 : W7.cell? ⟨w.heap.size + 1, 0, none⟩ = some (.int .i64 0) := N1.out.cell 0
    have z2 : W7.cell? ⟨w.heap.size + 1 + 1, 0, none⟩ = some (.int .i64 te) := N2.out.cell 0
    refine leaves_cons (f := 223) (args := #[.pointer (some ⟨w.heap.size, 0, none⟩), .pointer (some ⟨w.heap.size + 1, 0, none⟩), .pointer (some ⟨w.heap.size + 1 + 1, 0, none⟩)]) (by simp) (by simp [go_sem]) ?_
    refine (form_idle _ _ _ _).mono ?_
    rintro e u' w9 ⟨rfl, rfl, rfl⟩
    show Leaves _ _ _ _ [] .returning _
    simp only [Leaves]
    refine ⟨.tuple #[.slice none 0 0, .int .i64 0, .int .i64 te], by simp [results, Tryz.results197, go_sem, z0, z1, z2], .slice none 0 0, 0, by rw [HE.out], by rw [HE.out]; exact Sls.nil _ _ _ _ _, HB7.out⟩
theorem boolV_form (s : Bytes) : ∃ k m, boolV s = .agg #[.int .u8 k, .int .i64 m, str []] := by
  unfold boolV
  split
  · exact ⟨_, _, rfl⟩
  · split
    · exact ⟨_, _, rfl⟩
    · exact ⟨_, _, rfl⟩
theorem convert_bool (s : Bytes) (w : World) (hs : txtE s = 0) (hl : s.length ≤ 1000000) :
    Calls Tryz.prog 238 #[vVal 3 0 s, .func (.func 239) #[] #[]] w fun u w' => u = .returned (boolV s) ∧ Below w.heap.size w w' := by
  have HS := Lib.hid hs
  clear hs
  go_enter Tryz.func238, Tryz.ntmps238
  go_wp2_with fail
  go_region_held3 (fun W : World => W.cell? ⟨w.heap.size, 0, none⟩ = some (.int .u8 3) ∧ W.cell? ⟨w.heap.size, 1, none⟩ = some (.int .i64 0) ∧ W.cell? ⟨w.heap.size, 2, none⟩ = some (str s))
    (first
     | (go_simp; done)
     | exact ⟨(hb1.cell (p := ⟨w.heap.size, 0, none⟩) (by simp; omega)).trans (by go_simp), (hb1.cell (p := ⟨w.heap.size, 1, none⟩) (by simp; omega)).trans (by go_simp), (hb1.cell (p := ⟨w.heap.size, 2, none⟩) (by simp; omega)).trans (by go_simp)⟩)
    (first
     | (go_at_call 239; refine (tobool_1 s _).mono ?_; rintro e w1 ⟨n, rfl, hmp, hb1⟩; have hlk := run_look_at (P := Tryz.prog) _ _ _ Tryz.underlying253 Tryz.underlying5 w1 n (boolMap s) 5 3 3 _ hmp rfl; clear hmp))
  have hb9 := hb1
  have c0 : w1.cell? ⟨w.heap.size, 0, none⟩ = some (.int .u8 3) := (hb1.cell (p := ⟨w.heap.size, 0, none⟩) (by simp; omega)).trans (by go_simp)
  have c1 : w1.cell? ⟨w.heap.size, 1, none⟩ = some (.int .i64 0) := (hb1.cell (p := ⟨w.heap.size, 1, none⟩) (by simp; omega)).trans (by go_simp)
  have c2 : w1.cell? ⟨w.heap.size, 2, none⟩ = some (str s) := (hb1.cell (p := ⟨w.heap.size, 2, none⟩) (by simp; omega)).trans (by go_simp)
  have hz := hb1.size
  have HB := Lib.hid (show Below w.heap.size w w1 from Below.next (by go_grown) hb1 (by simp; omega))
  have hf : ∀ o, w1.frozen? ⟨w.heap.size + 1, o, none⟩ = _ := fun o => hb1.frozen (p := ⟨w.heap.size + 1, o, none⟩) (by simp)
  have hc : ∀ o, w1.cell? ⟨w.heap.size + 1, o, none⟩ = _ := fun o => hb1.cell (p := ⟨w.heap.size + 1, o, none⟩) (by simp)
  clear hb1 hb9 hlk
  go_wp2_with fail
  refine (val_check s _ HS.out hl).mono ?_
  rintro e w2 ⟨rfl, hb2⟩
  have hz2 := hb2.size
  have HB2 := Lib.hid (show Below w.heap.size w w2 from Below.next HB.out hb2 HB.out.size)
  simp at hz
  have hf2 : ∀ o, w2.frozen? ⟨w.heap.size + 1, o, none⟩ = _ := fun o => (hb2.frozen (p := ⟨w.heap.size + 1, o, none⟩) (by simp; omega)).trans (hf o)
  have hc2 : ∀ o, w2.cell? ⟨w.heap.size + 1, o, none⟩ = _ := fun o => (hb2.cell (p := ⟨w.heap.size + 1, o, none⟩) (by simp; omega)).trans (hc o)
  clear hb2 hf hc c0 c1 c2
  go_wp2_with fail
  refine (named_any s _ hl).mono ?_
  rintro e w3 ⟨rfl, hb3⟩
  obtain ⟨k, m, hk⟩ := boolV_form s
  rw [hk]
  have HK := Lib.hid hk
  have hz3 := hb3.size
  have HB3 := Lib.hid (show Below w.heap.size w w3 from Below.next HB2.out hb3 HB2.out.size)
  have hf3 : ∀ o, w3.frozen? ⟨w.heap.size + 1, o, none⟩ = _ := fun o => (hb3.frozen (p := ⟨w.heap.size + 1, o, none⟩) (by simp; omega)).trans (hf2 o)
  have hc3 : ∀ o, w3.cell? ⟨w.heap.size + 1, o, none⟩ = _ := fun o => (hb3.cell (p := ⟨w.heap.size + 1, o, none⟩) (by simp; omega)).trans (hc2 o)
  have hl3 : w.heap.size + 1 < w3.heap.size := by omega
  clear hb3 hf2 hc2 hk
  go_wp2
  refine bodyPost_ret (v := .agg #[.int .u8 k, .int .i64 m, str []]) (by simp (maxDischargeDepth := 9) [results, Tryz.results238, go_sem, hc3]) rfl ?_
  exact ⟨by rw [HK.out], Below.setCell (Below.setCell (Below.setCell HB3.out (by simp) _) (by simp) _) (by simp) _⟩
theorem tobool_any (s : Bytes) (w : World) (hs : txtE s = 0) (hl : s.length ≤ 1000000) :
    Calls Tryz.prog 215 #[vVal 3 0 s] w fun u w' => u = .returned (boolV s) ∧ Below w.heap.size w w' := by
  have HS := Lib.hid hs
  clear hs
  obtain ⟨k, m, hk⟩ := boolV_form s
  have HK := Lib.hid hk
  clear hk
  go_enter Tryz.func215, Tryz.ntmps215
  go_wp2_with fail
  refine (convert_bool s _ HS.out hl).mono ?_
  rintro e w1 ⟨rfl, hb1⟩
  have hz1 := hb1.size
  try simp at hz1
  have hB1 : Below w.heap.size w w1 := Below.next (by go_grown) hb1 (by first | (simp; done) | (simp; omega) | omega)
  have hc1_0 : ∀ o, w1.cell? ⟨w.heap.size, o, none⟩ = _ := fun o => hb1.cell (p := ⟨w.heap.size, o, none⟩) (by first | (simp; done) | (simp; omega) | omega)
  have hl1_0 : w.heap.size < w1.heap.size := by omega
  have hm1_0 : w.heap.size ≤ w1.heap.size := by omega
  have hn1_0 : w.heap.size ≤ w1.heap.size + 1 := by omega
  have ho1_0 : w.heap.size ≤ w1.heap.size + 1 + 1 := by omega
  have hf1_0 : ∀ o, w1.frozen? ⟨w.heap.size, o, none⟩ = _ := fun o => hb1.frozen (p := ⟨w.heap.size, o, none⟩) (by first | (simp; done) | (simp; omega) | omega)
  have hc1_1 : ∀ o, w1.cell? ⟨w.heap.size + 1, o, none⟩ = _ := fun o => hb1.cell (p := ⟨w.heap.size + 1, o, none⟩) (by first | (simp; done) | (simp; omega) | omega)
  have hl1_1 : w.heap.size + 1 < w1.heap.size := by omega
  have hm1_1 : w.heap.size + 1 ≤ w1.heap.size := by omega
  have hn1_1 : w.heap.size + 1 ≤ w1.heap.size + 1 := by omega
  have ho1_1 : w.heap.size + 1 ≤ w1.heap.size + 1 + 1 := by omega
  have hf1_1 : ∀ o, w1.frozen? ⟨w.heap.size + 1, o, none⟩ = _ := fun o => hb1.frozen (p := ⟨w.heap.size + 1, o, none⟩) (by first | (simp; done) | (simp; omega) | omega)
  rw [HK.out]
  go_wp2
  refine bodyPost_ret (v := .agg #[.int .u8 k, .int .i64 m, str []]) (by simp (maxDischargeDepth := 9) [results, Tryz.results215, go_sem, hc1_1]) rfl ?_
  exact ⟨by rw [HK.out], by go_grown⟩
theorem digits_9 (w : World) :
    Calls Tryz.prog 244 #[str [57]] w fun u w' => u = .returned (.int .i64 1) ∧ Below w.heap.size w w' := by
  go_enter Tryz.func244, Tryz.ntmps244
  go_wp2
  refine wp_loop_rounds 2 ?_
  rw [rounds_succ]
  go_wp2
  rw [rounds_succ]
  go_wp2
  go_ret
  exact ⟨rfl, by go_grown⟩
theorem parse_9 (w : World) :
    Calls Tryz.prog 220 #[str [57]] w fun u w' => u = .returned (.tuple #[.int .i64 90000, .int .i64 0]) ∧ Below w.heap.size w w' := by
  go_enter Tryz.func220, Tryz.ntmps220
  go_wp2_with fail
  refine (digits_9 _).mono ?_
  rintro e w1 ⟨rfl, hb1⟩
  go_wp2_with fail
  go_quiet (fail)
  have ht : ((⟨#[57]⟩ : ByteArray).extract 0 1 ++ ((⟨#[]⟩ : ByteArray) ++ ⟨#[48, 48, 48, 48, 48]⟩).extract 0 4) = ⟨#[57, 48, 48, 48, 48]⟩ := by rfl
  obtain ⟨row, cap, hcv, r0, r1, r2, r3, r4⟩ : ∃ (row : Array Value) (cap : Nat), (convert 9 59 (.string ((⟨#[57]⟩ : ByteArray).extract 0 1 ++ ((⟨#[]⟩ : ByteArray) ++ ⟨#[48, 48, 48, 48, 48]⟩).extract 0 4))).run Tryz.prog (w1.drewN nq) = .ok (.slice (some ⟨w1.heap.size, 0, none⟩) 5 cap) ((w1.drewN nq).drew.alloc (.cells row 5 (row.size, row.size + 1))) ∧
      row[0]? = some (.int .u8 57) ∧ row[1]? = some (.int .u8 48) ∧ row[2]? = some (.int .u8 48) ∧ row[3]? = some (.int .u8 48) ∧ row[4]? = some (.int .u8 48) := by
    have h := run_bytes_of_string (P := Tryz.prog) (w1.drewN nq) 9 59 5 ⟨#[57, 48, 48, 48, 48]⟩ rfl rfl rfl
    rw [ht]
    exact ⟨_, _, h, bytesRow_at ⟨#[57, 48, 48, 48, 48]⟩ _ 0 (by decide), bytesRow_at ⟨#[57, 48, 48, 48, 48]⟩ _ 1 (by decide), bytesRow_at ⟨#[57, 48, 48, 48, 48]⟩ _ 2 (by decide), bytesRow_at ⟨#[57, 48, 48, 48, 48]⟩ _ 3 (by decide), bytesRow_at ⟨#[57, 48, 48, 48, 48]⟩ _ 4 (by decide)⟩
  have HB1 := Lib.hid hb1
  have c0 : ((w1.drewN (nq + 1)).alloc (.cells row 5 (row.size, row.size + 1))).cell? ⟨w1.heap.size, 0, none⟩ = some (.int .u8 57) := (World.cell?_alloc_mark (w1.drewN (nq + 1)) row 5 (row.size, row.size + 1) 0).trans r0
  have c1 : ((w1.drewN (nq + 1)).alloc (.cells row 5 (row.size, row.size + 1))).cell? ⟨w1.heap.size, 1, none⟩ = some (.int .u8 48) := (World.cell?_alloc_mark (w1.drewN (nq + 1)) row 5 (row.size, row.size + 1) 1).trans r1
  have c2 : ((w1.drewN (nq + 1)).alloc (.cells row 5 (row.size, row.size + 1))).cell? ⟨w1.heap.size, 2, none⟩ = some (.int .u8 48) := (World.cell?_alloc_mark (w1.drewN (nq + 1)) row 5 (row.size, row.size + 1) 2).trans r2
  have c3 : ((w1.drewN (nq + 1)).alloc (.cells row 5 (row.size, row.size + 1))).cell? ⟨w1.heap.size, 3, none⟩ = some (.int .u8 48) := (World.cell?_alloc_mark (w1.drewN (nq + 1)) row 5 (row.size, row.size + 1) 3).trans r3
  have c4 : ((w1.drewN (nq + 1)).alloc (.cells row 5 (row.size, row.size + 1))).cell? ⟨w1.heap.size, 4, none⟩ = some (.int .u8 48) := (World.cell?_alloc_mark (w1.drewN (nq + 1)) row 5 (row.size, row.size + 1) 4).trans r4
  clear ht hb1 r0 r1 r2 r3 r4
  go_wp2
  refine wp_loop_rounds 6 ?_
  rw [rounds_succ]
  go_wp2
  rw [rounds_succ]
  go_wp2
  rw [rounds_succ]
  go_wp2
  rw [rounds_succ]
  go_wp2
  rw [rounds_succ]
  go_wp2
  rw [rounds_succ]
  go_wp2
  go_ret2
  exact ⟨rfl, (Below.drewN_ HB1.out _).alloc HB1.out.size _⟩
theorem first_9 : ((⟨#[57]⟩ : ByteArray).extract 0 1).toList = [57] := by
  rw [ByteArray.toList_eq]
  rfl
theorem prefix_9 (p : UInt8) (w : World) (hp : p ≠ 57) :
    Calls Tryz.prog 195 #[str [57], str [p]] w fun u w' => u = .returned (.tuple #[str [57], .bool false]) ∧ Below w.heap.size w w' := by
  have hx : (((⟨#[57]⟩ : ByteArray).extract 0 1).toList == [p]) = false := by
    rw [first_9, beq_eq_false_iff_ne]
    intro e
    exact hp (by simpa using e.symm)
  clear hp
  go_enter Tryz.func195, Tryz.ntmps195
  go_wp2
  go_ret2
  exact ⟨rfl, by go_grown⟩
/-- What a try does at "9". -/
def TryOk (K : Nat) : Prop := ∀ (W : World) (g : Nat), W.cell? ⟨g, 0, none⟩ = some (str [57]) → g < W.heap.size → Words W →
  Calls Tryz.prog K #[.pointer (some ⟨g, 0, none⟩)] W fun u w' => ∃ (k n : Int) (s : Bytes) (b : Bool), u = .returned (.tuple #[.agg #[.int .u8 k, .int .i64 n, str s], .bool b]) ∧ Below W.heap.size W w'
theorem make_any (n : Int) (w : World) (h : n ≠ -9223372036854775808) :
    Calls Tryz.prog 221 #[.int .i64 n] w fun u w' => u = .returned (.agg #[.int .u8 1, .int .i64 n, str []]) ∧ Below w.heap.size w w' := by
  have h1 : (n == -9223372036854775808) = false := by simpa using h
  clear h
  go_enter Tryz.func221, Tryz.ntmps221
  go_wp2
  refine bodyPost_ret (v := .agg #[.int .u8 1, .int .i64 n, str []]) (by simp (maxDischargeDepth := 9) [results, Tryz.results221, go_sem]) rfl ?_
  exact ⟨rfl, by go_grown⟩
theorem fail_any (n : Int) (w : World) :
    Calls Tryz.prog 218 #[.int .i64 n] w fun u w' => ∃ m : Int, u = .returned (.agg #[.int .u8 4, .int .i64 m, str []]) ∧ Below w.heap.size w w' := by
  by_cases h1 : n < 1
  · skip
    go_enter Tryz.func218, Tryz.ntmps218
    go_wp2
    refine bodyPost_ret (v := .agg #[.int .u8 4, .int .i64 2, str []]) (by simp (maxDischargeDepth := 9) [results, Tryz.results218, go_sem]) rfl ?_
    exact ⟨_, rfl, by go_grown⟩
  · by_cases h2 : 7 < n
    · skip
      go_enter Tryz.func218, Tryz.ntmps218
      go_wp2
      refine bodyPost_ret (v := .agg #[.int .u8 4, .int .i64 2, str []]) (by simp (maxDischargeDepth := 9) [results, Tryz.results218, go_sem]) rfl ?_
      exact ⟨⟨_, rfl⟩, by go_grown⟩
    · skip
      go_enter Tryz.func218, Tryz.ntmps218
      go_wp2
      refine bodyPost_ret (v := .agg #[.int .u8 4, .int .i64 n, str []]) (by simp (maxDischargeDepth := 9) [results, Tryz.results218, go_sem]) rfl ?_
      exact ⟨⟨_, rfl⟩, by go_grown⟩
theorem try_1 : TryOk 212 := by
  intro w g hc hg hw
  clear hw
  have h0 : ([57] == ([] : List UInt8)) = false := rfl
  go_enter Tryz.func212, Tryz.ntmps212
  go_wp2
  go_region
  all_goals
    go_wp2
    refine bodyPost_ret (v := .tuple #[.agg #[.int .u8 0, .int .i64 0, str []], .bool false]) (by simp (maxDischargeDepth := 9) [results, Tryz.results212, go_sem]) rfl ?_
    exact ⟨_, _, _, _, rfl, by go_grown⟩
theorem try_2 : TryOk 213 := by
  intro w g hc hg hw
  clear hw
  go_enter Tryz.func213, Tryz.ntmps213
  go_wp2_with fail
  refine (prefix_9 _ _ (by decide)).mono ?_
  rintro e w1 ⟨rfl, hb1⟩
  have hz1 := hb1.size
  try simp at hz1
  have hB1 : Below w.heap.size w w1 := Below.next (by go_grown) hb1 (by first | (simp; done) | (simp; omega) | omega)
  have hc1_0 : ∀ o, w1.cell? ⟨w.heap.size, o, none⟩ = _ := fun o => hb1.cell (p := ⟨w.heap.size, o, none⟩) (by first | (simp; done) | (simp; omega) | omega)
  have hl1_0 : w.heap.size < w1.heap.size := by omega
  have hm1_0 : w.heap.size ≤ w1.heap.size := by omega
  have hn1_0 : w.heap.size ≤ w1.heap.size + 1 := by omega
  have ho1_0 : w.heap.size ≤ w1.heap.size + 1 + 1 := by omega
  have hf1_0 : ∀ o, w1.frozen? ⟨w.heap.size, o, none⟩ = _ := fun o => hb1.frozen (p := ⟨w.heap.size, o, none⟩) (by first | (simp; done) | (simp; omega) | omega)
  go_wp2
  refine bodyPost_ret (v := .tuple #[.agg #[.int .u8 3, .int .i64 0, str [57]], .bool false]) (by simp (maxDischargeDepth := 9) [results, Tryz.results213, go_sem, hc1_0]) rfl ?_
  exact ⟨_, _, _, _, rfl, by go_grown⟩
theorem try_3 : TryOk 214 := by
  intro w g hc hg hw
  clear hw
  obtain ⟨k, m, hk⟩ := boolV_form [57]
  have HK := Lib.hid hk
  clear hk
  go_enter Tryz.func214, Tryz.ntmps214
  go_wp2_with fail
  refine (tobool_any _ _ rfl (by decide)).mono ?_
  rintro e w1 ⟨rfl, hb1⟩
  have hz1 := hb1.size
  try simp at hz1
  have hB1 : Below w.heap.size w w1 := Below.next (by go_grown) hb1 (by first | (simp; done) | (simp; omega) | omega)
  have hc1_0 : ∀ o, w1.cell? ⟨w.heap.size, o, none⟩ = _ := fun o => hb1.cell (p := ⟨w.heap.size, o, none⟩) (by first | (simp; done) | (simp; omega) | omega)
  have hl1_0 : w.heap.size < w1.heap.size := by omega
  have hm1_0 : w.heap.size ≤ w1.heap.size := by omega
  have hn1_0 : w.heap.size ≤ w1.heap.size + 1 := by omega
  have ho1_0 : w.heap.size ≤ w1.heap.size + 1 + 1 := by omega
  have hf1_0 : ∀ o, w1.frozen? ⟨w.heap.size, o, none⟩ = _ := fun o => hb1.frozen (p := ⟨w.heap.size, o, none⟩) (by first | (simp; done) | (simp; omega) | omega)
  rw [HK.out]
  go_wp2
  go_region
  all_goals
    go_wp2
    refine bodyPost_ret (v := .tuple #[.agg #[.int .u8 k, .int .i64 m, str []], .bool (k == 2)]) (by simp (maxDischargeDepth := 9) [results, Tryz.results214, go_sem, hc1_0, hl1_0]) rfl ?_
    exact ⟨_, _, _, _, rfl, by go_grown⟩
theorem try_4 : TryOk 216 := by
  intro w g hc hg hw
  have HW := Lib.hid hw
  clear hw
  go_enter Tryz.func216, Tryz.ntmps216
  go_wp2_with fail
  refine (code_any [57] _ (by decide) (HW.out.below (by go_grown))).mono ?_
  rintro e w1 ⟨c, m, rfl, hb1⟩
  have hz1 := hb1.size
  simp at hz1
  have hc1 : ∀ o, w1.cell? ⟨w.heap.size, o, none⟩ = _ := fun o => hb1.cell (p := ⟨w.heap.size, o, none⟩) (by simp)
  have hf1 : ∀ o, w1.frozen? ⟨w.heap.size, o, none⟩ = _ := fun o => hb1.frozen (p := ⟨w.heap.size, o, none⟩) (by simp)
  have HB1 := Lib.hid (show Below w.heap.size w w1 from Below.next (by go_grown) hb1 (by simp))
  clear hb1
  go_wp2_with fail
  refine (fail_any c _).mono ?_
  rintro e w2 ⟨q, rfl, hb2⟩
  have hz2 := hb2.size
  have hc2 : ∀ o, w2.cell? ⟨w.heap.size, o, none⟩ = _ := fun o => (hb2.cell (p := ⟨w.heap.size, o, none⟩) (by simp; omega)).trans (hc1 o)
  have hf2 : ∀ o, w2.frozen? ⟨w.heap.size, o, none⟩ = _ := fun o => (hb2.frozen (p := ⟨w.heap.size, o, none⟩) (by simp; omega)).trans (hf1 o)
  have HB2 := Lib.hid (show Below w.heap.size w w2 from Below.next HB1.out hb2 HB1.out.size)
  have hl2 : w.heap.size < w2.heap.size := by omega
  clear hb2 hc1 hf1
  go_wp2
  · skip
    refine bodyPost_ret (v := .tuple #[.agg #[.int .u8 4, .int .i64 q, str []], .bool (decide (c ≤ 5))]) (by simp (maxDischargeDepth := 9) [results, Tryz.results216, go_sem, hc2]) rfl ?_
    exact ⟨_, _, _, _, rfl, Below.setCell (Below.setCell (Below.setCell HB2.out (Nat.le_refl _) _) (Nat.le_refl _) _) (Nat.le_refl _) _⟩
  · skip
    refine bodyPost_ret (v := .tuple #[.agg #[.int .u8 4, .int .i64 q, str []], .bool false]) (by simp (maxDischargeDepth := 9) [results, Tryz.results216, go_sem, hc2]) rfl ?_
    exact ⟨_, _, _, _, rfl, Below.setCell (Below.setCell (Below.setCell HB2.out (Nat.le_refl _) _) (Nat.le_refl _) _) (Nat.le_refl _) _⟩
theorem try_5 : TryOk 219 := by
  intro w g hc hg hw
  clear hw
  go_enter Tryz.func219, Tryz.ntmps219
  go_wp2_with fail
  refine (parse_9 _).mono ?_
  rintro e w1 ⟨rfl, hb1⟩
  have hz1 := hb1.size
  try simp at hz1
  have hB1 : Below w.heap.size w w1 := Below.next (by go_grown) hb1 (by first | (simp; done) | (simp; omega) | omega)
  have hc1_0 : ∀ o, w1.cell? ⟨w.heap.size, o, none⟩ = _ := fun o => hb1.cell (p := ⟨w.heap.size, o, none⟩) (by first | (simp; done) | (simp; omega) | omega)
  have hl1_0 : w.heap.size < w1.heap.size := by omega
  have hm1_0 : w.heap.size ≤ w1.heap.size := by omega
  have hn1_0 : w.heap.size ≤ w1.heap.size + 1 := by omega
  have ho1_0 : w.heap.size ≤ w1.heap.size + 1 + 1 := by omega
  have hf1_0 : ∀ o, w1.frozen? ⟨w.heap.size, o, none⟩ = _ := fun o => hb1.frozen (p := ⟨w.heap.size, o, none⟩) (by first | (simp; done) | (simp; omega) | omega)
  go_wp2_with fail
  refine (make_any 90000 _ (by decide)).mono ?_
  rintro e w2 ⟨rfl, hb2⟩
  have hz2 := hb2.size
  try simp at hz2
  have hB2 : Below w.heap.size w w2 := Below.next (by go_grown) hb2 (by first | (simp; done) | (simp; omega) | omega)
  have hc2_0 : ∀ o, w2.cell? ⟨w.heap.size, o, none⟩ = _ := fun o => hb2.cell (p := ⟨w.heap.size, o, none⟩) (by first | (simp; done) | (simp; omega) | omega)
  have hl2_0 : w.heap.size < w2.heap.size := by omega
  have hm2_0 : w.heap.size ≤ w2.heap.size := by omega
  have hn2_0 : w.heap.size ≤ w2.heap.size + 1 := by omega
  have ho2_0 : w.heap.size ≤ w2.heap.size + 1 + 1 := by omega
  have hf2_0 : ∀ o, w2.frozen? ⟨w.heap.size, o, none⟩ = _ := fun o => hb2.frozen (p := ⟨w.heap.size, o, none⟩) (by first | (simp; done) | (simp; omega) | omega)
  go_wp2
  refine bodyPost_ret (v := .tuple #[.agg #[.int .u8 1, .int .i64 90000, str []], .bool true]) (by simp (maxDischargeDepth := 9) [results, Tryz.results219, go_sem, hc1_0, hc2_0]) rfl ?_
  exact ⟨_, _, _, _, rfl, by go_grown⟩
end Go.Proofs.YtamcgggmfghljaaGreatDoor
