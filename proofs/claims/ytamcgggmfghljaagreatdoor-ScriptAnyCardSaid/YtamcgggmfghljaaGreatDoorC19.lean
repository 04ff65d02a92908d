/- Layer 9 (program): the parser's state, and its small functions. · Layer 9 (program): the parser puts a node (printed by tools/gen_parb.py). · Layer 9 (program): the parser's is, fail, want, value. · Layers 8, 9 (program): how operators bind; how many arguments (printed by tools/gen_pard.p · Layer 9: what a parse uses up. No program in sight. · Layer 9: a parse adds nodes. No program in sight. -/
import Derived.Deep.Cut
import Derived.Deep.QuietTactic
import Derived.BigQuiet
import Derived.Test.YtamcgggmfghljaaGreatDoorC18
set_option maxRecDepth 100000
set_option maxHeartbeats 8000000
namespace Go.Proofs.YtamcgggmfghljaaGreatDoor
open Go.RowKit
def cNod (n : Nod) : List Value := [.int .u8 n.kind, .int .u8 n.vk, .int .i64 n.vn, str n.vt, .int .i64 n.rect.c1, .int .i64 n.rect.r1, .int .i64 n.rect.c2, .int .i64 n.rect.r2, .int .i64 n.op, .int .u8 n.fn, .int .i64 n.n]
theorem cNod_len (x : Nod) : (cNod x).length = 11 := rfl
theorem cNod_one (x : Nod) : ∀ u ∈ cNod x, u.oneCell' = true := by
  intro u hu
  simp only [cNod, List.mem_cons, List.not_mem_nil, or_false] at hu
  rcases hu with rfl | rfl | rfl | rfl | rfl | rfl | rfl | rfl | rfl | rfl | rfl <;> rfl
theorem info_nod : ∃ i, Tryz.prog.info? 297 = some i ∧ i.zero = some (.agg #[.int .u8 0, .int .u8 0, .int .i64 0, .string ⟨#[]⟩, .int .i64 0, .int .i64 0, .int .i64 0, .int .i64 0, .int .i64 0, .int .u8 0, .int .i64 0]) ∧ i.size = 11 ∧ i.bytes = 96 :=
  info_parts (show (Tryz.prog.info? 297).map (fun i => (i.zero, i.size, i.bytes)) = some (some (.agg #[.int .u8 0, .int .u8 0, .int .i64 0, .string ⟨#[]⟩, .int .i64 0, .int .i64 0, .int .i64 0, .int .i64 0, .int .i64 0, .int .u8 0, .int .i64 0]), 11, 96) by kernel_rfl)
/-- The parser at block p is in the state st; ov is its list of nodes. -/
structure PA (W : World) (p : Nat) (e : Int) (ov : Value) (st : PSt) : Prop where
  bx : ∃ lv, Blk W p 237 #[lv, .int .i64 e, ov] ∧ Sls cTok W p lv st.1
  ow : Own cNod 297 11 W ov st.2
  ob : ∀ k, ov.ownBlock = some k → p < k
/-- What may have changed: the parser, its list, and new memory. -/
structure PTo (p : Nat) (W : World) (ov : Value) (W' : World) (ov' : Value) : Prop where
  chg : Chg (fun k => k = p ∨ ov.ownBlock = some k) W W'
  own : ∀ k, ov'.ownBlock = some k → ov.ownBlock = some k ∨ W.heap.size ≤ k
section
variable {W W1 W2 : World} {p : Nat} {e : Int} {ov ov1 ov2 : Value} {st : PSt}
theorem PA.lt (h : PA W p e ov st) : p < W.heap.size := by obtain ⟨lv, h1, _⟩ := h.bx; exact h1.lt
theorem PTo.refl (p : Nat) (W : World) (ov : Value) : PTo p W ov W ov := ⟨Chg.refl _ _, fun _ h => .inl h⟩
theorem PTo.trans (h : PTo p W ov W1 ov1) (k : PTo p W1 ov1 W2 ov2) : PTo p W ov W2 ov2 := by
  refine ⟨⟨k.chg.os.trans h.chg.os, k.chg.tape.trans h.chg.tape, k.chg.output.trans h.chg.output, Nat.le_trans h.chg.size k.chg.size, fun i hi hs => ?_⟩, fun i hi => ?_⟩
  · refine (k.chg.block i (Nat.lt_of_lt_of_le hi h.chg.size) fun e => ?_).trans (h.chg.block i hi hs)
    rcases e with e | e
    · exact hs (.inl e)
    · rcases h.own i e with e | e
      · exact hs (.inr e)
      · omega
  · rcases k.own i hi with e | e
    · rcases h.own i e with e | e
      · exact .inl e
      · exact .inr e
    · exact .inr (Nat.le_trans h.chg.size e)
theorem PTo.below (h : PTo p W ov W1 ov1) (k : Below W1.heap.size W1 W2) : PTo p W ov W2 ov1 := ⟨h.chg.below k, h.own⟩
theorem PA.below (h : PA W p e ov st) (k : Below W.heap.size W W1) : PA W1 p e ov st := by
  obtain ⟨lv, h1, h2⟩ := h.bx
  exact ⟨⟨lv, h1.below_ k, h2.below (k.mono (Nat.le_of_lt h.lt))⟩, h.ow.below k, h.ob⟩
/-- All that is older than the parser stays. -/
theorem PTo.old (h : PTo p W ov W1 ov1) (hp : p ≤ W.heap.size) (ho : ∀ k, ov.ownBlock = some k → p < k) : Below p W W1 :=
  h.chg.to_below hp fun k hk e => by
    rcases e with e | e
    · omega
    · have := ho k e; omega
theorem PTo.blk {t : TypeId} {cs : Array Value} {g : Nat} (h : PTo p W ov W1 ov1) (hb : Blk W g t cs) (h1 : g ≠ p) (h2 : ov.ownBlock ≠ some g) : Blk W1 g t cs :=
  hb.chg h.chg (by intro e; rcases e with e | e; exact h1 e; exact h2 e)
end
theorem head_nil (e : Int) (l : List Nod) : headS e ([], l) = { tok0 with at_ := e } := rfl
theorem head_cons (e : Int) (t : Tok) (ts : List Tok) (l : List Nod) : headS e (t :: ts, l) = t := rfl
theorem par_head (p : Nat) (e : Int) (ov : Value) (st : PSt) (W : World) (h : PA W p e ov st) (hn : st.1.length ≤ 1000000) :
    Calls Tryz.prog 225 #[.pointer (some ⟨p, 0, none⟩)] W fun u W' => u = .returned (.agg (cTok (headS e st)).toArray) ∧ Below W.heap.size W W' := by
  obtain ⟨lv, hb, hs⟩ := h.bx
  have hlt := h.lt
  obtain ⟨ts, ns⟩ := st
  obtain ⟨A, cap, rfl, hc1, hm, hr⟩ := id hs
  have KZ0 := Lib.hid (show TokZ _ W.heap.size from Blk.new W 239 #[.int .u8 0, .int .i64 0, .string ⟨#[]⟩, .int .i64 0, .int .i64 0, .int .i64 0, .int .i64 0, .int .i64 0])
  have HB0 := Lib.hid (show Below W.heap.size W (W.alloc (.cells #[.int .u8 0, .int .i64 0, .string ⟨#[]⟩, .int .i64 0, .int .i64 0, .int .i64 0, .int .i64 0, .int .i64 0] 239)) from by go_grown)
  have hb1 := hb.alloc (.cells #[.int .u8 0, .int .i64 0, .string ⟨#[]⟩, .int .i64 0, .int .i64 0, .int .i64 0, .int .i64 0, .int .i64 0] 239)
  obtain ⟨W1, hW1⟩ : ∃ W1, W.alloc (.cells #[.int .u8 0, .int .i64 0, .string ⟨#[]⟩, .int .i64 0, .int .i64 0, .int .i64 0, .int .i64 0, .int .i64 0] 239) = W1 := ⟨_, rfl⟩
  have hbW := HB0.out
  rw [hW1] at hbW
  cases ts with
  | nil =>
    rw [hW1] at KZ0 HB0 hb1
    have c0 : W1.cell? ⟨p, 0, none⟩ = some (.slice A 0 cap) := hb1.cell 0
    have c1 : W1.cell? ⟨p, 1, none⟩ = some (.int .i64 e) := hb1.cell 1
    clear h hb hs hb1 hr
    obtain ⟨q0, q1, q2, q3, q4, q5, q6, q7, qf⟩ := tokz_facts KZ0.out
    go_enter Tryz.func225, Tryz.ntmps225
    go_upto_region 1 with (fail)
    clear hW1
    go_wp2
    refine bodyPost_ret (v := .agg (cTok (headS e ([], ns))).toArray) (by simp (maxDischargeDepth := 9) [results, Tryz.results225, go_sem, q0, q1, q2, q3, q4, q5, q6, q7, cTok, z4, tok0, head_nil]) rfl ?_
    exact ⟨rfl, below8 HB0.out (Nat.le_refl _) _ _ _ _ _ _ _ _⟩
  | cons t ts =>
    obtain ⟨b, o, rfl, hbp, hrg⟩ := hr (by simp)
    have r0 := range_part (l := cTok t) 0 (range_below hrg (hbW.mono (Nat.le_of_lt hlt)) hbp) (by intro j v hj; rw [Nat.zero_add, List.flatMap_cons, List.getElem?_append_left (List.getElem?_eq_some_iff.1 hj).1]; exact hj)
    rw [hW1] at KZ0 HB0 hb1
    have c0 : W1.cell? ⟨p, 0, none⟩ = some (.slice (some ⟨b, o, none⟩) (ts.length + 1) cap) := hb1.cell 0
    clear h hb hs hb1 hr hrg
    have t0 : W1.cell? ⟨b, o, none⟩ = some (.int .u8 t.kind) := r0 0 _ rfl
    have t1 : W1.cell? ⟨b, o + 1, none⟩ = some (.int .i64 t.num) := r0 1 _ rfl
    have t2 : W1.cell? ⟨b, o + 2, none⟩ = some (str t.text) := r0 2 _ rfl
    have t3 : W1.cell? ⟨b, o + 3, none⟩ = some (.int .i64 t.rect.c1) := r0 3 _ rfl
    have t4 : W1.cell? ⟨b, o + 4, none⟩ = some (.int .i64 t.rect.r1) := r0 4 _ rfl
    have t5 : W1.cell? ⟨b, o + 5, none⟩ = some (.int .i64 t.rect.c2) := r0 5 _ rfl
    have t6 : W1.cell? ⟨b, o + 6, none⟩ = some (.int .i64 t.rect.r2) := r0 6 _ rfl
    have t7 : W1.cell? ⟨b, o + 7, none⟩ = some (.int .i64 t.at_) := r0 7 _ rfl
    clear r0
    obtain ⟨q0, q1, q2, q3, q4, q5, q6, q7, qf⟩ := tokz_facts KZ0.out
    have hl0 : (0 : Int) < (ts.length : Int) + 1 := by omega
    go_enter Tryz.func225, Tryz.ntmps225
    go_upto_region 1 with (fail)
    clear hW1
    go_wp2
    refine bodyPost_ret (v := .agg (cTok (headS e (t :: ts, ns))).toArray) (by simp (maxDischargeDepth := 9) [results, Tryz.results225, go_sem, q0, q1, q2, q3, q4, q5, q6, q7, cTok, head_cons]) rfl ?_
    exact ⟨rfl, below8 HB0.out (Nat.le_refl _) _ _ _ _ _ _ _ _⟩
theorem PA.next {W : World} {p : Nat} {e : Int} {ov : Value} {st : PSt} (h : PA W p e ov st) {ts : List Tok} {lv : Value} (hl : Sls cTok W p lv ts) :
    PA (W.setCell ⟨p, 0, none⟩ lv) p e ov (ts, st.2) ∧ PTo p W ov (W.setCell ⟨p, 0, none⟩ lv) ov := by
  obtain ⟨lv0, hb, hs⟩ := h.bx
  have hne : ov.ownBlock ≠ some p := fun e => by have := h.ob p e; omega
  have hc : Chg (fun k => k = p) W (W.setCell ⟨p, 0, none⟩ lv) := (Chg.refl (fun k => k = p) W).setCell (p := ⟨p, 0, none⟩) (.inl rfl) lv
  refine ⟨⟨⟨lv, ?_, ?_⟩, h.ow.chg hc (fun q hq e => hne (by rw [hq, e])), h.ob⟩, ⟨hc.mono (fun k _ e => .inl e), fun _ h => .inl h⟩⟩
  · exact hb.set_ 0 lv
  · exact Sl.chg hl hc (Nat.le_of_lt h.lt) (fun k hk e => by omega)
theorem par_skip (p : Nat) (e : Int) (ov : Value) (st : PSt) (W : World) (h : PA W p e ov st) (hn : st.1.length ≤ 1000000) (h0 : st.1 ≠ []) :
    Calls Tryz.prog 287 #[.pointer (some ⟨p, 0, none⟩)] W fun u W' => u = .returned (.tuple #[]) ∧ PA W' p e ov (skipS st) ∧ PTo p W ov W' ov := by
  obtain ⟨lv, hb, hs⟩ := h.bx
  have hlt := h.lt
  obtain ⟨ts, ns⟩ := st
  obtain ⟨A, cap, rfl, hc1, hm, hr⟩ := id hs
  cases ts with
  | nil => exact absurd rfl h0
  | cons t ts =>
    obtain ⟨b, o, rfl, hbp, hrg⟩ := hr (by simp)
    have c0 : W.cell? ⟨p, 0, none⟩ = some (.slice (some ⟨b, o, none⟩) (ts.length + 1) cap) := hb.cell 0
    have cf := hb.frozen
    have HH := Lib.hid h
    have HB := Lib.hid hb
    have HR := Lib.hid hrg
    clear h hb hs hr hrg
    simp only [List.length_cons] at hc1 hm hn
    have hl0 : (1 : Int) ≤ (ts.length : Int) + 1 := by omega
    have hl1 : (1 : Int) ≤ (cap : Int) := by omega
    have hl2 : (ts.length : Int) + 1 ≤ (cap : Int) := by omega
    by_cases hcap : cap = 1
    · have hts : ts = [] := List.eq_nil_of_length_eq_zero (by omega)
      subst hts hcap
      have HN := Lib.hid (HH.out.next (ts := []) (lv := .slice (some ⟨b, o, none⟩) 0 0) (Sls.nil _ _ _ _ _))
      go_enter Tryz.func287, Tryz.ntmps287
      go_wp2
      refine bodyPost_end (results_none rfl _ _ _) rfl ?_
      exact ⟨rfl, HN.out⟩
    · have HN := Lib.hid (HH.out.next (ts := ts) (lv := .slice (some ⟨b, o + 8, none⟩) ts.length (cap - 1)) ⟨_, _, rfl, by omega, by omega, fun hp => ⟨b, o + 8, rfl, hbp, range_part 8 HR.out (by
        intro j v hj
        rw [List.flatMap_cons, List.getElem?_append_right (by rw [cTok_len]; omega), cTok_len, show 8 + j - 8 = j by omega]
        exact hj)⟩⟩)
      go_enter Tryz.func287, Tryz.ntmps287
      go_wp2
      refine bodyPost_end (results_none rfl _ _ _) rfl ?_
      exact ⟨rfl, HN.out⟩
theorem PA.putAt {W W9 : World} {p : Nat} {e : Int} {ov ov9 : Value} {st : PSt} {n : Nod} (h : PA W p e ov st) {o1 o2 : Obj}
    (o9 : Own cNod 297 11 W9 ov9 (st.2 ++ [n])) (t9 : OutTo ((W.alloc o1).alloc o2).drew ov W9 ov9) :
    PA (W9.setCell ⟨p, 2, none⟩ ov9) p e ov9 (putS n st) ∧ PTo p W ov (W9.setCell ⟨p, 2, none⟩ ov9) ov9 := by
  obtain ⟨lv, hb, hs⟩ := h.bx
  have hlt := h.lt
  have hne : ov.ownBlock ≠ some p := fun e => by have := h.ob p e; omega
  have hne9 : ov9.ownBlock ≠ some p := fun e => by
    rcases t9.own p e with e | e
    · exact hne e
    · simp at e; omega
  have hbW : Below W.heap.size W ((W.alloc o1).alloc o2).drew := by go_grown
  have hb9 := (hb.below_ hbW).outTo t9 hne
  have hs9 : Sls cTok W9 p lv st.1 := (hs.below (hbW.mono (Nat.le_of_lt hlt))).below (t9.old (by simp; omega) (fun k hk => by have := h.ob k hk; omega))
  have hc : Chg (fun k => k = p) W9 (W9.setCell ⟨p, 2, none⟩ ov9) := (Chg.refl (fun k => k = p) W9).setCell (p := ⟨p, 2, none⟩) (.inl rfl) ov9
  have hlt9 : p < W9.heap.size := hb9.lt
  refine ⟨⟨⟨lv, ?_, ?_⟩, o9.chg hc (fun q hq e => hne9 (by rw [hq, e])), fun k hk => ?_⟩, ⟨?_, fun k hk => ?_⟩⟩
  · exact hb9.set_ 2 ov9
  · exact Sl.chg hs9 hc (Nat.le_of_lt hlt9) (fun k hk e => by omega)
  · rcases t9.own k hk with e | e
    · exact h.ob k e
    · simp at e; omega
  · have h1 : Chg (fun k => k = p ∨ ov.ownBlock = some k) W W9 := Chg.trans (Chg.of_below hbW _ (fun k hk _ => hk)) (t9.chg.mono (fun k _ e => .inr e))
    exact h1.trans (hc.mono (fun k _ e => .inl e))
  · rcases t9.own k hk with e | e
    · exact .inl e
    · simp at e; exact .inr (by omega)
theorem par_put (p : Nat) (e : Int) (ov : Value) (st : PSt) (n : Nod) (W : World) (h : PA W p e ov st) (hn : st.2.length ≤ 100000) :
    Calls Tryz.prog 288 #[.pointer (some ⟨p, 0, none⟩), .agg (cNod n).toArray] W fun u W' => u = .returned (.tuple #[]) ∧ ∃ ov', PA W' p e ov' (putS n st) ∧ PTo p W ov W' ov' := by
  obtain ⟨lv, hb, hs⟩ := h.bx
  have hlt := h.lt
  obtain ⟨it, ti0, ti1, ti2, ti3⟩ := info_nod
  have HN1 := Lib.hid (show ov.ownBlock ≠ some p from fun e => by have := h.ob p e; omega)
  have HN2 := Lib.hid (show ov.ownBlock ≠ some W.heap.size from fun e => by have := h.ow.lt _ e; omega)
  have P0 := Lib.hid (show Blk (W.alloc (.cells (cNod n).toArray 297)).drew p 237 #[lv, .int .i64 e, ov] ∧ True from ⟨(hb.alloc _).drew, trivial⟩)
  have KN := Lib.hid (Blk.new W 297 (cNod n).toArray).drew
  have HO := Lib.hid (h.ow.alloc (.cells (cNod n).toArray 297)).drew
  have P1 := Lib.hid ((hb.alloc (.cells (cNod n).toArray 297)).alloc (.cells (cNod n).toArray 297)).drew
  have KN1 := Lib.hid ((Blk.new W 297 (cNod n).toArray).alloc (.cells (cNod n).toArray 297)).drew
  have HO1 := Lib.hid ((h.ow.alloc (.cells (cNod n).toArray 297)).alloc (.cells (cNod n).toArray 297)).drew
  have KN2 := Lib.hid (show Blk ((W.alloc (.cells (cNod n).toArray 297)).alloc (.cells (cNod n).toArray 297)).drew (W.heap.size + 1) 297 (cNod n).toArray by
    have := (Blk.new (W.alloc (.cells (cNod n).toArray 297)) 297 (cNod n).toArray).drew
    simpa using this)
  have HP := Lib.hid h
  clear h hb hs
  rw [show (cNod n).toArray = #[.int .u8 n.kind, .int .u8 n.vk, .int .i64 n.vn, str n.vt, .int .i64 n.rect.c1, .int .i64 n.rect.r1, .int .i64 n.rect.c2, .int .i64 n.rect.r2, .int .i64 n.op, .int .u8 n.fn, .int .i64 n.n] from rfl]
  go_enter Tryz.func288, Tryz.ntmps288
  go_wp2_with fail
  refine wp_region_noPanic ?_
  refine wp_region_U (fun W' => Blk W' p 237 #[lv, .int .i64 e, ov] ∧ Blk W' W.heap.size 297 (cNod n).toArray) 10 (by kernel_rfl) ?_
  have hHeld : (fun W' => Blk W' p 237 #[lv, .int .i64 e, ov] ∧ Blk W' W.heap.size 297 (cNod n).toArray) _ := ⟨P0.out.1, KN.out⟩
  refine wpAnyU_take0 0 (oi := ⟨some 4, .move (.tmp 0), _, _, _, none⟩) (v := .pointer (some ⟨p, 0, none⟩)) rfl (by kernel_rfl) (by kernel_rfl) (by kernel_rfl) (by decide) (fun c d e h => NoPanic.put h) (Or.inl ⟨by rfl, by intro W hW; go_simp⟩) (fun _ => hHeld) ?_
  try simp only [Act.put, List.setIfInBounds_toArray, List.set_cons_zero, List.set_cons_succ]
  refine wpAnyU_take0 1 (oi := ⟨some 5, .move (.tmp 0), _, _, _, none⟩) (v := .pointer (some ⟨p, 0, none⟩)) rfl (by kernel_rfl) (by kernel_rfl) (by kernel_rfl) (by decide) (fun c d e h => NoPanic.put h) (Or.inl ⟨by rfl, by intro W hW; go_simp⟩) (fun _ => hHeld) ?_
  try simp only [Act.put, List.setIfInBounds_toArray, List.set_cons_zero, List.set_cons_succ]
  refine wpAnyU_take0 2 (oi := ⟨some 6, .nilCheck (.tmp 5), _, _, _, none⟩) (v := .pointer (some ⟨p, 0, none⟩)) rfl (by kernel_rfl) (by kernel_rfl) (by kernel_rfl) (by decide) (fun c d e h => NoPanic.put h) (Or.inl ⟨by rfl, by intro W hW; go_simp⟩) (fun _ => hHeld) ?_
  try simp only [Act.put, List.setIfInBounds_toArray, List.set_cons_zero, List.set_cons_succ]
  refine wpAnyU_take0 3 (oi := ⟨some 7, .fieldAddr 237 (.tmp 6) 2, _, _, _, none⟩) (v := .pointer (some ⟨p, 2, none⟩)) rfl (by kernel_rfl) (by kernel_rfl) (by kernel_rfl) (by decide) (fun c d e h => NoPanic.put h) (Or.inl ⟨by rfl, by intro W hW; go_simp⟩) (fun _ => hHeld) ?_
  try simp only [Act.put, List.setIfInBounds_toArray, List.set_cons_zero, List.set_cons_succ]
  refine wpAnyU_take 4 (oi := ⟨some 8, .load 190 (.tmp 7), 190, _, _, none⟩) (v := ov) rfl (by kernel_rfl) (by kernel_rfl) (by kernel_rfl) (by kernel_rfl) (by decide) (by kernel_rfl) (fun c d e h => NoPanic.put h) (Or.inl ⟨by rfl, by intro W hW; have hc : W.cell? ⟨p, 2, none⟩ = some (ov) := hW.1.cell 2; go_simp⟩) hHeld ?_
  try simp only [Act.put, List.setIfInBounds_toArray, List.set_cons_zero, List.set_cons_succ]
  refine wpAnyU_take 5 (oi := ⟨some 9, .load 297 (.tmp 3), 297, _, _, none⟩) (v := .agg _) rfl (by kernel_rfl) (by kernel_rfl) (by kernel_rfl) (by kernel_rfl) (by decide) (by kernel_rfl) (fun c d e h => NoPanic.put h) (yieldsIf_load_mid rfl _ _ rfl (W.heap.size) (0) rfl _ _ (fun W' h => h.2.range (l := cNod n) (o := 0) (by intro j v hj; rw [Nat.zero_add]; exact List.getElem?_toArray.trans hj)) rfl rfl (by kernel_rfl)) hHeld ?_
  try simp only [Act.put, List.setIfInBounds_toArray, List.set_cons_zero, List.set_cons_succ]
  rw [show (cNod n).toArray = #[.int .u8 n.kind, .int .u8 n.vk, .int .i64 n.vn, str n.vt, .int .i64 n.rect.c1, .int .i64 n.rect.r1, .int .i64 n.rect.c2, .int .i64 n.rect.r2, .int .i64 n.op, .int .u8 n.fn, .int .i64 n.n] from rfl]
  refine wpAnyU_step 6 (o := ⟨some 10, .buildSlice 190 1 #[(0, .tmp 9)], 190, _, _, none⟩) (by kernel_rfl) rfl rfl (fun K hK => ?_)
  go_simp
  refine hK.out _ _ (fun _ => ⟨P1.out, KN1.out⟩) ?_
  have hHeld : (fun W' => Blk W' p 237 #[lv, .int .i64 e, ov] ∧ Blk W' W.heap.size 297 (cNod n).toArray) _ := ⟨P1.out, KN1.out⟩
  clear hK K
  try simp only [Act.put, List.setIfInBounds_toArray, List.set_cons_zero, List.set_cons_succ]
  obtain ⟨r9, w9, hr9, o9, t9⟩ := run_more (P := Tryz.prog) _ cNod 190 190 297 it _ 11 96 Tryz.underlying190 ti0 ti1 ti2 ti3 rfl (by omega) ov st.2 HO1.out _ _ [n] (Sls.one (x := n) KN2.out rfl) cNod_len cNod_one (by simp; omega) (by omega)
  obtain ⟨A9, c9, hv9, -⟩ := id (o9.sls (by simp [maxLen]; omega))
  generalize hL9 : (st.2 ++ [n]).length = L9 at hv9
  have HL9 := Lib.hid hL9
  clear hL9
  subst hv9
  have hB9 := P1.out.outTo t9 HN1.out
  refine wpAnyU_step 7 (o := ⟨some 11, .call { callee := .builtin .append, args := #[.tmp 8, .tmp 10], argTypes := #[190, 190] }, 190, _, _, none⟩) (by kernel_rfl) rfl rfl (fun K hK => ?_)
  refine wp_append_eq (.tmp 8) (.tmp 10) _ _ rfl _ _ _ _ rfl rfl hr9 ?_
  refine hK.out _ _ (fun _ => ⟨hB9, KN1.out.outTo t9 HN2.out⟩) ?_
  have hHeld : (fun W' => Blk W' p 237 #[lv, .int .i64 e, ov] ∧ Blk W' W.heap.size 297 (cNod n).toArray) _ := ⟨hB9, KN1.out.outTo t9 HN2.out⟩
  clear hK K
  try simp only [Act.put, List.setIfInBounds_toArray, List.set_cons_zero, List.set_cons_succ]
  refine wpAnyU_take0 8 (oi := ⟨some 12, .nilCheck (.tmp 4), _, _, _, none⟩) (v := .pointer (some ⟨p, 0, none⟩)) rfl (by kernel_rfl) (by kernel_rfl) (by kernel_rfl) (by decide) (fun c d e h => NoPanic.put h) (Or.inl ⟨by rfl, by intro W hW; go_simp⟩) (fun _ => hHeld) ?_
  try simp only [Act.put, List.setIfInBounds_toArray, List.set_cons_zero, List.set_cons_succ]
  refine wpAnyU_take0 9 (oi := ⟨some 13, .fieldAddr 237 (.tmp 12) 2, _, _, _, none⟩) (v := .pointer (some ⟨p, 2, none⟩)) rfl (by kernel_rfl) (by kernel_rfl) (by kernel_rfl) (by decide) (fun c d e h => NoPanic.put h) (Or.inl ⟨by rfl, by intro W hW; go_simp⟩) (fun _ => hHeld) ?_
  try simp only [Act.put, List.setIfInBounds_toArray, List.set_cons_zero, List.set_cons_succ]
  refine wpAnyU_step 10 (o := ⟨none, .store 190 (.tmp 13) (.tmp 11), 0, _, _, none⟩) (by kernel_rfl) rfl rfl (fun K hK => ?_)
  have kc : w9.cell? ⟨p, 2, none⟩ = some ov := hB9.cell 2
  have kf := hB9.frozen
  go_simp
  refine hK.out _ _ (fun h => absurd h (by decide)) ?_
  clear hK K
  try simp only [Act.put, List.setIfInBounds_toArray, List.set_cons_zero, List.set_cons_succ]
  refine wpAnyU_done (by kernel_rfl) ?_
  refine NoPanic.normal ?_
  have HF := Lib.hid (HP.out.putAt o9 t9)
  clear hHeld hB9 o9 t9 hr9
  refine bodyPost_end (results_none rfl _ _ _) rfl ?_
  exact ⟨rfl, _, HF.out⟩
/-- How the parsing ends at an error. -/
def flt (a er : Int) : Ending := .panicked [{ v := .iface 234 (.agg #[.int .i64 a, .int .i64 er]), recovered := false }]
theorem par_fail (p : Value) (a er : Int) (W : World) : Calls Tryz.prog 226 #[p, .int .i64 a, .int .i64 er] W fun u W' => u = flt a er ∧ W = W' := by
  go_enter Tryz.func226, Tryz.ntmps226
  go_wp2
  exact ⟨rfl, rfl, rfl⟩
theorem par_is (p : Nat) (e : Int) (ov : Value) (st : PSt) (op : Int) (W : World) (h : PA W p e ov st) (hn : st.1.length ≤ 1000000) :
    Calls Tryz.prog 306 #[.pointer (some ⟨p, 0, none⟩), .int .i64 op] W fun u W' => u = .returned (.bool (isOpS e st op)) ∧ Below W.heap.size W W' := by
  have HH := Lib.hid h
  clear h
  go_enter Tryz.func306, Tryz.ntmps306
  go_wp2_with fail
  refine (par_head p e ov st _ HH.out hn).mono ?_
  rintro u w1 ⟨rfl, hb1⟩
  have HI := Lib.hid (show isOpS e st op = (decide ((headS e st).kind = 8) && decide ((headS e st).num = op)) from rfl)
  have HB2 := Lib.hid (show Below W.heap.size W (w1.alloc (.cells (cTok (headS e st)).toArray 239)) from hb1.alloc hb1.size _)
  clear hb1
  generalize headS e st = t at HI HB2 ⊢
  rw [show (cTok t).toArray = #[.int .u8 t.kind, .int .i64 t.num, str t.text, .int .i64 t.rect.c1, .int .i64 t.rect.r1, .int .i64 t.rect.c2, .int .i64 t.rect.r2, .int .i64 t.at_] from rfl]
  by_cases hk : t.kind = 8
  · have hk' : (t.kind == 8) = true := by simpa using hk
    have hd : decide (t.kind = 8) = true := by simpa using hk
    rw [hd] at HI
    clear hk hd
    go_wp2
    go_ret
    exact ⟨by rw [HI.out]; rfl, HB2.out⟩
  · have hk' : (t.kind == 8) = false := by simpa using hk
    have hd : decide (t.kind = 8) = false := by simpa using hk
    rw [hd] at HI
    clear hk hd
    go_wp2
    go_ret
    exact ⟨by rw [HI.out]; rfl, HB2.out⟩
/-- What a part of the parser has done. -/
def Went (p : Nat) (e : Int) (W : World) (ov : Value) (r : PRes) (u : Ending) (W' : World) : Prop :=
  match r with
  | .ok st' => u = .returned (.tuple #[]) ∧ ∃ ov', PA W' p e ov' st' ∧ PTo p W ov W' ov'
  | .error x => u = flt x.1 x.2 ∧ Below p W W'
theorem went_ok {p : Nat} {e : Int} {W W' : World} {ov : Value} {r : PRes} {st' : PSt} (hr : r = .ok st') {ov' : Value} (h1 : PA W' p e ov' st') (h2 : PTo p W ov W' ov') : Went p e W ov r (.returned (.tuple #[])) W' := by
  subst hr
  exact ⟨rfl, ov', h1, h2⟩
theorem went_err {p : Nat} {e : Int} {W W' : World} {ov : Value} {r : PRes} {a er : Int} (hr : r = .error (a, er)) (h : Below p W W') : Went p e W ov r (flt a er) W' := by
  subst hr
  exact ⟨rfl, h⟩
/-- The kind of a token that is there. -/
theorem head_ne {e : Int} {st : PSt} (h : (headS e st).kind ≠ 0) : st.1 ≠ [] := by
  intro h0
  obtain ⟨ts, ns⟩ := st
  simp only at h0
  subst h0
  exact h rfl
theorem PTo.old' {p : Nat} {W W1 : World} {ov ov1 : Value} {e : Int} {st : PSt} (h : PTo p W ov W1 ov1) (hp : PA W p e ov st) : Below p W W1 := h.old (Nat.le_of_lt hp.lt) hp.ob
theorem par_want (p : Nat) (e : Int) (ov : Value) (st : PSt) (k : Int) (W : World) (h : PA W p e ov st) (hn : st.1.length ≤ 1000000) (hk : k ≠ 0) :
    Calls Tryz.prog 342 #[.pointer (some ⟨p, 0, none⟩), .int .u8 k] W (Went p e W ov (wantK e k st)) := by
  have HH := Lib.hid h
  clear h
  go_enter Tryz.func342, Tryz.ntmps342
  go_wp2_with fail
  refine (par_head p e ov st _ HH.out hn).mono ?_
  rintro u w1 ⟨rfl, hb1⟩
  have HB2 := Lib.hid (show Below W.heap.size W (w1.alloc (.cells (cTok (headS e st)).toArray 239)) from hb1.alloc hb1.size _)
  clear hb1
  have HW : RowKit.Hid (wantK e k st = if (headS e st).kind ≠ k then .error ((headS e st).at_, 4) else .ok (skipS st)) := Lib.hid rfl
  have HN : RowKit.Hid ((headS e st).kind ≠ 0 → st.1 ≠ []) := Lib.hid head_ne
  generalize headS e st = t at HW HN HB2 ⊢
  rw [show (cTok t).toArray = #[.int .u8 t.kind, .int .i64 t.num, str t.text, .int .i64 t.rect.c1, .int .i64 t.rect.r1, .int .i64 t.rect.c2, .int .i64 t.rect.r2, .int .i64 t.at_] from rfl]
  by_cases hkk : t.kind = k
  · have hk' : (t.kind != k) = false := by simpa using hkk
    have HE := Lib.hid (show wantK e k st = .ok (skipS st) by rw [HW.out, if_neg (by simpa using hkk)])
    have HP := Lib.hid (HH.out.below HB2.out)
    have H0 := HN.out (by rw [hkk]; exact hk)
    clear hkk
    go_wp2_with fail
    refine (par_skip p e ov st _ HP.out hn H0).mono ?_
    rintro u w3 ⟨rfl, ha, ht⟩
    have HA := Lib.hid ha
    have HT := Lib.hid ((PTo.below (PTo.refl p W ov) HB2.out).trans ht)
    clear ha ht
    go_wp2
    refine bodyPost_end (results_none rfl _ _ _) rfl ?_
    exact went_ok HE.out HA.out HT.out
  · have hk' : (t.kind != k) = true := by simpa using hkk
    have HE := Lib.hid (show wantK e k st = .error (t.at_, 4) by rw [HW.out, if_pos (by simpa using hkk)])
    clear hkk
    go_wp2_with fail
    refine (par_fail _ t.at_ 4 _).mono ?_
    rintro u w3 ⟨rfl, rfl⟩
    unfold flt
    go_wp2
    exact ⟨rfl, went_err HE.out (HB2.out.mono (Nat.le_of_lt HH.out.lt))⟩
theorem par_value (p : Nat) (e : Int) (ov : Value) (st : PSt) (k n : Int) (s : Bytes) (W : World) (h : PA W p e ov st) (hn : st.1.length ≤ 1000000) (hn2 : st.2.length ≤ 100000) (h0 : st.1 ≠ []) :
    Calls Tryz.prog 341 #[.pointer (some ⟨p, 0, none⟩), .agg #[.int .u8 k, .int .i64 n, str s]] W fun u W' => u = .returned (.tuple #[]) ∧ ∃ ov', PA W' p e ov' (putS { nod0 1 with vk := k, vn := n, vt := s } (skipS st)) ∧ PTo p W ov W' ov' := by
  have HH := Lib.hid h
  have hlt := h.lt
  have HB1 := Lib.hid (show Below W.heap.size W (W.alloc (.cells #[.int .u8 k, .int .i64 n, str s] 189)) from by go_grown)
  have K1 := Lib.hid (Blk.new W 189 #[.int .u8 k, .int .i64 n, str s])
  have HO := Lib.hid (show ov.ownBlock ≠ some W.heap.size from fun e => by have := h.ow.lt _ e; omega)
  clear h
  go_enter Tryz.func341, Tryz.ntmps341
  go_wp2_with fail
  refine (par_skip p e ov st _ (HH.out.below HB1.out) hn h0).mono ?_
  rintro u w1 ⟨rfl, ha, ht⟩
  have HA := Lib.hid ha
  have HT := Lib.hid ((PTo.below (PTo.refl p W ov) HB1.out).trans ht)
  have K2 := Lib.hid (ht.blk K1.out (by omega) HO.out)
  clear ha ht
  have c0 : w1.cell? ⟨W.heap.size, 0, none⟩ = some (.int .u8 k) := K2.out.cell 0
  have c1 : w1.cell? ⟨W.heap.size, 1, none⟩ = some (.int .i64 n) := K2.out.cell 1
  have c2 : w1.cell? ⟨W.heap.size, 2, none⟩ = some (str s) := K2.out.cell 2
  go_wp2_with fail
  refine (par_put p e ov (skipS st) { nod0 1 with vk := k, vn := n, vt := s } _ HA.out hn2).mono ?_
  rintro u w3 ⟨rfl, ov3, ha, ht⟩
  have HA3 := Lib.hid ha
  have HT3 := Lib.hid (HT.out.trans ht)
  clear ha ht
  go_wp2
  refine bodyPost_end (results_none rfl _ _ _) rfl ?_
  exact ⟨rfl, ov3, HA3.out, HT3.out⟩
theorem par_binds (op : Int) (W : World) : Calls Tryz.prog 286 #[.int .i64 op] W fun u W' => (∃ b, ∃ e : Int, u = .returned (.tuple #[.int .i64 (bindsS op), .bool b, .int .i64 e])) ∧ W = W' := by
  by_cases h1 : op = 1
  · subst h1
    go_enter Tryz.func286, Tryz.ntmps286
    go_wp2
    go_ret3
    exact ⟨⟨_, _, rfl⟩, rfl⟩
  by_cases h2 : op = 2
  · subst h2
    go_enter Tryz.func286, Tryz.ntmps286
    go_wp2
    go_ret3
    exact ⟨⟨_, _, rfl⟩, rfl⟩
  by_cases h3 : op = 3
  · subst h3
    go_enter Tryz.func286, Tryz.ntmps286
    go_wp2
    go_ret3
    exact ⟨⟨_, _, rfl⟩, rfl⟩
  by_cases h4 : op = 4
  · subst h4
    go_enter Tryz.func286, Tryz.ntmps286
    go_wp2
    go_ret3
    exact ⟨⟨_, _, rfl⟩, rfl⟩
  by_cases h5 : op = 5
  · subst h5
    go_enter Tryz.func286, Tryz.ntmps286
    go_wp2
    go_ret3
    exact ⟨⟨_, _, rfl⟩, rfl⟩
  by_cases h6 : op = 6
  · subst h6
    go_enter Tryz.func286, Tryz.ntmps286
    go_wp2
    go_ret3
    exact ⟨⟨_, _, rfl⟩, rfl⟩
  by_cases h7 : op = 7
  · subst h7
    go_enter Tryz.func286, Tryz.ntmps286
    go_wp2
    go_ret3
    exact ⟨⟨_, _, rfl⟩, rfl⟩
  by_cases h8 : op = 8
  · subst h8
    go_enter Tryz.func286, Tryz.ntmps286
    go_wp2
    go_ret3
    exact ⟨⟨_, _, rfl⟩, rfl⟩
  by_cases h9 : op = 9
  · subst h9
    go_enter Tryz.func286, Tryz.ntmps286
    go_wp2
    go_ret3
    exact ⟨⟨_, _, rfl⟩, rfl⟩
  by_cases h10 : op = 10
  · subst h10
    go_enter Tryz.func286, Tryz.ntmps286
    go_wp2
    go_ret3
    exact ⟨⟨_, _, rfl⟩, rfl⟩
  by_cases h11 : op = 11
  · subst h11
    go_enter Tryz.func286, Tryz.ntmps286
    go_wp2
    go_ret3
    exact ⟨⟨_, _, rfl⟩, rfl⟩
  by_cases h12 : op = 12
  · subst h12
    go_enter Tryz.func286, Tryz.ntmps286
    go_wp2
    go_ret3
    exact ⟨⟨_, _, rfl⟩, rfl⟩
  by_cases h13 : op = 13
  · subst h13
    go_enter Tryz.func286, Tryz.ntmps286
    go_wp2
    go_ret3
    exact ⟨⟨_, _, rfl⟩, rfl⟩
  have HE := Lib.hid (show bindsS op = 0 by
    unfold bindsS
    rw [if_neg (by omega), if_neg (by omega), if_neg (by omega), if_neg (by omega), if_neg (by omega), if_neg (by omega)])
  have b1 : (op == 1) = false := by simpa using h1
  have b2 : (op == 2) = false := by simpa using h2
  have b3 : (op == 3) = false := by simpa using h3
  have b4 : (op == 4) = false := by simpa using h4
  have b5 : (op == 5) = false := by simpa using h5
  have b6 : (op == 6) = false := by simpa using h6
  have b7 : (op == 7) = false := by simpa using h7
  have b8 : (op == 8) = false := by simpa using h8
  have b9 : (op == 9) = false := by simpa using h9
  have b10 : (op == 10) = false := by simpa using h10
  have b11 : (op == 11) = false := by simpa using h11
  have b12 : (op == 12) = false := by simpa using h12
  have b13 : (op == 13) = false := by simpa using h13
  clear h1 h2 h3 h4 h5 h6 h7 h8 h9 h10 h11 h12 h13
  go_enter Tryz.func286, Tryz.ntmps286
  go_wp2
  go_ret3
  exact ⟨⟨_, _, by rw [HE.out]; rfl⟩, rfl⟩
theorem tree_arity (fn : Nat) (h1 : 1 ≤ fn) (h2 : fn ≤ 50) (W : World) : Calls Tryz.prog 326 #[.int .u8 fn] W fun u W' => u = .returned (.tuple #[.int .i64 (arityS fn).1, .int .i64 (arityS fn).2.1, .int .i64 (arityS fn).2.2]) ∧ W = W' := by
  rcases (by omega : fn = 1 ∨ fn = 2 ∨ fn = 3 ∨ fn = 4 ∨ fn = 5 ∨ fn = 6 ∨ fn = 7 ∨ fn = 8 ∨ fn = 9 ∨ fn = 10 ∨ fn = 11 ∨ fn = 12 ∨ fn = 13 ∨ fn = 14 ∨ fn = 15 ∨ fn = 16 ∨ fn = 17 ∨ fn = 18 ∨ fn = 19 ∨ fn = 20 ∨ fn = 21 ∨ fn = 22 ∨ fn = 23 ∨ fn = 24 ∨ fn = 25 ∨ fn = 26 ∨ fn = 27 ∨ fn = 28 ∨ fn = 29 ∨ fn = 30 ∨ fn = 31 ∨ fn = 32 ∨ fn = 33 ∨ fn = 34 ∨ fn = 35 ∨ fn = 36 ∨ fn = 37 ∨ fn = 38 ∨ fn = 39 ∨ fn = 40 ∨ fn = 41 ∨ fn = 42 ∨ fn = 43 ∨ fn = 44 ∨ fn = 45 ∨ fn = 46 ∨ fn = 47 ∨ fn = 48 ∨ fn = 49 ∨ fn = 50) with rfl | rfl | rfl | rfl | rfl | rfl | rfl | rfl | rfl | rfl | rfl | rfl | rfl | rfl | rfl | rfl | rfl | rfl | rfl | rfl | rfl | rfl | rfl | rfl | rfl | rfl | rfl | rfl | rfl | rfl | rfl | rfl | rfl | rfl | rfl | rfl | rfl | rfl | rfl | rfl | rfl | rfl | rfl | rfl | rfl | rfl | rfl | rfl | rfl | rfl
  all_goals
    go_enter Tryz.func326, Tryz.ntmps326
    go_wp2
    go_ret3
    exact ⟨rfl, rfl⟩
theorem thenS_ok {r : PRes} {f : PSt → PRes} {st' : PSt} (h : thenS r f = .ok st') : ∃ st1, r = .ok st1 ∧ f st1 = .ok st' := by
  cases r with
  | error e => cases h
  | ok st1 => exact ⟨st1, rfl, h⟩
theorem skip_len (st : PSt) : (skipS st).1.length = st.1.length - 1 := by simp [skipS]
theorem skip_two (st : PSt) : (skipS st).2 = st.2 := rfl
theorem put_one (n : Nod) (st : PSt) : (putS n st).1 = st.1 := rfl
theorem put_len (n : Nod) (st : PSt) : (putS n st).2.length = st.2.length + 1 := by simp [putS]
theorem head_pos {e : Int} {st : PSt} (h : (headS e st).kind ≠ 0) : 1 ≤ st.1.length := List.length_pos_iff.2 (head_ne h)
theorem isOp_pos {e : Int} {st : PSt} {op : Int} (h : isOpS e st op = true) : 1 ≤ st.1.length := by
  refine head_pos (e := e) ?_
  unfold isOpS at h
  rw [Bool.and_eq_true, decide_eq_true_eq, decide_eq_true_eq] at h
  omega
/-- At least one token is used. -/
def usesS : Stg → Nat
  | .loop _ => 0
  | .pctl => 0
  | _ => 1
theorem want_ok {e k : Int} {st st' : PSt} (hk : k ≠ 0) (h : wantK e k st = .ok st') : st' = skipS st ∧ 1 ≤ st.1.length := by
  unfold wantK at h
  split at h
  · cases h
  · rename_i hh
    cases h
    exact ⟨rfl, head_pos (e := e) (by omega)⟩
theorem done_ok {e : Int} {name : Tok} {fn n : Nat} {st st' : PSt} (h : doneS e name fn n st = .ok st') : st'.1.length + 1 ≤ st.1.length ∧ st'.1.length + st'.2.length ≤ st.1.length + st.2.length := by
  unfold doneS at h
  split at h
  · cases h
  · rename_i hk
    have hp := head_pos (e := e) (st := st) (by omega)
    split at h
    · cases h
    · split at h
      · cases h
      · cases h
        rw [put_one, put_len, skip_len, skip_two]
        omega
/-- Tokens and nodes together do not grow. -/
theorem par_len (e : Int) : ∀ (f : Nat) (g : Stg) (st st' : PSt), parS e f g st = .ok st' → st'.1.length + usesS g ≤ st.1.length ∧ st'.1.length + st'.2.length ≤ st.1.length + st.2.length
  | 0, g, st, st', h => by cases g <;> simp [parS] at h
  | f + 1, .level k, st, st', h => by
    unfold parS at h
    obtain ⟨s1, h1, h2⟩ := thenS_ok h
    have a := par_len e f _ _ _ h1
    have b := par_len e f _ _ _ h2
    have c : usesS (if k < 4 then .level (k + 1) else .sign) = 1 := by split <;> rfl
    rw [c] at a
    simp only [usesS] at b ⊢
    omega
  | f + 1, .loop k, st, st', h => by
    unfold parS at h
    split at h
    · cases h
      simp [usesS]
    · rename_i hk
      have hp := head_pos (e := e) (st := st) (by omega)
      obtain ⟨s1, h1, h2⟩ := thenS_ok h
      have a := par_len e f _ _ _ h1
      have b := par_len e f _ _ _ h2
      rw [put_one, put_len] at b
      rw [skip_len, skip_two] at a
      simp only [usesS] at b ⊢
      omega
  | f + 1, .sign, st, st', h => by
    unfold parS at h
    split at h
    · rename_i hk
      have hp := isOp_pos hk
      obtain ⟨s1, h1, h2⟩ := thenS_ok h
      have a := par_len e f _ _ _ h1
      rw [skip_len, skip_two] at a
      cases h2
      rw [put_one, put_len]
      simp only [usesS] at a ⊢
      omega
    · obtain ⟨s1, h1, h2⟩ := thenS_ok h
      have a := par_len e f _ _ _ h1
      split at h2
      · rename_i hk
        have hp := isOp_pos hk
        obtain ⟨s2, h3, h4⟩ := thenS_ok h2
        have b := par_len e f _ _ _ h3
        rw [skip_len, skip_two] at b
        cases h4
        rw [put_one, put_len]
        simp only [usesS] at a b ⊢
        omega
      · cases h2
        exact a
  | f + 1, .pct, st, st', h => by
    unfold parS at h
    obtain ⟨s1, h1, h2⟩ := thenS_ok h
    have a := par_len e f _ _ _ h1
    have b := par_len e f _ _ _ h2
    simp only [usesS] at a b ⊢
    omega
  | f + 1, .pctl, st, st', h => by
    unfold parS at h
    split at h
    · rename_i hk
      have hp := isOp_pos hk
      have a := par_len e f _ _ _ h
      rw [put_one, put_len, skip_len, skip_two] at a
      simp only [usesS] at a ⊢
      omega
    · cases h
      simp [usesS]
  | f + 1, .prim, st, st', h => by
    unfold parS at h
    simp only [usesS]
    have leaf : ∀ n : Nod, (headS e st).kind ≠ 0 → (putS n (skipS st)).1.length + 1 ≤ st.1.length ∧ (putS n (skipS st)).1.length + (putS n (skipS st)).2.length ≤ st.1.length + st.2.length := fun n hk => by
      have hp := head_pos hk
      rw [put_one, put_len, skip_len, skip_two]
      omega
    simp only at h
    split at h
    · cases h; exact leaf _ (by omega)
    split at h
    · cases h; exact leaf _ (by omega)
    split at h
    · cases h; exact leaf _ (by omega)
    split at h
    · cases h; exact leaf _ (by omega)
    split at h
    · cases h; exact leaf _ (by omega)
    split at h
    · rename_i hk
      have hp := head_pos (e := e) (st := st) (by omega)
      obtain ⟨s1, h1, h2⟩ := thenS_ok h
      have a := par_len e f _ _ _ h1
      obtain ⟨rfl, hq⟩ := want_ok (by omega) h2
      rw [skip_len, skip_two] at a ⊢
      simp only [usesS] at a
      omega
    split at h
    · have a := par_len e f _ _ _ h
      simp only [usesS] at a
      exact a
    · cases h
  | f + 1, .call name, st, st', h => by
    unfold parS at h
    split at h
    · cases h
    · obtain ⟨s1, h1, h2⟩ := thenS_ok h
      obtain ⟨rfl, hq⟩ := want_ok (by omega) h1
      split at h2
      · have a := done_ok h2
        rw [skip_len, skip_two, skip_len, skip_two] at a
        simp only [usesS]
        omega
      · have a := par_len e f _ _ _ h2
        rw [skip_len, skip_two, skip_len, skip_two] at a
        simp only [usesS] at a ⊢
        omega
  | f + 1, .args name fn n, st, st', h => by
    unfold parS at h
    obtain ⟨s1, h1, h2⟩ := thenS_ok h
    have a := par_len e f _ _ _ h1
    split at h2
    · rename_i hk
      have hp := head_pos (e := e) (st := s1) (by omega)
      have b := par_len e f _ _ _ h2
      rw [skip_len, skip_two] at b
      simp only [usesS] at a b ⊢
      omega
    · have b := done_ok h2
      simp only [usesS] at a b ⊢
      omega
  | f + 1, .arg fn n, st, st', h => by
    unfold parS at h
    split at h
    · have a := par_len e f _ _ _ h
      simp only [usesS] at a ⊢
      exact a
    · rename_i hk
      have hp := head_pos (e := e) (st := st) (by omega)
      split at h
      · cases h
      · cases h
        rw [put_one, put_len, skip_len, skip_two]
        simp only [usesS]
        omega
theorem done_grow {e : Int} {name : Tok} {fn n : Nat} {st st' : PSt} (h : doneS e name fn n st = .ok st') : st.2.length + 1 ≤ st'.2.length := by
  unfold doneS at h
  split at h
  · cases h
  · split at h
    · cases h
    · split at h
      · cases h
      · cases h
        rw [put_len, skip_two]
        omega
/-- Nodes are added. -/
theorem par_grow (e : Int) : ∀ (f : Nat) (g : Stg) (st st' : PSt), parS e f g st = .ok st' → st.2.length + usesS g ≤ st'.2.length
  | 0, g, st, st', h => by cases g <;> simp [parS] at h
  | f + 1, .level k, st, st', h => by
    unfold parS at h
    obtain ⟨s1, h1, h2⟩ := thenS_ok h
    have a := par_grow e f _ _ _ h1
    have b := par_grow e f _ _ _ h2
    have c : usesS (if k < 4 then .level (k + 1) else .sign) = 1 := by split <;> rfl
    rw [c] at a
    simp only [usesS] at b ⊢
    omega
  | f + 1, .loop k, st, st', h => by
    unfold parS at h
    split at h
    · cases h
      simp [usesS]
    · rename_i hk
      have hp := head_pos (e := e) (st := st) (by omega)
      obtain ⟨s1, h1, h2⟩ := thenS_ok h
      have a := par_grow e f _ _ _ h1
      have b := par_grow e f _ _ _ h2
      rw [put_len] at b
      rw [skip_two] at a
      simp only [usesS] at b ⊢
      omega
  | f + 1, .sign, st, st', h => by
    unfold parS at h
    split at h
    · rename_i hk
      have hp := isOp_pos hk
      obtain ⟨s1, h1, h2⟩ := thenS_ok h
      have a := par_grow e f _ _ _ h1
      rw [skip_two] at a
      cases h2
      rw [put_len]
      simp only [usesS] at a ⊢
      omega
    · obtain ⟨s1, h1, h2⟩ := thenS_ok h
      have a := par_grow e f _ _ _ h1
      split at h2
      · rename_i hk
        have hp := isOp_pos hk
        obtain ⟨s2, h3, h4⟩ := thenS_ok h2
        have b := par_grow e f _ _ _ h3
        rw [skip_two] at b
        cases h4
        rw [put_len]
        simp only [usesS] at a b ⊢
        omega
      · cases h2
        exact a
  | f + 1, .pct, st, st', h => by
    unfold parS at h
    obtain ⟨s1, h1, h2⟩ := thenS_ok h
    have a := par_grow e f _ _ _ h1
    have b := par_grow e f _ _ _ h2
    simp only [usesS] at a b ⊢
    omega
  | f + 1, .pctl, st, st', h => by
    unfold parS at h
    split at h
    · rename_i hk
      have hp := isOp_pos hk
      have a := par_grow e f _ _ _ h
      rw [put_len, skip_two] at a
      simp only [usesS] at a ⊢
      omega
    · cases h
      simp [usesS]
  | f + 1, .prim, st, st', h => by
    unfold parS at h
    simp only [usesS]
    have leaf : ∀ n : Nod, (headS e st).kind ≠ 0 → st.2.length + 1 ≤ (putS n (skipS st)).2.length := fun n hk => by
      have hp := head_pos hk
      rw [put_len, skip_two]
      omega
    simp only at h
    split at h
    · cases h; exact leaf _ (by omega)
    split at h
    · cases h; exact leaf _ (by omega)
    split at h
    · cases h; exact leaf _ (by omega)
    split at h
    · cases h; exact leaf _ (by omega)
    split at h
    · cases h; exact leaf _ (by omega)
    split at h
    · rename_i hk
      have hp := head_pos (e := e) (st := st) (by omega)
      obtain ⟨s1, h1, h2⟩ := thenS_ok h
      have a := par_grow e f _ _ _ h1
      obtain ⟨rfl, hq⟩ := want_ok (by omega) h2
      rw [skip_two] at a ⊢
      simp only [usesS] at a
      omega
    split at h
    · have a := par_grow e f _ _ _ h
      simp only [usesS] at a
      exact a
    · cases h
  | f + 1, .call name, st, st', h => by
    unfold parS at h
    split at h
    · cases h
    · obtain ⟨s1, h1, h2⟩ := thenS_ok h
      obtain ⟨rfl, hq⟩ := want_ok (by omega) h1
      split at h2
      · have a := done_grow h2
        rw [skip_two, skip_two] at a
        simp only [usesS]
        omega
      · have a := par_grow e f _ _ _ h2
        rw [skip_two, skip_two] at a
        simp only [usesS] at a ⊢
        omega
  | f + 1, .args name fn n, st, st', h => by
    unfold parS at h
    obtain ⟨s1, h1, h2⟩ := thenS_ok h
    have a := par_grow e f _ _ _ h1
    split at h2
    · rename_i hk
      have hp := head_pos (e := e) (st := s1) (by omega)
      have b := par_grow e f _ _ _ h2
      rw [skip_two] at b
      simp only [usesS] at a b ⊢
      omega
    · have b := done_grow h2
      simp only [usesS] at a b ⊢
      omega
  | f + 1, .arg fn n, st, st', h => by
    unfold parS at h
    split at h
    · have a := par_grow e f _ _ _ h
      simp only [usesS] at a ⊢
      exact a
    · rename_i hk
      have hp := head_pos (e := e) (st := st) (by omega)
      split at h
      · cases h
      · cases h
        rw [put_len, skip_two]
        simp only [usesS]
        omega
end Go.Proofs.YtamcgggmfghljaaGreatDoor
