/- Layer 41: what Decode returns, from what was read. No program in sight. · long, in plain Lean. · long: is a script too long for a short statement? · long: is a script too long for a short statement? · long: is a script too long for a short statement? · long: is a script too long for a short statement? · long: is a script too long for a short statement? · Layer 41: the plain law of ScriptBack; what a short script's argument is fit for. No progr · Layer 41: a short script is fit. No program in sight. -/
import Derived.BigQuiet
import Derived.Deep.QuietTactic
import Derived.Laws.IdiomStrings
import Derived.Laws.CopyOwn
import Derived.Test.YtamcgggmfghljaaGreatDoorB35
set_option maxRecDepth 100000
set_option maxHeartbeats 8000000
namespace Go.Proofs.YtamcgggmfghljaaGreatDoor
open Go.RowKit
def noS : Scp := ⟨⟨0, [], [], [], [], [], 0⟩, []⟩
/-- What Decode returns. -/
def decR (s : Bytes) : Scp × Int :=
  if 65536 < s.length then (noS, 5) else if (scpR (s, false)).2.2 = true ∨ scpE (scpR (s, false)).1 ≠ 0 ∨ scpB (scpR (s, false)).1 ≠ s then (noS, 4) else ((scpR (s, false)).1, 0)
theorem scpR_of {r0 : Rd} {q0 q6 : Nat × Rd} {z0 z6 : Int} {q1 : List Ent × Rd} {q2 : List Rul × Rd} {q3 : List Grt × Rd} {q4 : List Evt × Rd} {q5 : List Rls × Rd} {q7 : List Opr × Rd}
    (h0 : intR r0 = (z0, q0.2)) (h1 : listR entR q0.2 = q1) (h2 : listR rulR q1.2 = q2) (h3 : listR grtR q2.2 = q3) (h4 : listR evtR q3.2 = q4) (h5 : listR rlsR q4.2 = q5) (h6 : intR q5.2 = (z6, q6.2)) (h7 : listR oprR q6.2 = q7) :
    scpR r0 = (⟨⟨z0, q1.1, q2.1, q3.1, q4.1, q5.1, z6⟩, q7.1⟩, q7.2) := by
  unfold scpR
  rw [h0]
  dsimp only
  rw [h1, h2, h3, h4, h5, h6]
  dsimp only
  rw [h7]
theorem decR_long {s : Bytes} (h : 65536 < s.length) : decR s = (noS, 5) := by unfold decR; rw [if_pos h]
theorem decR_bad {s : Bytes} {S : Scp} {r : Rd} (h : ¬ 65536 < s.length) (hS : scpR (s, false) = (S, r)) (hb : r.2 = true ∨ scpE S ≠ 0 ∨ scpB S ≠ s) : decR s = (noS, 4) := by
  unfold decR
  rw [if_neg h, hS, if_pos hb]
theorem decR_good {s : Bytes} {S : Scp} {r : Rd} (h : ¬ 65536 < s.length) (hS : scpR (s, false) = (S, r)) (hb : r.2 = false) (hE : scpE S = 0) (hB : scpB S = s) : decR s = (S, 0) := by
  unfold decR
  rw [if_neg h, hS, if_neg (by rintro (k | k | k); exact absurd (hb.symm.trans k) (by decide); exact k hE; exact k hB)]
theorem fit_of {s : Bytes} {S : Scp} {r : Rd} (hs : s.length ≤ 65536) (hS : scpR (s, false) = (S, r)) : FitS S := by
  have k := scpR_fit s hs
  rw [hS] at k
  exact k
theorem scpB_pos (s : Scp) : 0 < (scpB s).length := by
  have := numI_ne s.book.users
  simp only [scpB, List.length_append]
  omega
def sumS (b : Bok) : Nat := b.entries.length + b.rules.length + b.grants.length + b.log.length + b.releases.length
def headL (n m : Nat) : Bool := decide (160 < n) || (decide (300 < m) && (decide (m ≤ 4096) || decide (4101 < m)))
def longS (s : Scp) : Bool :=
  headL (sumS s.book) s.ops.length || s.book.entries.any (fun x => decide (600 < x.input.length)) || s.ops.any (fun x => decide (600 < x.input.length))
theorem head_1 {n : Nat} (m : Nat) (h : 160 < n) : headL n m = true := by
  unfold headL; rw [decide_eq_true h, Bool.true_or]
theorem long_head {s : Scp} (h : headL (sumS s.book) s.ops.length = true) : longS s = true := by
  unfold longS; rw [h, Bool.true_or, Bool.true_or]
theorem sum_1 {s : Scp} (h : (160 : Int) < (s.book.entries.length : Int) + (s.book.rules.length : Int) + (s.book.grants.length : Int) + (s.book.log.length : Int) + (s.book.releases.length : Int)) : 160 < sumS s.book := by
  unfold sumS; omega
theorem head_2 (n : Nat) {m : Nat} (h2 : (300 : Int) < (m : Int)) (h3 : ¬ (4096 : Int) < (m : Int)) : headL n m = true := by
  unfold headL; rw [decide_eq_true (show 300 < m by omega), decide_eq_true (show m ≤ 4096 by omega), Bool.true_or, Bool.and_true, Bool.or_true]
theorem head_3 (n : Nat) {m : Nat} (_h2 : (300 : Int) < (m : Int)) (h4 : (4101 : Int) < (m : Int)) : headL n m = true := by
  unfold headL; rw [decide_eq_true (show 300 < m by omega), decide_eq_true (show 4101 < m by omega), Bool.or_true, Bool.and_true, Bool.or_true]
theorem sum_0 {s : Scp} (h : ¬ (160 : Int) < (s.book.entries.length : Int) + (s.book.rules.length : Int) + (s.book.grants.length : Int) + (s.book.log.length : Int) + (s.book.releases.length : Int)) : ¬ 160 < sumS s.book := by
  unfold sumS; omega
theorem head_4 {n m : Nat} (h : ¬ 160 < n) (h2 : ¬ (300 : Int) < (m : Int)) : headL n m = false := by
  unfold headL; rw [decide_eq_false h, decide_eq_false (show ¬ 300 < m by omega), Bool.false_and, Bool.or_false]
theorem head_5 {n m : Nat} (h : ¬ 160 < n) (h3 : (4096 : Int) < (m : Int)) (h4 : ¬ (4101 : Int) < (m : Int)) : headL n m = false := by
  unfold headL; rw [decide_eq_false h, decide_eq_false (show ¬ m ≤ 4096 by omega), decide_eq_false (show ¬ 4101 < m by omega), Bool.or_false, Bool.and_false, Bool.or_false]
theorem long_ent {s : Scp} (h : s.book.entries.any (fun x => decide (600 < x.input.length)) = true) : longS s = true := by
  unfold longS; rw [h, Bool.or_true, Bool.true_or]
theorem long_opr {s : Scp} (h : s.ops.any (fun x => decide (600 < x.input.length)) = true) : longS s = true := by
  unfold longS; rw [h, Bool.or_true]
theorem long_not {s : Scp} (h : headL (sumS s.book) s.ops.length = false) (h1 : s.book.entries.any (fun x => decide (600 < x.input.length)) = false) (h2 : s.ops.any (fun x => decide (600 < x.input.length)) = false) : longS s = false := by
  unfold longS; rw [h, h1, h2, Bool.false_or, Bool.or_false]
theorem val_next {k : Nat} {W : Int} (h : W = (k : Int) + 1) : Value.int .i64 W = .int .i64 ((k + 1 : Nat) : Int) := by subst h; rfl
theorem meas_next {n k : Nat} {W : Int} (h : W = (k : Int) + 1) (hk : k + 1 ≤ n) : n - (intOf (.int .i64 W)).toNat < n - (intOf (.int .i64 (k : Int))).toNat := by
  subst h; simp [intOf]; omega
theorem reach_next {n k : Nat} (h : n ≤ reachBytes) (hk : k < n) : wrap64 ((k : Int) + 1) = (k : Int) + 1 := by
  unfold reachBytes at h
  exact Go.IntWalk.wrap64_in _ ⟨by omega, by omega⟩
theorem sum_q {s : Scp} (h : Reach s) :
    wrap64 ((s.book.entries.length : Int) + (s.book.rules.length : Int)) = (s.book.entries.length : Int) + (s.book.rules.length : Int) ∧
    wrap64 ((s.book.entries.length : Int) + (s.book.rules.length : Int) + (s.book.grants.length : Int)) = (s.book.entries.length : Int) + (s.book.rules.length : Int) + (s.book.grants.length : Int) ∧
    wrap64 ((s.book.entries.length : Int) + (s.book.rules.length : Int) + (s.book.grants.length : Int) + (s.book.log.length : Int)) = (s.book.entries.length : Int) + (s.book.rules.length : Int) + (s.book.grants.length : Int) + (s.book.log.length : Int) ∧
    wrap64 ((s.book.entries.length : Int) + (s.book.rules.length : Int) + (s.book.grants.length : Int) + (s.book.log.length : Int) + (s.book.releases.length : Int)) = (s.book.entries.length : Int) + (s.book.rules.length : Int) + (s.book.grants.length : Int) + (s.book.log.length : Int) + (s.book.releases.length : Int) := by
  obtain ⟨n1, n2, n3, n4, n5, _⟩ := h
  unfold reachBytes at n1 n2 n3 n4 n5
  exact ⟨Go.IntWalk.wrap64_in _ ⟨by omega, by omega⟩, Go.IntWalk.wrap64_in _ ⟨by omega, by omega⟩, Go.IntWalk.wrap64_in _ ⟨by omega, by omega⟩, Go.IntWalk.wrap64_in _ ⟨by omega, by omega⟩⟩
theorem any_take {α : Type} (p : α → Bool) {l : List α} {k : Nat} {x : α} (h : l[k]? = some x) (ha : (l.take k).any p = false) (hx : p x = false) : (l.take (k + 1)).any p = false := by
  have hk := (List.getElem?_eq_some_iff.1 h).1
  rw [List.take_succ_eq_append_getElem hk, List.any_append, ha]
  rw [List.getElem?_eq_getElem hk] at h
  simp at h
  simp [h, hx]
theorem any_at {α : Type} (p : α → Bool) {l : List α} {k : Nat} {x : α} (h : l[k]? = some x) (hx : p x = true) : l.any p = true := by
  rw [List.any_eq_true]
  exact ⟨x, List.mem_of_getElem? h, hx⟩
theorem long_1 (s : Scp) (e r g l x o : Value) (B : Nat) (w : World) (_hB : B ≤ w.heap.size) (hb : RdScp w B s e r g l x o) (hr : Reach s) (P1 : (160 : Int) < (s.book.entries.length : Int) + (s.book.rules.length : Int) + (s.book.grants.length : Int) + (s.book.log.length : Int) + (s.book.releases.length : Int)) :
    Calls Tryz.prog 9 #[vScp s e r g l x o] w fun u w' => u = .returned (.bool (longS s)) ∧ Below w.heap.size w w' := by
  obtain ⟨Ae, ce, rfl, _⟩ := id hb.book.ents
  obtain ⟨Ar, cr, rfl, _⟩ := id hb.book.ruls
  obtain ⟨Ag, cg, rfl, _⟩ := id hb.book.grts
  obtain ⟨Al, cl, rfl, _⟩ := id hb.book.evts
  obtain ⟨Ax, cx, rfl, _⟩ := id hb.book.rlss
  obtain ⟨Ao, co, rfl, _⟩ := id hb.ops
  obtain ⟨q1, q2, q3, q4⟩ := sum_q hr
  have HR := Lib.hid hr
  have HB := Lib.hid (show RdScp w B s _ _ _ _ _ _ from hb)
  clear hb hr
  have HS := Lib.hid (long_head (head_1 s.ops.length (sum_1 P1)))
  by_cases P2 : (300 : Int) < (s.ops.length : Int)
  · by_cases P3 : (4096 : Int) < (s.ops.length : Int)
    · by_cases P4 : (4101 : Int) < (s.ops.length : Int)
      · skip
        go_enter Tryz.func9, Tryz.ntmps9
        go_wp2
        go_ret
        exact ⟨by rw [HS.out]; rfl, by go_grown⟩
      · skip
        go_enter Tryz.func9, Tryz.ntmps9
        go_wp2
        go_ret
        exact ⟨by rw [HS.out]; rfl, by go_grown⟩
    · skip
      go_enter Tryz.func9, Tryz.ntmps9
      go_wp2
      go_ret
      exact ⟨by rw [HS.out]; rfl, by go_grown⟩
  · skip
    go_enter Tryz.func9, Tryz.ntmps9
    go_wp2
    go_ret
    exact ⟨by rw [HS.out]; rfl, by go_grown⟩
theorem long_2 (s : Scp) (e r g l x o : Value) (B : Nat) (w : World) (_hB : B ≤ w.heap.size) (hb : RdScp w B s e r g l x o) (hr : Reach s) (P1 : ¬ (160 : Int) < (s.book.entries.length : Int) + (s.book.rules.length : Int) + (s.book.grants.length : Int) + (s.book.log.length : Int) + (s.book.releases.length : Int))(P2 : (300 : Int) < (s.ops.length : Int))(P3 : (4096 : Int) < (s.ops.length : Int))(P4 : (4101 : Int) < (s.ops.length : Int)) :
    Calls Tryz.prog 9 #[vScp s e r g l x o] w fun u w' => u = .returned (.bool (longS s)) ∧ Below w.heap.size w w' := by
  obtain ⟨Ae, ce, rfl, _⟩ := id hb.book.ents
  obtain ⟨Ar, cr, rfl, _⟩ := id hb.book.ruls
  obtain ⟨Ag, cg, rfl, _⟩ := id hb.book.grts
  obtain ⟨Al, cl, rfl, _⟩ := id hb.book.evts
  obtain ⟨Ax, cx, rfl, _⟩ := id hb.book.rlss
  obtain ⟨Ao, co, rfl, _⟩ := id hb.ops
  obtain ⟨q1, q2, q3, q4⟩ := sum_q hr
  have HR := Lib.hid hr
  have HB := Lib.hid (show RdScp w B s _ _ _ _ _ _ from hb)
  clear hb hr
  have P1S := sum_0 P1
  have HS := Lib.hid (long_head (head_3 (sumS s.book) P2 P4))
  clear P1S
  have f1 : ((160 : Int) < (s.book.entries.length : Int) + (s.book.rules.length : Int) + (s.book.grants.length : Int) + (s.book.log.length : Int) + (s.book.releases.length : Int)) = False := eq_false P1
  have f2 : ((300 : Int) < (s.ops.length : Int)) = True := eq_true P2
  have f3 : ((s.ops.length : Int) ≤ (4096 : Int)) = False := eq_false (Int.not_le.2 P3)
  have f4 : ((4101 : Int) < (s.ops.length : Int)) = True := eq_true P4
  clear P1 P2 P3 P4
  go_enter Tryz.func9, Tryz.ntmps9
  go_wp2
  go_ret
  exact ⟨by rw [HS.out]; rfl, by go_grown⟩
theorem long_3 (s : Scp) (e r g l x o : Value) (B : Nat) (w : World) (_hB : B ≤ w.heap.size) (hb : RdScp w B s e r g l x o) (hr : Reach s) (P1 : ¬ (160 : Int) < (s.book.entries.length : Int) + (s.book.rules.length : Int) + (s.book.grants.length : Int) + (s.book.log.length : Int) + (s.book.releases.length : Int))(P2 : (300 : Int) < (s.ops.length : Int))(P3 : ¬ (4096 : Int) < (s.ops.length : Int)) :
    Calls Tryz.prog 9 #[vScp s e r g l x o] w fun u w' => u = .returned (.bool (longS s)) ∧ Below w.heap.size w w' := by
  obtain ⟨Ae, ce, rfl, _⟩ := id hb.book.ents
  obtain ⟨Ar, cr, rfl, _⟩ := id hb.book.ruls
  obtain ⟨Ag, cg, rfl, _⟩ := id hb.book.grts
  obtain ⟨Al, cl, rfl, _⟩ := id hb.book.evts
  obtain ⟨Ax, cx, rfl, _⟩ := id hb.book.rlss
  obtain ⟨Ao, co, rfl, _⟩ := id hb.ops
  obtain ⟨q1, q2, q3, q4⟩ := sum_q hr
  have HR := Lib.hid hr
  have HB := Lib.hid (show RdScp w B s _ _ _ _ _ _ from hb)
  clear hb hr
  have P1S := sum_0 P1
  have HS := Lib.hid (long_head (head_2 (sumS s.book) P2 P3))
  clear P1S
  have f1 : ((160 : Int) < (s.book.entries.length : Int) + (s.book.rules.length : Int) + (s.book.grants.length : Int) + (s.book.log.length : Int) + (s.book.releases.length : Int)) = False := eq_false P1
  have f2 : ((300 : Int) < (s.ops.length : Int)) = True := eq_true P2
  have f3 : ((s.ops.length : Int) ≤ (4096 : Int)) = True := eq_true (Int.not_lt.1 P3)
  clear P1 P2 P3
  go_enter Tryz.func9, Tryz.ntmps9
  go_wp2
  go_ret
  exact ⟨by rw [HS.out]; rfl, by go_grown⟩
theorem long_4 (s : Scp) (e r g l x o : Value) (B : Nat) (w : World) (hB : B ≤ w.heap.size) (hb : RdScp w B s e r g l x o) (hr : Reach s) (P1 : ¬ (160 : Int) < (s.book.entries.length : Int) + (s.book.rules.length : Int) + (s.book.grants.length : Int) + (s.book.log.length : Int) + (s.book.releases.length : Int))(P2 : (300 : Int) < (s.ops.length : Int))(P3 : (4096 : Int) < (s.ops.length : Int))(P4 : ¬ (4101 : Int) < (s.ops.length : Int)) :
    Calls Tryz.prog 9 #[vScp s e r g l x o] w fun u w' => u = .returned (.bool (longS s)) ∧ Below w.heap.size w w' := by
  obtain ⟨Ae, ce, rfl, -⟩ := id hb.book.ents
  obtain ⟨Ar, cr, rfl, -⟩ := id hb.book.ruls
  obtain ⟨Ag, cg, rfl, -⟩ := id hb.book.grts
  obtain ⟨Al, cl, rfl, -⟩ := id hb.book.evts
  obtain ⟨Ax, cx, rfl, -⟩ := id hb.book.rlss
  obtain ⟨Ao, co, rfl, -⟩ := id hb.ops
  obtain ⟨q1, q2, q3, q4⟩ := sum_q hr
  have HR := Lib.hid hr
  have HB := Lib.hid (show RdScp w B s _ _ _ _ _ _ from hb)
  clear hb hr
  have P1S := sum_0 P1
  have HS := Lib.hid (head_5 P1S P3 P4)
  clear P1S
  have f1 : ((160 : Int) < (s.book.entries.length : Int) + (s.book.rules.length : Int) + (s.book.grants.length : Int) + (s.book.log.length : Int) + (s.book.releases.length : Int)) = False := eq_false P1
  have f2 : ((300 : Int) < (s.ops.length : Int)) = True := eq_true P2
  have f3 : ((s.ops.length : Int) ≤ (4096 : Int)) = False := eq_false (Int.not_le.2 P3)
  have f4 : ((4101 : Int) < (s.ops.length : Int)) = False := eq_false P4
  clear P1 P2 P3 P4
  go_enter Tryz.func9, Tryz.ntmps9
  go_wp2_with fail
  clear q1 q2 q3 q4 f1 f2 f3 f4
  go_loopw [4] (fun i wr => ∃ k : Nat, k ≤ s.book.entries.length ∧ i = .int .i64 k ∧ (s.book.entries.take k).any (fun x => decide (600 < x.input.length)) = false ∧ (Blk wr w.heap.size 31 #[.int .i64 s.book.users, .slice Ae s.book.entries.length ce, .slice Ar s.book.rules.length cr, .slice Ag s.book.grants.length cg, .slice Al s.book.log.length cl, .slice Ax s.book.releases.length cx, .int .i64 s.book.step, .slice Ao s.ops.length co] ∧ Blk wr (w.heap.size + 1) 28 #[.int .i64 s.book.users, .slice Ae s.book.entries.length ce, .slice Ar s.book.rules.length cr, .slice Ag s.book.grants.length cg, .slice Al s.book.log.length cl, .slice Ax s.book.releases.length cx, .int .i64 s.book.step] ∧ Below w.heap.size w wr)) (fun i _ => s.book.entries.length - (intOf i).toNat)
  case atStart => exact ⟨0, by omega, rfl, by simp, (Blk.new w _ _).alloc _, by simpa using Blk.new (w.alloc _) 28 _, by go_grown⟩
  case round =>
    obtain ⟨k, hk, rfl, ha, ka, kb, hbw⟩ := hrel
    have HA := Lib.hid ha
    have KA := Lib.hid ka
    have KB := Lib.hid kb
    have HW := Lib.hid hbw
    have y1 := kb.cell 1
    have z7 := ka.cell 7
    clear ha ka kb hbw
    by_cases hlt : k < s.book.entries.length
    · have hx : s.book.entries[k]? = some s.book.entries[k] := List.getElem?_eq_getElem hlt
      have HK := Lib.hid (show k + 1 ≤ s.book.entries.length from hlt)
      have HW1 := Lib.hid (reach_next HR.out.n1 hlt)
      obtain ⟨b1, o1, rfl, _, r1⟩ := (HB.out.book.ents.below (HW.out.mono hB)).get 3 cEnt_len hx
      have HX := Lib.hid hx
      clear hx
      generalize s.book.entries[k] = x at *
      have r2 : wr.cell? ⟨b1, o1 + k * 3 + 2, none⟩ = some (str x.input) := r1 2 _ rfl
      clear r1
      by_cases hin : (600 : Int) < (x.input.length : Int)
      · go_wp2
        go_ret
        exact ⟨by rw [long_ent (any_at _ HX.out (decide_eq_true (by omega)))]; rfl, HW.out⟩
      · go_wp2
        exact ⟨⟨k + 1, HK.out, val_next HW1.out, any_take _ HX.out HA.out (decide_eq_false (by omega)), KA.out, KB.out, HW.out⟩, meas_next HW1.out HK.out⟩
    · have hke : k = s.book.entries.length := by omega
      subst hke
      have he := HA.out
      rw [List.take_length] at he
      have HE := Lib.hid he
      clear he HA
      go_wp2
      go_loopw [5] (fun i wr => ∃ k : Nat, k ≤ s.ops.length ∧ i = .int .i64 k ∧ (s.ops.take k).any (fun x => decide (600 < x.input.length)) = false ∧ (Blk wr w.heap.size 31 #[.int .i64 s.book.users, .slice Ae s.book.entries.length ce, .slice Ar s.book.rules.length cr, .slice Ag s.book.grants.length cg, .slice Al s.book.log.length cl, .slice Ax s.book.releases.length cx, .int .i64 s.book.step, .slice Ao s.ops.length co] ∧ Blk wr (w.heap.size + 1) 28 #[.int .i64 s.book.users, .slice Ae s.book.entries.length ce, .slice Ar s.book.rules.length cr, .slice Ag s.book.grants.length cg, .slice Al s.book.log.length cl, .slice Ax s.book.releases.length cx, .int .i64 s.book.step] ∧ Below w.heap.size w wr)) (fun i _ => s.ops.length - (intOf i).toNat)
      case atStart => exact ⟨0, by omega, rfl, by simp, KA.out, KB.out, HW.out⟩
      case round =>
        clear KA KB HW y1 z7
        obtain ⟨k, hk, rfl, ha, ka, kb, hbw⟩ := hrel
        have HA := Lib.hid ha
        have KA := Lib.hid ka
        have KB := Lib.hid kb
        have HW := Lib.hid hbw
        have z7 := ka.cell 7
        clear ha ka kb hbw
        by_cases hlt : k < s.ops.length
        · have hx : s.ops[k]? = some s.ops[k] := List.getElem?_eq_getElem hlt
          have HK := Lib.hid (show k + 1 ≤ s.ops.length from hlt)
          have HW1 := Lib.hid (reach_next HR.out.n6 hlt)
          obtain ⟨b1, o1, rfl, _, r1⟩ := (HB.out.ops.below (HW.out.mono hB)).get 13 cOpr_len hx
          have HX := Lib.hid hx
          clear hx
          generalize s.ops[k] = x at *
          have r2 : wr.cell? ⟨b1, o1 + k * 13 + 6, none⟩ = some (str x.input) := r1 6 _ rfl
          clear r1
          by_cases hin : (600 : Int) < (x.input.length : Int)
          · go_wp2
            go_ret
            exact ⟨by rw [long_opr (any_at _ HX.out (decide_eq_true (by omega)))]; rfl, HW.out⟩
          · go_wp2
            exact ⟨⟨k + 1, HK.out, val_next HW1.out, any_take _ HX.out HA.out (decide_eq_false (by omega)), KA.out, KB.out, HW.out⟩, meas_next HW1.out HK.out⟩
        · have hke : k = s.ops.length := by omega
          subst hke
          have he := HA.out
          rw [List.take_length] at he
          go_wp2
          go_ret
          exact ⟨by rw [long_not HS.out HE.out he]; rfl, HW.out⟩
theorem long_5 (s : Scp) (e r g l x o : Value) (B : Nat) (w : World) (hB : B ≤ w.heap.size) (hb : RdScp w B s e r g l x o) (hr : Reach s) (P1 : ¬ (160 : Int) < (s.book.entries.length : Int) + (s.book.rules.length : Int) + (s.book.grants.length : Int) + (s.book.log.length : Int) + (s.book.releases.length : Int))(P2 : ¬ (300 : Int) < (s.ops.length : Int)) :
    Calls Tryz.prog 9 #[vScp s e r g l x o] w fun u w' => u = .returned (.bool (longS s)) ∧ Below w.heap.size w w' := by
  obtain ⟨Ae, ce, rfl, -⟩ := id hb.book.ents
  obtain ⟨Ar, cr, rfl, -⟩ := id hb.book.ruls
  obtain ⟨Ag, cg, rfl, -⟩ := id hb.book.grts
  obtain ⟨Al, cl, rfl, -⟩ := id hb.book.evts
  obtain ⟨Ax, cx, rfl, -⟩ := id hb.book.rlss
  obtain ⟨Ao, co, rfl, -⟩ := id hb.ops
  obtain ⟨q1, q2, q3, q4⟩ := sum_q hr
  have HR := Lib.hid hr
  have HB := Lib.hid (show RdScp w B s _ _ _ _ _ _ from hb)
  clear hb hr
  have P1S := sum_0 P1
  have HS := Lib.hid (head_4 P1S P2)
  clear P1S
  have f1 : ((160 : Int) < (s.book.entries.length : Int) + (s.book.rules.length : Int) + (s.book.grants.length : Int) + (s.book.log.length : Int) + (s.book.releases.length : Int)) = False := eq_false P1
  have f2 : ((300 : Int) < (s.ops.length : Int)) = False := eq_false P2
  clear P1 P2
  go_enter Tryz.func9, Tryz.ntmps9
  go_wp2_with fail
  clear q1 q2 q3 q4 f1 f2
  go_loopw [4] (fun i wr => ∃ k : Nat, k ≤ s.book.entries.length ∧ i = .int .i64 k ∧ (s.book.entries.take k).any (fun x => decide (600 < x.input.length)) = false ∧ (Blk wr w.heap.size 31 #[.int .i64 s.book.users, .slice Ae s.book.entries.length ce, .slice Ar s.book.rules.length cr, .slice Ag s.book.grants.length cg, .slice Al s.book.log.length cl, .slice Ax s.book.releases.length cx, .int .i64 s.book.step, .slice Ao s.ops.length co] ∧ Blk wr (w.heap.size + 1) 28 #[.int .i64 s.book.users, .slice Ae s.book.entries.length ce, .slice Ar s.book.rules.length cr, .slice Ag s.book.grants.length cg, .slice Al s.book.log.length cl, .slice Ax s.book.releases.length cx, .int .i64 s.book.step] ∧ Below w.heap.size w wr)) (fun i _ => s.book.entries.length - (intOf i).toNat)
  case atStart => exact ⟨0, by omega, rfl, by simp, (Blk.new w _ _).alloc _, by simpa using Blk.new (w.alloc _) 28 _, by go_grown⟩
  case round =>
    obtain ⟨k, hk, rfl, ha, ka, kb, hbw⟩ := hrel
    have HA := Lib.hid ha
    have KA := Lib.hid ka
    have KB := Lib.hid kb
    have HW := Lib.hid hbw
    have y1 := kb.cell 1
    have z7 := ka.cell 7
    clear ha ka kb hbw
    by_cases hlt : k < s.book.entries.length
    · have hx : s.book.entries[k]? = some s.book.entries[k] := List.getElem?_eq_getElem hlt
      have HK := Lib.hid (show k + 1 ≤ s.book.entries.length from hlt)
      have HW1 := Lib.hid (reach_next HR.out.n1 hlt)
      obtain ⟨b1, o1, rfl, _, r1⟩ := (HB.out.book.ents.below (HW.out.mono hB)).get 3 cEnt_len hx
      have HX := Lib.hid hx
      clear hx
      generalize s.book.entries[k] = x at *
      have r2 : wr.cell? ⟨b1, o1 + k * 3 + 2, none⟩ = some (str x.input) := r1 2 _ rfl
      clear r1
      by_cases hin : (600 : Int) < (x.input.length : Int)
      · go_wp2
        go_ret
        exact ⟨by rw [long_ent (any_at _ HX.out (decide_eq_true (by omega)))]; rfl, HW.out⟩
      · go_wp2
        exact ⟨⟨k + 1, HK.out, val_next HW1.out, any_take _ HX.out HA.out (decide_eq_false (by omega)), KA.out, KB.out, HW.out⟩, meas_next HW1.out HK.out⟩
    · have hke : k = s.book.entries.length := by omega
      subst hke
      have he := HA.out
      rw [List.take_length] at he
      have HE := Lib.hid he
      clear he HA
      go_wp2
      go_loopw [5] (fun i wr => ∃ k : Nat, k ≤ s.ops.length ∧ i = .int .i64 k ∧ (s.ops.take k).any (fun x => decide (600 < x.input.length)) = false ∧ (Blk wr w.heap.size 31 #[.int .i64 s.book.users, .slice Ae s.book.entries.length ce, .slice Ar s.book.rules.length cr, .slice Ag s.book.grants.length cg, .slice Al s.book.log.length cl, .slice Ax s.book.releases.length cx, .int .i64 s.book.step, .slice Ao s.ops.length co] ∧ Blk wr (w.heap.size + 1) 28 #[.int .i64 s.book.users, .slice Ae s.book.entries.length ce, .slice Ar s.book.rules.length cr, .slice Ag s.book.grants.length cg, .slice Al s.book.log.length cl, .slice Ax s.book.releases.length cx, .int .i64 s.book.step] ∧ Below w.heap.size w wr)) (fun i _ => s.ops.length - (intOf i).toNat)
      case atStart => exact ⟨0, by omega, rfl, by simp, KA.out, KB.out, HW.out⟩
      case round =>
        clear KA KB HW y1 z7
        obtain ⟨k, hk, rfl, ha, ka, kb, hbw⟩ := hrel
        have HA := Lib.hid ha
        have KA := Lib.hid ka
        have KB := Lib.hid kb
        have HW := Lib.hid hbw
        have z7 := ka.cell 7
        clear ha ka kb hbw
        by_cases hlt : k < s.ops.length
        · have hx : s.ops[k]? = some s.ops[k] := List.getElem?_eq_getElem hlt
          have HK := Lib.hid (show k + 1 ≤ s.ops.length from hlt)
          have HW1 := Lib.hid (reach_next HR.out.n6 hlt)
          obtain ⟨b1, o1, rfl, _, r1⟩ := (HB.out.ops.below (HW.out.mono hB)).get 13 cOpr_len hx
          have HX := Lib.hid hx
          clear hx
          generalize s.ops[k] = x at *
          have r2 : wr.cell? ⟨b1, o1 + k * 13 + 6, none⟩ = some (str x.input) := r1 6 _ rfl
          clear r1
          by_cases hin : (600 : Int) < (x.input.length : Int)
          · go_wp2
            go_ret
            exact ⟨by rw [long_opr (any_at _ HX.out (decide_eq_true (by omega)))]; rfl, HW.out⟩
          · go_wp2
            exact ⟨⟨k + 1, HK.out, val_next HW1.out, any_take _ HX.out HA.out (decide_eq_false (by omega)), KA.out, KB.out, HW.out⟩, meas_next HW1.out HK.out⟩
        · have hke : k = s.ops.length := by omega
          subst hke
          have he := HA.out
          rw [List.take_length] at he
          go_wp2
          go_ret
          exact ⟨by rw [long_not HS.out HE.out he]; rfl, HW.out⟩
theorem long_any (s : Scp) (e r g l x o : Value) (B : Nat) (w : World) (hB : B ≤ w.heap.size) (hb : RdScp w B s e r g l x o) (hr : Reach s) :
    Calls Tryz.prog 9 #[vScp s e r g l x o] w fun u w' => u = .returned (.bool (longS s)) ∧ Below w.heap.size w w' := by
  by_cases P1 : (160 : Int) < (s.book.entries.length : Int) + (s.book.rules.length : Int) + (s.book.grants.length : Int) + (s.book.log.length : Int) + (s.book.releases.length : Int)
  · exact long_1 s e r g l x o B w hB hb hr P1
  · by_cases P2 : (300 : Int) < (s.ops.length : Int)
    · by_cases P3 : (4096 : Int) < (s.ops.length : Int)
      · by_cases P4 : (4101 : Int) < (s.ops.length : Int)
        · exact long_2 s e r g l x o B w hB hb hr P1 P2 P3 P4
        · exact long_4 s e r g l x o B w hB hb hr P1 P2 P3 P4
      · exact long_3 s e r g l x o B w hB hb hr P1 P2 P3
    · exact long_5 s e r g l x o B w hB hb hr P1 P2
theorem short_lists {s : Scp} (h : longS s = false) : sumS s.book ≤ 160 ∧ s.ops.length ≤ 4101 := by
  unfold longS headL at h
  simp only [Bool.or_eq_false_iff, Bool.and_eq_false_iff, decide_eq_false_iff_not] at h
  omega
theorem okV_i64 {n : Int} (h : okV (.int .i64 n)) : I64 n := by
  simp [okV, Lit.wf, IntKind.min, IntKind.max, IntKind.bits, IntKind.signed] at h
  unfold I64
  omega
theorem okV_u64 {n : Int} (h : okV (.int .u64 n)) : U64 n := by
  simp [okV, Lit.wf, IntKind.min, IntKind.max, IntKind.bits, IntKind.signed] at h
  unfold U64
  omega
theorem okV_u8 {n : Int} (h : okV (.int .u8 n)) : U8 n := by
  simp [okV, Lit.wf, IntKind.min, IntKind.max, IntKind.bits, IntKind.signed] at h
  unfold U8
  omega
theorem okV_str {s : Bytes} (h : okV (str s)) : OkStr s := by
  have h2 : (⟨s.toArray⟩ : ByteArray).size ≤ maxLen := h
  simp only [ByteArray.size, List.size_toArray] at h2
  unfold OkStr maxLen at *
  omega
theorem okS.scp {s : Scp} (h : okS s) (hl : longS s = false) : OkScp s := by
  obtain ⟨k1, k2⟩ := short_lists hl
  unfold sumS at k1
  refine ⟨⟨okV_i64 h.users, fun x hx => ?_, fun x hx => ?_, fun x hx => ?_, fun x hx => ?_, fun x hx => ?_, okV_i64 h.step, by omega, by omega, by omega, by omega, by omega⟩, fun x hx => ?_, by omega⟩
  · have g := h.ents x hx
    exact ⟨⟨okV_i64 (g _ (by simp [cEnt])), okV_i64 (g _ (by simp [cEnt]))⟩, okV_str (g _ (by simp [cEnt]))⟩
  · have g := h.ruls x hx
    exact ⟨⟨okV_i64 (g _ (by simp [cRul])), okV_i64 (g _ (by simp [cRul])), okV_i64 (g _ (by simp [cRul])), okV_i64 (g _ (by simp [cRul]))⟩, ⟨okV_u64 (g _ (by simp [cRul])), okV_u64 (g _ (by simp [cRul])), okV_u64 (g _ (by simp [cRul]))⟩⟩
  · have g := h.grts x hx
    exact ⟨⟨okV_i64 (g _ (by simp [cGrt])), okV_i64 (g _ (by simp [cGrt])), okV_i64 (g _ (by simp [cGrt])), okV_i64 (g _ (by simp [cGrt]))⟩, okV_u8 (g _ (by simp [cGrt])), okV_u64 (g _ (by simp [cGrt])), okV_i64 (g _ (by simp [cGrt]))⟩
  · have g := h.evts x hx
    exact ⟨okV_i64 (g _ (by simp [cEvt])), okV_i64 (g _ (by simp [cEvt])), okV_u8 (g _ (by simp [cEvt])), ⟨okV_i64 (g _ (by simp [cEvt])), okV_i64 (g _ (by simp [cEvt])), okV_i64 (g _ (by simp [cEvt])), okV_i64 (g _ (by simp [cEvt]))⟩, okV_u64 (g _ (by simp [cEvt]))⟩
  · have g := h.rlss x hx
    exact ⟨okV_i64 (g _ (by simp [cRls])), ⟨okV_i64 (g _ (by simp [cRls])), okV_i64 (g _ (by simp [cRls]))⟩, okV_i64 (g _ (by simp [cRls])), okV_u8 (g _ (by simp [cRls])), ⟨okV_i64 (g _ (by simp [cRls])), okV_i64 (g _ (by simp [cRls])), okV_i64 (g _ (by simp [cRls])), okV_i64 (g _ (by simp [cRls]))⟩, okV_i64 (g _ (by simp [cRls])), okV_u64 (g _ (by simp [cRls]))⟩
  · have g := h.oprs x hx
    exact ⟨okV_u8 (g _ (by simp [cOpr])), okV_i64 (g _ (by simp [cOpr])), ⟨okV_i64 (g _ (by simp [cOpr])), okV_i64 (g _ (by simp [cOpr])), okV_i64 (g _ (by simp [cOpr])), okV_i64 (g _ (by simp [cOpr]))⟩, okV_str (g _ (by simp [cOpr])), ⟨okV_u64 (g _ (by simp [cOpr])), okV_u64 (g _ (by simp [cOpr])), okV_u64 (g _ (by simp [cOpr]))⟩, okV_u8 (g _ (by simp [cOpr])), okV_u64 (g _ (by simp [cOpr])), okV_i64 (g _ (by simp [cOpr]))⟩
theorem back_one {a : Scp} (_h : FitS a) (e : (encR a).2 = 0) : (encR a).1 = scpB a ∧ scpE a = 0 ∧ (scpB a).length ≤ 65536 := by
  unfold encR at e ⊢
  by_cases h0 : scpE a = 0
  · rw [if_neg (by omega)] at e ⊢
    by_cases h1 : 65536 < (scpB a).length
    · rw [if_pos h1] at e; exact absurd e (by decide)
    · rw [if_neg h1] at e ⊢; exact ⟨rfl, h0, by omega⟩
  · rw [if_pos h0] at e; exact absurd e h0
theorem back_dec {a : Scp} (h : FitS a) (he : scpE a = 0) (hl : (scpB a).length ≤ 65536) : decR (scpB a) = (a, 0) := by
  have k := scpR_back a h.ok []
  rw [List.append_nil] at k
  exact decR_good (by omega) k rfl he rfl
theorem take_take_eq {a b : Scp} (ha : FitS a) (hb : FitS b) (h : (scpB a).take (min (scpB a).length (scpB b).length) = (scpB b).take (min (scpB a).length (scpB b).length)) : a = b := by
  rcases Nat.le_total (scpB a).length (scpB b).length with hle | hle
  · rw [Nat.min_eq_left hle, List.take_length] at h
    exact scpB_prefix a b ha.ok hb.ok ((scpB b).drop (scpB a).length) (by have e := List.take_append_drop (scpB a).length (scpB b); rw [← h] at e; exact e.symm)
  · rw [Nat.min_eq_right hle, List.take_length] at h
    exact (scpB_prefix b a hb.ok ha.ok ((scpB a).drop (scpB b).length) (by have e := List.take_append_drop (scpB b).length (scpB a); rw [h] at e; exact e.symm)).symm
theorem back_str {s : Bytes} (hs : s.length ≤ 65536) (e : (decR s).2 = 0) : FitS (decR s).1 ∧ encR (decR s).1 = (s, 0) ∧ scpE (decR s).1 = 0 := by
  obtain ⟨q, hq⟩ : ∃ q, scpR (s, false) = q := ⟨_, rfl⟩
  obtain ⟨S, r⟩ := q
  by_cases hb : r.2 = true ∨ scpE S ≠ 0 ∨ scpB S ≠ s
  · rw [decR_bad (by omega) hq hb] at e
    exact absurd e (by decide)
  · have h1 : r.2 = false := by
      cases hr : r.2
      · rfl
      · exact absurd (Or.inl hr) hb
    have h2 : scpE S = 0 := Decidable.byContradiction fun k => hb (Or.inr (Or.inl k))
    have h3 : scpB S = s := Decidable.byContradiction fun k => hb (Or.inr (Or.inr k))
    rw [decR_good (by omega) hq h1 h2 h3]
    refine ⟨fit_of hs hq, ?_, h2⟩
    show encR S = (s, 0)
    unfold encR
    rw [if_neg (by omega), if_neg (by rw [h3]; omega), h3]
theorem flat_le {α : Type} (f : α → Bytes) (C : Nat) : ∀ (l : List α), (∀ x ∈ l, (f x).length ≤ C) → (l.flatMap f).length ≤ C * l.length
  | [], _ => by simp
  | x :: l, h => by
    have h1 := h x (by simp)
    have h2 := flat_le f C l (fun y hy => h y (by simp [hy]))
    rw [List.flatMap_cons, List.length_append, List.length_cons, Nat.mul_add]
    omega
theorem list_le {α : Type} (f : α → Bytes) (C N : Nat) (l : List α) (h : ∀ x ∈ l, (f x).length ≤ C) (hl : l.length ≤ N) : (listB f l).length ≤ 9 + C * N := by
  have h1 := flat_le f C l h
  have h2 := numI_le l.length
  have h3 : C * l.length ≤ C * N := Nat.mul_le_mul_left C hl
  unfold listB
  rw [List.length_append]
  omega
theorem oprB_le (x : Opr) : (oprB x).length ≤ 144 + x.input.length := by
  have hq : ∀ (b : Bool) (l : Bytes), (if b = true then l else []).length ≤ l.length := fun b l => by cases b <;> simp
  have g1 := numI_le x.kind
  have g2 := numI_le (maskN (oprF x))
  have m1 := numI_le x.user
  have m2 := numI_le x.rect.c1
  have m3 := numI_le x.rect.r1
  have m4 := numI_le x.rect.c2
  have m5 := numI_le x.rect.r2
  have m6 := numI_le x.input.length
  have m7 := numI_le x.rights.rd
  have m8 := numI_le x.rights.wr
  have m9 := numI_le x.rights.ow
  have m10 := numI_le x.fns
  have m11 := numI_le x.to_
  have m12 := numI_le x.index
  have k1 := hq (decide (x.user ≠ 0)) (numI x.user)
  have k2 := hq (decide (x.rect ≠ ⟨0, 0, 0, 0⟩)) (cornB x.rect)
  have k3 := hq (decide (x.input ≠ [])) (textB x.input)
  have k4 := hq (decide (x.rights ≠ ⟨0, 0, 0⟩)) (setsB x.rights)
  have k5 := hq (decide (x.fns ≠ 0)) (numI x.fns)
  have k6 := hq (decide (x.to_ ≠ 0)) (numI x.to_)
  have k7 := hq (decide (x.index ≠ 0)) (numI x.index)
  have c2 : (cornB x.rect).length ≤ 36 := by simp only [cornB, List.length_append]; omega
  have c3 : (textB x.input).length ≤ 9 + x.input.length := by simp only [textB, List.length_append]; omega
  have c4 : (setsB x.rights).length ≤ 27 := by simp only [setsB, List.length_append]; omega
  unfold oprB
  simp only [List.length_append]
  unfold oprF at g2 ⊢
  simp only [List.flatMap_cons, List.flatMap_nil, List.length_append, List.length_nil]
  omega
theorem short_texts {s : Scp} (h : longS s = false) : (∀ x ∈ s.book.entries, x.input.length ≤ 600) ∧ (∀ x ∈ s.ops, x.input.length ≤ 600) := by
  unfold longS at h
  simp only [Bool.or_eq_false_iff, List.any_eq_false, decide_eq_true_eq] at h
  exact ⟨fun x hx => by have := h.1.2 x hx; omega, fun x hx => by have := h.2 x hx; omega⟩
theorem fit_short {s : Scp} (h : okS s) (hl : longS s = false) : FitS s := by
  obtain ⟨k1, k2⟩ := short_lists hl
  obtain ⟨e1, e2⟩ := short_texts hl
  unfold sumS at k1
  refine ⟨h.scp hl, fun x hx => by have := e1 x hx; omega, fun x hx => by have := e2 x hx; omega, ?_⟩
  have n0 := numI_le s.book.users
  have n6 := numI_le s.book.step
  have l1 := list_le entB 627 160 s.book.entries (fun x hx => by
    have := e1 x hx
    have m1 := numI_le x.at_.col
    have m2 := numI_le x.at_.row
    have m3 := numI_le x.input.length
    simp only [entB, placeB, textB, List.length_append]; omega) (by omega)
  have l2 := list_le rulB 63 160 s.book.rules (fun x hx => by
    have m1 := numI_le x.rect.c1
    have m2 := numI_le x.rect.r1
    have m3 := numI_le x.rect.c2
    have m4 := numI_le x.rect.r2
    have m5 := numI_le x.rights.rd
    have m6 := numI_le x.rights.wr
    have m7 := numI_le x.rights.ow
    simp only [rulB, cornB, setsB, List.length_append]; omega) (by omega)
  have l3 := list_le grtB 72 160 s.book.grants (fun x hx => by
    have m1 := numI_le x.rect.c1
    have m2 := numI_le x.rect.r1
    have m3 := numI_le x.rect.c2
    have m4 := numI_le x.rect.r2
    have m5 := numI_le x.fns
    have m6 := numI_le x.to_
    have m7 := numI_le x.by_
    have m8 := flagB_le x.revoked
    simp only [grtB, cornB, List.length_append]; omega) (by omega)
  have l4 := list_le evtB 81 160 s.book.log (fun x hx => by
    have m1 := numI_le x.rect.c1
    have m2 := numI_le x.rect.r1
    have m3 := numI_le x.rect.c2
    have m4 := numI_le x.rect.r2
    have m5 := numI_le x.step
    have m6 := numI_le x.to_
    have m7 := numI_le x.user
    have m8 := flagB_le x.done_
    have m9 := numI_le x.kind
    simp only [evtB, cornB, List.length_append]; omega) (by omega)
  have l5 := list_le rlsB 99 160 s.book.releases (fun x hx => by
    have m1 := numI_le x.rect.c1
    have m2 := numI_le x.rect.r1
    have m3 := numI_le x.rect.c2
    have m4 := numI_le x.rect.r2
    have m5 := numI_le x.step
    have m6 := numI_le x.to_
    have m7 := numI_le x.at_.col
    have m8 := numI_le x.at_.row
    have m9 := numI_le x.node
    have m10 := numI_le x.fn
    have m11 := numI_le x.grant
    simp only [rlsB, cornB, placeB, List.length_append]; omega) (by omega)
  have l7 := list_le oprB 744 4101 s.ops (fun x hx => by have := e2 x hx; have := oprB_le x; omega) k2
  simp only [scpB, List.length_append]
  omega
end Go.Proofs.YtamcgggmfghljaaGreatDoor
