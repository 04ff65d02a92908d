/- Layer 41 (program): the bytes of an operation. -/
import Derived.RegionTactic
import Derived.BigRegion
import Derived.Deep.Cut
import Derived.Laws.CopyOwn
import Derived.Test.YtamcgggmfghljaaGreatDoorB11
import Derived.Test.YtamcgggmfghljaaGreatDoorB16
set_option maxRecDepth 100000
set_option maxHeartbeats 8000000
namespace Go.Proofs.YtamcgggmfghljaaGreatDoor
open Go.RowKit
theorem neq_rts0 (x : Rts) (w : World) : (binOp .neq 46 (.agg #[.int .u64 x.rd, .int .u64 x.wr, .int .u64 x.ow]) (.agg #[.int .u64 0, .int .u64 0, .int .u64 0])).run Tryz.prog w = .ok (.bool (decide (x ≠ ⟨0, 0, 0⟩))) w := by
  obtain ⟨a, b, c⟩ := x
  simp [go_sem]
  by_cases q0 : a = 0
  · by_cases q1 : b = 0
    · by_cases q2 : c = 0
      · simp [q0, q1, q2]
      · simp [q0, q1, q2]
    · simp [q0, q1]
  · simp [q0]
theorem neq_rct0 (x : Rct) (w : World) : (binOp .neq 43 (.agg #[.int .i64 x.c1, .int .i64 x.r1, .int .i64 x.c2, .int .i64 x.r2]) (.agg #[.int .i64 0, .int .i64 0, .int .i64 0, .int .i64 0])).run Tryz.prog w = .ok (.bool (decide (x ≠ ⟨0, 0, 0, 0⟩))) w := by
  obtain ⟨a, b, c, d⟩ := x
  simp [go_sem]
  by_cases q0 : a = 0
  · by_cases q1 : b = 0
    · by_cases q2 : c = 0
      · by_cases q3 : d = 0
        · simp [q0, q1, q2, q3]
        · simp [q0, q1, q2, q3]
      · simp [q0, q1, q2]
    · simp [q0, q1]
  · simp [q0]
theorem opr_any (x : Opr) (v : Value) (l : Bytes) (w : World) (hi : x.input.length ≤ 1000000) (a0 : 0 ≤ x.rights.rd) (a1 : x.rights.rd < 18446744073709551616) (b0 : 0 ≤ x.rights.wr) (b1 : x.rights.wr < 18446744073709551616) (c0 : 0 ≤ x.rights.ow) (c1 : x.rights.ow < 18446744073709551616) (t0 : 0 ≤ x.to_) (t1 : x.to_ < 18446744073709551616)
    (h : Out w v l) (hl : l.length ≤ 100000000) :
    Calls Tryz.prog 103 #[v, .agg (cOpr x).toArray] w fun e w' => ∃ v', e = .returned v' ∧ Out w' v' (l ++ oprB x) ∧ OutTo w v w' v' := by
  have hmf : ∀ (fn : Fn) (first cap : Array Value) (w : World), (Instr.makeFunc fn first cap).run Tryz.prog w = .ok (.func fn first cap) w := fun _ _ _ _ => rfl
  rw [show (cOpr x).toArray = #[.int .u8 x.kind, .int .i64 x.user, .int .i64 x.rect.c1, .int .i64 x.rect.r1, .int .i64 x.rect.c2, .int .i64 x.rect.r2, str x.input, .int .u64 x.rights.rd, .int .u64 x.rights.wr, .int .u64 x.rights.ow, .int .u8 x.fns, .int .u64 x.to_, .int .i64 x.index] from rfl]
  have KG := Lib.hid (Blk.new w 48 #[.int .u8 x.kind, .int .i64 x.user, .int .i64 x.rect.c1, .int .i64 x.rect.r1, .int .i64 x.rect.c2, .int .i64 x.rect.r2, str x.input, .int .u64 x.rights.rd, .int .u64 x.rights.wr, .int .u64 x.rights.ow, .int .u8 x.fns, .int .u64 x.to_, .int .i64 x.index])
  have HB0 := Lib.hid (show Below w.heap.size w (w.alloc (.cells #[.int .u8 x.kind, .int .i64 x.user, .int .i64 x.rect.c1, .int .i64 x.rect.r1, .int .i64 x.rect.c2, .int .i64 x.rect.r2, str x.input, .int .u64 x.rights.rd, .int .u64 x.rights.wr, .int .u64 x.rights.ow, .int .u8 x.fns, .int .u64 x.to_, .int .i64 x.index] 48)) from by go_grown)
  have hn2 := neq_rct0 x.rect
  have hn4 := neq_rts0 x.rights
  obtain ⟨q1, hq1⟩ : ∃ q, (x.user != 0) = q := ⟨_, rfl⟩
  obtain ⟨q2, hq2⟩ : ∃ q, decide (x.rect ≠ ⟨0, 0, 0, 0⟩) = q := ⟨_, rfl⟩
  obtain ⟨q3, hq3⟩ : ∃ q, (!(x.input == ([] : List UInt8))) = q := ⟨_, rfl⟩
  obtain ⟨q4, hq4⟩ : ∃ q, decide (x.rights ≠ ⟨0, 0, 0⟩) = q := ⟨_, rfl⟩
  obtain ⟨q5, hq5⟩ : ∃ q, (x.fns != 0) = q := ⟨_, rfl⟩
  obtain ⟨q6, hq6⟩ : ∃ q, (x.to_ != 0) = q := ⟨_, rfl⟩
  obtain ⟨q7, hq7⟩ : ∃ q, (x.index != 0) = q := ⟨_, rfl⟩
  have HF0 : RowKit.Hid ((oprF x)[0]? = some (q1, numI x.user)) := Lib.hid (by rw [← (show decide (x.user ≠ 0) = q1 from (by rw [← hq1]; by_cases e : x.user = 0 <;> simp [e]))]; rfl)
  have HF1 : RowKit.Hid ((oprF x)[1]? = some (q2, cornB x.rect)) := Lib.hid (by rw [← (show decide (x.rect ≠ ⟨0, 0, 0, 0⟩) = q2 from hq2)]; rfl)
  have HF2 : RowKit.Hid ((oprF x)[2]? = some (q3, textB x.input)) := Lib.hid (by rw [← (show decide (x.input ≠ []) = q3 from (by rw [← hq3]; by_cases e : x.input = [] <;> simp [e]))]; rfl)
  have HF3 : RowKit.Hid ((oprF x)[3]? = some (q4, setsB x.rights)) := Lib.hid (by rw [← (show decide (x.rights ≠ ⟨0, 0, 0⟩) = q4 from hq4)]; rfl)
  have HF4 : RowKit.Hid ((oprF x)[4]? = some (q5, numI x.fns)) := Lib.hid (by rw [← (show decide (x.fns ≠ 0) = q5 from (by rw [← hq5]; by_cases e : x.fns = 0 <;> simp [e]))]; rfl)
  have HF5 : RowKit.Hid ((oprF x)[5]? = some (q6, numI x.to_)) := Lib.hid (by rw [← (show decide (x.to_ ≠ 0) = q6 from (by rw [← hq6]; by_cases e : x.to_ = 0 <;> simp [e]))]; rfl)
  have HF6 : RowKit.Hid ((oprF x)[6]? = some (q7, numI x.index)) := Lib.hid (by rw [← (show decide (x.index ≠ 0) = q7 from (by rw [← hq7]; by_cases e : x.index = 0 <;> simp [e]))]; rfl)
  rw [hq2] at hn2
  rw [hq4] at hn4
  go_enter Tryz.func103, Tryz.ntmps103
  go_upto_region 1 with (fail)
  obtain ⟨W1, hW1⟩ : ∃ W1, w.alloc (.cells #[.int .u8 x.kind, .int .i64 x.user, .int .i64 x.rect.c1, .int .i64 x.rect.r1, .int .i64 x.rect.c2, .int .i64 x.rect.r2, str x.input, .int .u64 x.rights.rd, .int .u64 x.rights.wr, .int .u64 x.rights.ow, .int .u8 x.fns, .int .u64 x.to_, .int .i64 x.index] 48) = W1 := ⟨_, rfl⟩
  rw [hW1] at KG HB0 ⊢
  clear hW1
  go_upto_region 3 with (fail)
  refine wp_region_noPanic ?_
  refine wp_region_held_drew (S := fun W => Blk W w.heap.size 48 #[.int .u8 x.kind, .int .i64 x.user, .int .i64 x.rect.c1, .int .i64 x.rect.r1, .int .i64 x.rect.c2, .int .i64 x.rect.r2, str x.input, .int .u64 x.rights.rd, .int .u64 x.rights.wr, .int .u64 x.rights.ow, .int .u8 x.fns, .int .u64 x.to_, .int .i64 x.index]) (by kernel_rfl) KG.out.drew (fun hHeld => ?_)
  refine wpAnyH_take (i := 0) (oi := ⟨some 9, .fieldAddr 48 (.tmp 3) 1, _, _, _, none⟩) (v := .pointer (some ⟨w.heap.size, 1, none⟩)) rfl (by kernel_rfl) (by kernel_rfl) (by kernel_rfl) (fun c d e h => NoPanic.put h) (Or.inl ⟨by rfl, by intro W hW; go_simp⟩) hHeld ?_
  try simp only [Act.put, List.setIfInBounds_toArray, List.set_cons_zero, List.set_cons_succ]
  refine wpAnyH_take (i := 1) (oi := ⟨some 10, .load 3 (.tmp 9), 3, _, _, none⟩) (v := .int .i64 x.user) rfl (by kernel_rfl) (by kernel_rfl) (by kernel_rfl) (fun c d e h => NoPanic.put h) (Or.inl ⟨by rfl, by intro W hW; have hc : W.cell? ⟨w.heap.size, 1, none⟩ = some (.int .i64 x.user) := hW.cell 1; go_simp⟩) hHeld ?_
  try simp only [Act.put, List.setIfInBounds_toArray, List.set_cons_zero, List.set_cons_succ]
  refine wpAnyH_take (i := 2) (oi := ⟨some 11, .binOp .neq 3 (.tmp 10) (.const (.int .i64 0)) 3, _, _, _, none⟩) (v := .bool q1) rfl (by kernel_rfl) (by kernel_rfl) (by kernel_rfl) (fun c d e h => NoPanic.put h) (Or.inl ⟨by rfl, by intro W hW; go_simp⟩) hHeld ?_
  try simp only [Act.put, List.setIfInBounds_toArray, List.set_cons_zero, List.set_cons_succ]
  refine wpAnyH_take (i := 3) (oi := ⟨some 12, .makeFunc (.func 160) #[] #[.tmp 3], _, _, _, none⟩) (v := .func (.func 160) #[] #[.pointer (some ⟨w.heap.size, 0, none⟩)]) rfl (by kernel_rfl) (by kernel_rfl) (by kernel_rfl) (fun c d e h => NoPanic.put h) (Or.inl ⟨by rfl, by intro W hW; go_simp⟩) hHeld ?_
  try simp only [Act.put, List.setIfInBounds_toArray, List.set_cons_zero, List.set_cons_succ]
  refine wpAnyH_take (i := 4) (oi := ⟨some 13, .build 184 #[(0, .tmp 11), (1, .tmp 12)], _, _, _, none⟩) (v := .agg #[.bool q1, .func (.func 160) #[] #[.pointer (some ⟨w.heap.size, 0, none⟩)]]) rfl (by kernel_rfl) (by kernel_rfl) (by kernel_rfl) (fun c d e h => NoPanic.put h) (Or.inl ⟨by rfl, by intro W hW; go_simp⟩) hHeld ?_
  try simp only [Act.put, List.setIfInBounds_toArray, List.set_cons_zero, List.set_cons_succ]
  refine wpAnyH_take (i := 5) (oi := ⟨some 14, .fieldAddr 48 (.tmp 3) 2, _, _, _, none⟩) (v := .pointer (some ⟨w.heap.size, 2, none⟩)) rfl (by kernel_rfl) (by kernel_rfl) (by kernel_rfl) (fun c d e h => NoPanic.put h) (Or.inl ⟨by rfl, by intro W hW; go_simp⟩) hHeld ?_
  try simp only [Act.put, List.setIfInBounds_toArray, List.set_cons_zero, List.set_cons_succ]
  refine wpAnyH_take (i := 6) (oi := ⟨some 15, .load 43 (.tmp 14), 43, _, _, none⟩) (v := .agg _) rfl (by kernel_rfl) (by kernel_rfl) (by kernel_rfl) (fun c d e h => NoPanic.put h) (yieldsIf_load_mid rfl _ _ rfl (w.heap.size) (2) rfl _ _ (fun W' h => h.range (l := [.int .i64 x.rect.c1, .int .i64 x.rect.r1, .int .i64 x.rect.c2, .int .i64 x.rect.r2]) (o := 2) (by
        intro j v hj
        rcases j with _ | _ | _ | _ | j
        · exact hj
        · exact hj
        · exact hj
        · exact hj
        · simp at hj)) rfl rfl (by kernel_rfl)) hHeld ?_
  try simp only [Act.put, List.setIfInBounds_toArray, List.set_cons_zero, List.set_cons_succ]
  refine wpAnyH_take (i := 7) (oi := ⟨some 16, .build 43 #[], _, _, _, none⟩) (v := .agg #[.int .i64 0, .int .i64 0, .int .i64 0, .int .i64 0]) rfl (by kernel_rfl) (by kernel_rfl) (by kernel_rfl) (fun c d e h => NoPanic.put h) (Or.inl ⟨by rfl, by intro W hW; go_simp⟩) hHeld ?_
  try simp only [Act.put, List.setIfInBounds_toArray, List.set_cons_zero, List.set_cons_succ]
  refine wpAnyH_take (i := 8) (oi := ⟨some 17, .binOp .neq 43 (.tmp 15) (.tmp 16) 43, _, _, _, none⟩) (v := .bool q2) rfl (by kernel_rfl) (by kernel_rfl) (by kernel_rfl) (fun c d e h => NoPanic.put h) (Or.inl ⟨by rfl, by intro W hW; go_simp⟩) hHeld ?_
  try simp only [Act.put, List.setIfInBounds_toArray, List.set_cons_zero, List.set_cons_succ]
  refine wpAnyH_take (i := 9) (oi := ⟨some 18, .makeFunc (.func 161) #[] #[.tmp 3], _, _, _, none⟩) (v := .func (.func 161) #[] #[.pointer (some ⟨w.heap.size, 0, none⟩)]) rfl (by kernel_rfl) (by kernel_rfl) (by kernel_rfl) (fun c d e h => NoPanic.put h) (Or.inl ⟨by rfl, by intro W hW; go_simp⟩) hHeld ?_
  try simp only [Act.put, List.setIfInBounds_toArray, List.set_cons_zero, List.set_cons_succ]
  refine wpAnyH_take (i := 10) (oi := ⟨some 19, .build 184 #[(0, .tmp 17), (1, .tmp 18)], _, _, _, none⟩) (v := .agg #[.bool q2, .func (.func 161) #[] #[.pointer (some ⟨w.heap.size, 0, none⟩)]]) rfl (by kernel_rfl) (by kernel_rfl) (by kernel_rfl) (fun c d e h => NoPanic.put h) (Or.inl ⟨by rfl, by intro W hW; go_simp⟩) hHeld ?_
  try simp only [Act.put, List.setIfInBounds_toArray, List.set_cons_zero, List.set_cons_succ]
  refine wpAnyH_take (i := 11) (oi := ⟨some 20, .fieldAddr 48 (.tmp 3) 3, _, _, _, none⟩) (v := .pointer (some ⟨w.heap.size, 6, none⟩)) rfl (by kernel_rfl) (by kernel_rfl) (by kernel_rfl) (fun c d e h => NoPanic.put h) (Or.inl ⟨by rfl, by intro W hW; go_simp⟩) hHeld ?_
  try simp only [Act.put, List.setIfInBounds_toArray, List.set_cons_zero, List.set_cons_succ]
  refine wpAnyH_take (i := 12) (oi := ⟨some 21, .load 9 (.tmp 20), 9, _, _, none⟩) (v := str x.input) rfl (by kernel_rfl) (by kernel_rfl) (by kernel_rfl) (fun c d e h => NoPanic.put h) (Or.inl ⟨by rfl, by intro W hW; have hc : W.cell? ⟨w.heap.size, 6, none⟩ = some (str x.input) := hW.cell 6; go_simp⟩) hHeld ?_
  try simp only [Act.put, List.setIfInBounds_toArray, List.set_cons_zero, List.set_cons_succ]
  refine wpAnyH_take (i := 13) (oi := ⟨some 22, .binOp .neq 9 (.tmp 21) (.const (.string ⟨#[]⟩)) 9, _, _, _, none⟩) (v := .bool q3) rfl (by kernel_rfl) (by kernel_rfl) (by kernel_rfl) (fun c d e h => NoPanic.put h) (Or.inl ⟨by rfl, by intro W hW; go_simp; rw [← hq3]; cases x.input <;> rfl⟩) hHeld ?_
  try simp only [Act.put, List.setIfInBounds_toArray, List.set_cons_zero, List.set_cons_succ]
  refine wpAnyH_take (i := 14) (oi := ⟨some 23, .makeFunc (.func 162) #[] #[.tmp 3], _, _, _, none⟩) (v := .func (.func 162) #[] #[.pointer (some ⟨w.heap.size, 0, none⟩)]) rfl (by kernel_rfl) (by kernel_rfl) (by kernel_rfl) (fun c d e h => NoPanic.put h) (Or.inl ⟨by rfl, by intro W hW; go_simp⟩) hHeld ?_
  try simp only [Act.put, List.setIfInBounds_toArray, List.set_cons_zero, List.set_cons_succ]
  refine wpAnyH_take (i := 15) (oi := ⟨some 24, .build 184 #[(0, .tmp 22), (1, .tmp 23)], _, _, _, none⟩) (v := .agg #[.bool q3, .func (.func 162) #[] #[.pointer (some ⟨w.heap.size, 0, none⟩)]]) rfl (by kernel_rfl) (by kernel_rfl) (by kernel_rfl) (fun c d e h => NoPanic.put h) (Or.inl ⟨by rfl, by intro W hW; go_simp⟩) hHeld ?_
  try simp only [Act.put, List.setIfInBounds_toArray, List.set_cons_zero, List.set_cons_succ]
  refine wpAnyH_take (i := 16) (oi := ⟨some 25, .fieldAddr 48 (.tmp 3) 4, _, _, _, none⟩) (v := .pointer (some ⟨w.heap.size, 7, none⟩)) rfl (by kernel_rfl) (by kernel_rfl) (by kernel_rfl) (fun c d e h => NoPanic.put h) (Or.inl ⟨by rfl, by intro W hW; go_simp⟩) hHeld ?_
  try simp only [Act.put, List.setIfInBounds_toArray, List.set_cons_zero, List.set_cons_succ]
  refine wpAnyH_take (i := 17) (oi := ⟨some 26, .load 46 (.tmp 25), 46, _, _, none⟩) (v := .agg _) rfl (by kernel_rfl) (by kernel_rfl) (by kernel_rfl) (fun c d e h => NoPanic.put h) (yieldsIf_load_mid rfl _ _ rfl (w.heap.size) (7) rfl _ _ (fun W' h => h.range (l := [.int .u64 x.rights.rd, .int .u64 x.rights.wr, .int .u64 x.rights.ow]) (o := 7) (by
        intro j v hj
        rcases j with _ | _ | _ | j
        · exact hj
        · exact hj
        · exact hj
        · simp at hj)) rfl rfl (by kernel_rfl)) hHeld ?_
  try simp only [Act.put, List.setIfInBounds_toArray, List.set_cons_zero, List.set_cons_succ]
  refine wpAnyH_take (i := 18) (oi := ⟨some 27, .build 46 #[], _, _, _, none⟩) (v := .agg #[.int .u64 0, .int .u64 0, .int .u64 0]) rfl (by kernel_rfl) (by kernel_rfl) (by kernel_rfl) (fun c d e h => NoPanic.put h) (Or.inl ⟨by rfl, by intro W hW; go_simp⟩) hHeld ?_
  try simp only [Act.put, List.setIfInBounds_toArray, List.set_cons_zero, List.set_cons_succ]
  refine wpAnyH_take (i := 19) (oi := ⟨some 28, .binOp .neq 46 (.tmp 26) (.tmp 27) 46, _, _, _, none⟩) (v := .bool q4) rfl (by kernel_rfl) (by kernel_rfl) (by kernel_rfl) (fun c d e h => NoPanic.put h) (Or.inl ⟨by rfl, by intro W hW; go_simp⟩) hHeld ?_
  try simp only [Act.put, List.setIfInBounds_toArray, List.set_cons_zero, List.set_cons_succ]
  refine wpAnyH_take (i := 20) (oi := ⟨some 29, .makeFunc (.func 163) #[] #[.tmp 3], _, _, _, none⟩) (v := .func (.func 163) #[] #[.pointer (some ⟨w.heap.size, 0, none⟩)]) rfl (by kernel_rfl) (by kernel_rfl) (by kernel_rfl) (fun c d e h => NoPanic.put h) (Or.inl ⟨by rfl, by intro W hW; go_simp⟩) hHeld ?_
  try simp only [Act.put, List.setIfInBounds_toArray, List.set_cons_zero, List.set_cons_succ]
  refine wpAnyH_take (i := 21) (oi := ⟨some 30, .build 184 #[(0, .tmp 28), (1, .tmp 29)], _, _, _, none⟩) (v := .agg #[.bool q4, .func (.func 163) #[] #[.pointer (some ⟨w.heap.size, 0, none⟩)]]) rfl (by kernel_rfl) (by kernel_rfl) (by kernel_rfl) (fun c d e h => NoPanic.put h) (Or.inl ⟨by rfl, by intro W hW; go_simp⟩) hHeld ?_
  try simp only [Act.put, List.setIfInBounds_toArray, List.set_cons_zero, List.set_cons_succ]
  refine wpAnyH_take (i := 22) (oi := ⟨some 31, .fieldAddr 48 (.tmp 3) 5, _, _, _, none⟩) (v := .pointer (some ⟨w.heap.size, 10, none⟩)) rfl (by kernel_rfl) (by kernel_rfl) (by kernel_rfl) (fun c d e h => NoPanic.put h) (Or.inl ⟨by rfl, by intro W hW; go_simp⟩) hHeld ?_
  try simp only [Act.put, List.setIfInBounds_toArray, List.set_cons_zero, List.set_cons_succ]
  refine wpAnyH_take (i := 23) (oi := ⟨some 32, .load 5 (.tmp 31), 5, _, _, none⟩) (v := .int .u8 x.fns) rfl (by kernel_rfl) (by kernel_rfl) (by kernel_rfl) (fun c d e h => NoPanic.put h) (Or.inl ⟨by rfl, by intro W hW; have hc : W.cell? ⟨w.heap.size, 10, none⟩ = some (.int .u8 x.fns) := hW.cell 10; go_simp⟩) hHeld ?_
  try simp only [Act.put, List.setIfInBounds_toArray, List.set_cons_zero, List.set_cons_succ]
  refine wpAnyH_take (i := 24) (oi := ⟨some 33, .binOp .neq 5 (.tmp 32) (.const (.int .u8 0)) 5, _, _, _, none⟩) (v := .bool q5) rfl (by kernel_rfl) (by kernel_rfl) (by kernel_rfl) (fun c d e h => NoPanic.put h) (Or.inl ⟨by rfl, by intro W hW; go_simp⟩) hHeld ?_
  try simp only [Act.put, List.setIfInBounds_toArray, List.set_cons_zero, List.set_cons_succ]
  refine wpAnyH_take (i := 25) (oi := ⟨some 34, .makeFunc (.func 164) #[] #[.tmp 3], _, _, _, none⟩) (v := .func (.func 164) #[] #[.pointer (some ⟨w.heap.size, 0, none⟩)]) rfl (by kernel_rfl) (by kernel_rfl) (by kernel_rfl) (fun c d e h => NoPanic.put h) (Or.inl ⟨by rfl, by intro W hW; go_simp⟩) hHeld ?_
  try simp only [Act.put, List.setIfInBounds_toArray, List.set_cons_zero, List.set_cons_succ]
  refine wpAnyH_take (i := 26) (oi := ⟨some 35, .build 184 #[(0, .tmp 33), (1, .tmp 34)], _, _, _, none⟩) (v := .agg #[.bool q5, .func (.func 164) #[] #[.pointer (some ⟨w.heap.size, 0, none⟩)]]) rfl (by kernel_rfl) (by kernel_rfl) (by kernel_rfl) (fun c d e h => NoPanic.put h) (Or.inl ⟨by rfl, by intro W hW; go_simp⟩) hHeld ?_
  try simp only [Act.put, List.setIfInBounds_toArray, List.set_cons_zero, List.set_cons_succ]
  refine wpAnyH_take (i := 27) (oi := ⟨some 36, .fieldAddr 48 (.tmp 3) 6, _, _, _, none⟩) (v := .pointer (some ⟨w.heap.size, 11, none⟩)) rfl (by kernel_rfl) (by kernel_rfl) (by kernel_rfl) (fun c d e h => NoPanic.put h) (Or.inl ⟨by rfl, by intro W hW; go_simp⟩) hHeld ?_
  try simp only [Act.put, List.setIfInBounds_toArray, List.set_cons_zero, List.set_cons_succ]
  refine wpAnyH_take (i := 28) (oi := ⟨some 37, .load 44 (.tmp 36), 44, _, _, none⟩) (v := .int .u64 x.to_) rfl (by kernel_rfl) (by kernel_rfl) (by kernel_rfl) (fun c d e h => NoPanic.put h) (Or.inl ⟨by rfl, by intro W hW; have hc : W.cell? ⟨w.heap.size, 11, none⟩ = some (.int .u64 x.to_) := hW.cell 11; go_simp⟩) hHeld ?_
  try simp only [Act.put, List.setIfInBounds_toArray, List.set_cons_zero, List.set_cons_succ]
  refine wpAnyH_take (i := 29) (oi := ⟨some 38, .binOp .neq 44 (.tmp 37) (.const (.int .u64 0)) 44, _, _, _, none⟩) (v := .bool q6) rfl (by kernel_rfl) (by kernel_rfl) (by kernel_rfl) (fun c d e h => NoPanic.put h) (Or.inl ⟨by rfl, by intro W hW; go_simp⟩) hHeld ?_
  try simp only [Act.put, List.setIfInBounds_toArray, List.set_cons_zero, List.set_cons_succ]
  refine wpAnyH_take (i := 30) (oi := ⟨some 39, .makeFunc (.func 165) #[] #[.tmp 3], _, _, _, none⟩) (v := .func (.func 165) #[] #[.pointer (some ⟨w.heap.size, 0, none⟩)]) rfl (by kernel_rfl) (by kernel_rfl) (by kernel_rfl) (fun c d e h => NoPanic.put h) (Or.inl ⟨by rfl, by intro W hW; go_simp⟩) hHeld ?_
  try simp only [Act.put, List.setIfInBounds_toArray, List.set_cons_zero, List.set_cons_succ]
  refine wpAnyH_take (i := 31) (oi := ⟨some 40, .build 184 #[(0, .tmp 38), (1, .tmp 39)], _, _, _, none⟩) (v := .agg #[.bool q6, .func (.func 165) #[] #[.pointer (some ⟨w.heap.size, 0, none⟩)]]) rfl (by kernel_rfl) (by kernel_rfl) (by kernel_rfl) (fun c d e h => NoPanic.put h) (Or.inl ⟨by rfl, by intro W hW; go_simp⟩) hHeld ?_
  try simp only [Act.put, List.setIfInBounds_toArray, List.set_cons_zero, List.set_cons_succ]
  refine wpAnyH_take (i := 32) (oi := ⟨some 41, .fieldAddr 48 (.tmp 3) 7, _, _, _, none⟩) (v := .pointer (some ⟨w.heap.size, 12, none⟩)) rfl (by kernel_rfl) (by kernel_rfl) (by kernel_rfl) (fun c d e h => NoPanic.put h) (Or.inl ⟨by rfl, by intro W hW; go_simp⟩) hHeld ?_
  try simp only [Act.put, List.setIfInBounds_toArray, List.set_cons_zero, List.set_cons_succ]
  refine wpAnyH_take (i := 33) (oi := ⟨some 42, .load 3 (.tmp 41), 3, _, _, none⟩) (v := .int .i64 x.index) rfl (by kernel_rfl) (by kernel_rfl) (by kernel_rfl) (fun c d e h => NoPanic.put h) (Or.inl ⟨by rfl, by intro W hW; have hc : W.cell? ⟨w.heap.size, 12, none⟩ = some (.int .i64 x.index) := hW.cell 12; go_simp⟩) hHeld ?_
  try simp only [Act.put, List.setIfInBounds_toArray, List.set_cons_zero, List.set_cons_succ]
  refine wpAnyH_take (i := 34) (oi := ⟨some 43, .binOp .neq 3 (.tmp 42) (.const (.int .i64 0)) 3, _, _, _, none⟩) (v := .bool q7) rfl (by kernel_rfl) (by kernel_rfl) (by kernel_rfl) (fun c d e h => NoPanic.put h) (Or.inl ⟨by rfl, by intro W hW; go_simp⟩) hHeld ?_
  try simp only [Act.put, List.setIfInBounds_toArray, List.set_cons_zero, List.set_cons_succ]
  refine wpAnyH_take (i := 35) (oi := ⟨some 44, .makeFunc (.func 166) #[] #[.tmp 3], _, _, _, none⟩) (v := .func (.func 166) #[] #[.pointer (some ⟨w.heap.size, 0, none⟩)]) rfl (by kernel_rfl) (by kernel_rfl) (by kernel_rfl) (fun c d e h => NoPanic.put h) (Or.inl ⟨by rfl, by intro W hW; go_simp⟩) hHeld ?_
  try simp only [Act.put, List.setIfInBounds_toArray, List.set_cons_zero, List.set_cons_succ]
  refine wpAnyH_take (i := 36) (oi := ⟨some 45, .build 184 #[(0, .tmp 43), (1, .tmp 44)], _, _, _, none⟩) (v := .agg #[.bool q7, .func (.func 166) #[] #[.pointer (some ⟨w.heap.size, 0, none⟩)]]) rfl (by kernel_rfl) (by kernel_rfl) (by kernel_rfl) (fun c d e h => NoPanic.put h) (Or.inl ⟨by rfl, by intro W hW; go_simp⟩) hHeld ?_
  try simp only [Act.put, List.setIfInBounds_toArray, List.set_cons_zero, List.set_cons_succ]
  refine wpAnyH_take (i := 39) (oi := ⟨some 48, .move (.const (.int .i64 0)), _, _, _, none⟩) (v := .int .i64 0) rfl (by kernel_rfl) (by kernel_rfl) (by kernel_rfl) (fun c d e h => NoPanic.put h) (Or.inl ⟨by rfl, by intro W hW; go_simp⟩) hHeld ?_
  try simp only [Act.put, List.setIfInBounds_toArray, List.set_cons_zero, List.set_cons_succ]
  refine wpAnyH_ready (rs := [37]) (by kernel_rfl) (by simp) ?_
  refine AllReadyH.cons (o := ⟨some 46, .buildSlice 185 7 #[(0, .tmp 13), (1, .tmp 19), (2, .tmp 24), (3, .tmp 30), (4, .tmp 35), (5, .tmp 40), (6, .tmp 45)], 185, _, _, none⟩) rfl (fun K hK => ?_) AllReadyH.nil
  go_simp
  refine hK.out _ _ ((KG.out.drew.alloc _).drew) (fun hHeld => ?_)
  clear hK K
  try simp only [Act.put, List.setIfInBounds_toArray, List.set_cons_zero, List.set_cons_succ]
  refine wpAnyH_take (i := 38) (oi := ⟨some 47, .call { callee := .builtin .len, args := #[.tmp 46], argTypes := #[185] }, _, _, _, none⟩) (v := .int .i64 7) rfl (by kernel_rfl) (by kernel_rfl) (by kernel_rfl) (fun c d e h => NoPanic.put h) (Or.inl ⟨by rfl, by intro W hW; go_simp⟩) hHeld ?_
  try simp only [Act.put, List.setIfInBounds_toArray, List.set_cons_zero, List.set_cons_succ]
  refine wpAnyH_done (by kernel_rfl) ?_ _
  refine NoPanic.normal ?_
  have KF := Lib.hid ((Blk.new W1 184 #[.bool q1, .func (.func 160) #[] #[.pointer (some ⟨w.heap.size, 0, none⟩)], .bool q2, .func (.func 161) #[] #[.pointer (some ⟨w.heap.size, 0, none⟩)], .bool q3, .func (.func 162) #[] #[.pointer (some ⟨w.heap.size, 0, none⟩)], .bool q4, .func (.func 163) #[] #[.pointer (some ⟨w.heap.size, 0, none⟩)], .bool q5, .func (.func 164) #[] #[.pointer (some ⟨w.heap.size, 0, none⟩)], .bool q6, .func (.func 165) #[] #[.pointer (some ⟨w.heap.size, 0, none⟩)], .bool q7, .func (.func 166) #[] #[.pointer (some ⟨w.heap.size, 0, none⟩)]]).drew)
  have KG2 := Lib.hid ((KG.out.alloc (.cells #[.bool q1, .func (.func 160) #[] #[.pointer (some ⟨w.heap.size, 0, none⟩)], .bool q2, .func (.func 161) #[] #[.pointer (some ⟨w.heap.size, 0, none⟩)], .bool q3, .func (.func 162) #[] #[.pointer (some ⟨w.heap.size, 0, none⟩)], .bool q4, .func (.func 163) #[] #[.pointer (some ⟨w.heap.size, 0, none⟩)], .bool q5, .func (.func 164) #[] #[.pointer (some ⟨w.heap.size, 0, none⟩)], .bool q6, .func (.func 165) #[] #[.pointer (some ⟨w.heap.size, 0, none⟩)], .bool q7, .func (.func 166) #[] #[.pointer (some ⟨w.heap.size, 0, none⟩)]] 184)).drew)
  have HB2 := Lib.hid (show Below w.heap.size w (W1.alloc (.cells #[.bool q1, .func (.func 160) #[] #[.pointer (some ⟨w.heap.size, 0, none⟩)], .bool q2, .func (.func 161) #[] #[.pointer (some ⟨w.heap.size, 0, none⟩)], .bool q3, .func (.func 162) #[] #[.pointer (some ⟨w.heap.size, 0, none⟩)], .bool q4, .func (.func 163) #[] #[.pointer (some ⟨w.heap.size, 0, none⟩)], .bool q5, .func (.func 164) #[] #[.pointer (some ⟨w.heap.size, 0, none⟩)], .bool q6, .func (.func 165) #[] #[.pointer (some ⟨w.heap.size, 0, none⟩)], .bool q7, .func (.func 166) #[] #[.pointer (some ⟨w.heap.size, 0, none⟩)]] 184)).drew from (HB0.out.alloc HB0.out.size _).drew)
  have hlt2 : W1.heap.size < (W1.alloc (.cells #[.bool q1, .func (.func 160) #[] #[.pointer (some ⟨w.heap.size, 0, none⟩)], .bool q2, .func (.func 161) #[] #[.pointer (some ⟨w.heap.size, 0, none⟩)], .bool q3, .func (.func 162) #[] #[.pointer (some ⟨w.heap.size, 0, none⟩)], .bool q4, .func (.func 163) #[] #[.pointer (some ⟨w.heap.size, 0, none⟩)], .bool q5, .func (.func 164) #[] #[.pointer (some ⟨w.heap.size, 0, none⟩)], .bool q6, .func (.func 165) #[] #[.pointer (some ⟨w.heap.size, 0, none⟩)], .bool q7, .func (.func 166) #[] #[.pointer (some ⟨w.heap.size, 0, none⟩)]] 184)).drew.heap.size := by show _ < (W1.heap.push _).size; simp
  have hlt1 : w.heap.size < W1.heap.size := KG.out.lt
  obtain ⟨W2, hW2⟩ : ∃ W2, (W1.alloc (.cells #[.bool q1, .func (.func 160) #[] #[.pointer (some ⟨w.heap.size, 0, none⟩)], .bool q2, .func (.func 161) #[] #[.pointer (some ⟨w.heap.size, 0, none⟩)], .bool q3, .func (.func 162) #[] #[.pointer (some ⟨w.heap.size, 0, none⟩)], .bool q4, .func (.func 163) #[] #[.pointer (some ⟨w.heap.size, 0, none⟩)], .bool q5, .func (.func 164) #[] #[.pointer (some ⟨w.heap.size, 0, none⟩)], .bool q6, .func (.func 165) #[] #[.pointer (some ⟨w.heap.size, 0, none⟩)], .bool q7, .func (.func 166) #[] #[.pointer (some ⟨w.heap.size, 0, none⟩)]] 184)).drew = W2 := ⟨_, rfl⟩
  rw [hW2] at KF KG2 HB2 hlt2 ⊢
  obtain ⟨p, hp⟩ : ∃ p, W1.heap.size = p := ⟨_, rfl⟩
  rw [hp] at KF hlt2 hlt1 ⊢
  clear hW2 hp KG HB0 hn2 hn4 hmf hHeld
  have HO := Lib.hid (h.below HB2.out)
  go_wp2_with fail
  go_loopw [5, 6, 48] (fun m fv i wr => ∃ k : Nat, k ≤ 7 ∧ i = .int .i64 k ∧ m = .int .i64 (mkN x k) ∧ Out wr fv (mkS x k) ∧ (∀ q, fv.ownBlock = some q → W2.heap.size ≤ q) ∧ Below W2.heap.size W2 wr) (fun _ _ i _ => 7 - (intOf i).toNat)
  case atStart => exact ⟨0, by omega, rfl, rfl, Out.nil _, fun q hq => by simp [Value.ownBlock] at hq, Below.refl _ _⟩
  case round =>
    rename World => w0
    obtain ⟨k, hk, rfl, rfl, ho, hob, hbw⟩ := hrel
    have HBW := Lib.hid hbw
    have HOW := Lib.hid ho
    have HOB := Lib.hid hob
    have KFW := Lib.hid (KF.out.below hbw hlt2)
    have KGW := Lib.hid (KG2.out.below hbw KG2.out.lt)
    clear ho hob hbw
    have h8 : k = 7 ∨ k = 0 ∨ k = 1 ∨ k = 2 ∨ k = 3 ∨ k = 4 ∨ k = 5 ∨ k = 6 := by omega
    rcases h8 with rfl | rfl | rfl | rfl | rfl | rfl | rfl | rfl
    · rw [show (((7 : Nat) : Int)) = 7 from rfl]
      have e0 : w0.cell? ⟨w.heap.size, 0, none⟩ = some (.int .u8 x.kind) := KGW.out.cell 0
      go_wp2_with fail
      refine (num_u8 v l x.kind w0 (HO.out.below HBW.out) (by omega)).mono ?_
      rintro e w3 ⟨v3, rfl, o3, t3⟩
      have O3 := Lib.hid o3
      have T3 := Lib.hid t3
      clear o3 t3 e0
      go_wp2_with fail
      refine (num_int v3 _ (mkN x 7) w3 O3.out (by rw [List.length_append]; have := numI_le x.kind; omega)).mono ?_
      rintro e w4 ⟨v4, rfl, o4, t4⟩
      have T4 := Lib.hid (T3.out.trans t4)
      have hne : ∀ q, u6.ownBlock = some q → v.ownBlock ≠ some q := fun q hq e => by
        have k1 := HOB.out q hq
        have k2 := HO.out.lt q e
        omega
      have T34 := Lib.hid (T3.out.trans t4)
      have OU := Lib.hid (HOW.out.outTo T34.out hne)
      obtain ⟨i0, hi0, hz0, hz1, hz2⟩ := info_parts (show (Tryz.prog.info? 5).map (fun i => (i.zero, i.size, i.bytes)) = some (some (.int .u8 0), 1, 1) by kernel_rfl)
      obtain ⟨v5, w5, hr, o5, t5⟩ := run_outs w4 59 59 i0 Tryz.underlying59 hi0 hz0 hz1 hz2 v4 _ o4 u6 _ OU.out (by
        have m0 := mk_len x hi 7
        have m1 := numI_le x.kind
        have m2 := numI_le (mkN x 7)
        simp only [List.length_append]
        omega)
      have R1 := Lib.hid hr
      have O5 := Lib.hid o5
      have T5 := Lib.hid (T34.out.trans t5)
      clear hr o5 t5 o4 t4 hne hi0 hz0 hz1 hz2
      go_wp2_with (first | (at_builtin; refine wpList_append_eq rfl (.tmp 69) (.tmp 70) 59 59 rfl v4 u6 v5 w5 rfl rfl R1.out ?_))
      go_ret
      refine ⟨v5, rfl, ?_, ?_⟩
      · have e : l ++ oprB x = l ++ numI x.kind ++ numI (mkN x 7) ++ mkS x 7 := by
          rw [List.append_assoc, List.append_assoc]
          unfold oprB
          rw [List.append_assoc]
          rfl
        rw [e]
        exact O5.out
      · exact (((OutTo.refl w v).below HB2.out).below HBW.out).trans T5.out
    · rw [show (((0 : Nat) : Int)) = 0 from rfl]
      have e1 : w0.cell? ⟨p, 0, none⟩ = some (.bool q1) := KFW.out.cell 0
      have e2 : w0.cell? ⟨p, 1, none⟩ = some (.func (.func 160) #[] #[.pointer (some ⟨w.heap.size, 0, none⟩)]) := KFW.out.cell 1
      cases q1
      · go_wp2_with fail
        obtain ⟨f1, f2⟩ := mk_false x 0 _ HF0.out
        exact ⟨⟨1, by omega, rfl, by rw [← f1], by rw [show mkS x 1 = _ from f2]; exact HOW.out.alloc _, HOB.out, HBW.out.alloc HBW.out.size _⟩, by simp [intOf]⟩
      · go_wp2_with fail
        obtain ⟨f1, f2⟩ := mk_true x 0 _ (by omega) HF0.out
        rw [show ((2 : Int) ^ 0) = 1 from by decide] at f1
        have F1 := Lib.hid f1
        have F2 := Lib.hid f2
        clear f1 f2 e1 e2
        refine (oc_1 w.heap.size x u6 (mkS x 0) _ (KGW.out.alloc _) (HOW.out.alloc _) (by have := mk_len x hi 0; omega)).mono ?_
        rintro e w3 ⟨u7, rfl, o3, t3⟩
        have O3 := Lib.hid o3
        have T3 := Lib.hid t3
        clear o3 t3
        go_wp2
        exact ⟨⟨1, by omega, rfl, congrArg (Value.int .i64) (show bits .or .i64 (mkN x 0) 1 = mkN x 1 from F1.out), by rw [show mkS x 1 = _ from F2.out]; exact O3.out, T3.out.newer (Nat.le_trans HBW.out.size (Below.alloc (Below.refl _ _) (Nat.le_refl _) _).size) HOB.out, (HBW.out.alloc HBW.out.size _).trans (T3.out.old (HBW.out.alloc HBW.out.size _).size HOB.out)⟩, by simp [intOf]⟩
    · rw [show (((1 : Nat) : Int)) = 1 from rfl]
      have e1 : w0.cell? ⟨p, 2, none⟩ = some (.bool q2) := KFW.out.cell 2
      have e2 : w0.cell? ⟨p, 3, none⟩ = some (.func (.func 161) #[] #[.pointer (some ⟨w.heap.size, 0, none⟩)]) := KFW.out.cell 3
      cases q2
      · go_wp2_with fail
        obtain ⟨f1, f2⟩ := mk_false x 1 _ HF1.out
        exact ⟨⟨2, by omega, rfl, by rw [← f1], by rw [show mkS x 2 = _ from f2]; exact HOW.out.alloc _, HOB.out, HBW.out.alloc HBW.out.size _⟩, by simp [intOf]⟩
      · go_wp2_with fail
        obtain ⟨f1, f2⟩ := mk_true x 1 _ (by omega) HF1.out
        rw [show ((2 : Int) ^ 1) = 2 from by decide] at f1
        have F1 := Lib.hid f1
        have F2 := Lib.hid f2
        clear f1 f2 e1 e2
        refine (oc_2 w.heap.size x u6 (mkS x 1) _ (KGW.out.alloc _) (HOW.out.alloc _) (by have := mk_len x hi 1; omega)).mono ?_
        rintro e w3 ⟨u7, rfl, o3, t3⟩
        have O3 := Lib.hid o3
        have T3 := Lib.hid t3
        clear o3 t3
        go_wp2
        exact ⟨⟨2, by omega, rfl, congrArg (Value.int .i64) (show bits .or .i64 (mkN x 1) 2 = mkN x 2 from F1.out), by rw [show mkS x 2 = _ from F2.out]; exact O3.out, T3.out.newer (Nat.le_trans HBW.out.size (Below.alloc (Below.refl _ _) (Nat.le_refl _) _).size) HOB.out, (HBW.out.alloc HBW.out.size _).trans (T3.out.old (HBW.out.alloc HBW.out.size _).size HOB.out)⟩, by simp [intOf]⟩
    · rw [show (((2 : Nat) : Int)) = 2 from rfl]
      have e1 : w0.cell? ⟨p, 4, none⟩ = some (.bool q3) := KFW.out.cell 4
      have e2 : w0.cell? ⟨p, 5, none⟩ = some (.func (.func 162) #[] #[.pointer (some ⟨w.heap.size, 0, none⟩)]) := KFW.out.cell 5
      cases q3
      · go_wp2_with fail
        obtain ⟨f1, f2⟩ := mk_false x 2 _ HF2.out
        exact ⟨⟨3, by omega, rfl, by rw [← f1], by rw [show mkS x 3 = _ from f2]; exact HOW.out.alloc _, HOB.out, HBW.out.alloc HBW.out.size _⟩, by simp [intOf]⟩
      · go_wp2_with fail
        obtain ⟨f1, f2⟩ := mk_true x 2 _ (by omega) HF2.out
        rw [show ((2 : Int) ^ 2) = 4 from by decide] at f1
        have F1 := Lib.hid f1
        have F2 := Lib.hid f2
        clear f1 f2 e1 e2
        refine (oc_3 w.heap.size x u6 (mkS x 2) _ (by omega) (KGW.out.alloc _) (HOW.out.alloc _) (by have := mk_len x hi 2; omega)).mono ?_
        rintro e w3 ⟨u7, rfl, o3, t3⟩
        have O3 := Lib.hid o3
        have T3 := Lib.hid t3
        clear o3 t3
        go_wp2
        exact ⟨⟨3, by omega, rfl, congrArg (Value.int .i64) (show bits .or .i64 (mkN x 2) 4 = mkN x 3 from F1.out), by rw [show mkS x 3 = _ from F2.out]; exact O3.out, T3.out.newer (Nat.le_trans HBW.out.size (Below.alloc (Below.refl _ _) (Nat.le_refl _) _).size) HOB.out, (HBW.out.alloc HBW.out.size _).trans (T3.out.old (HBW.out.alloc HBW.out.size _).size HOB.out)⟩, by simp [intOf]⟩
    · rw [show (((3 : Nat) : Int)) = 3 from rfl]
      have e1 : w0.cell? ⟨p, 6, none⟩ = some (.bool q4) := KFW.out.cell 6
      have e2 : w0.cell? ⟨p, 7, none⟩ = some (.func (.func 163) #[] #[.pointer (some ⟨w.heap.size, 0, none⟩)]) := KFW.out.cell 7
      cases q4
      · go_wp2_with fail
        obtain ⟨f1, f2⟩ := mk_false x 3 _ HF3.out
        exact ⟨⟨4, by omega, rfl, by rw [← f1], by rw [show mkS x 4 = _ from f2]; exact HOW.out.alloc _, HOB.out, HBW.out.alloc HBW.out.size _⟩, by simp [intOf]⟩
      · go_wp2_with fail
        obtain ⟨f1, f2⟩ := mk_true x 3 _ (by omega) HF3.out
        rw [show ((2 : Int) ^ 3) = 8 from by decide] at f1
        have F1 := Lib.hid f1
        have F2 := Lib.hid f2
        clear f1 f2 e1 e2
        refine (oc_4 w.heap.size x u6 (mkS x 3) _ a0 a1 b0 b1 c0 c1 (KGW.out.alloc _) (HOW.out.alloc _) (by have := mk_len x hi 3; omega)).mono ?_
        rintro e w3 ⟨u7, rfl, o3, t3⟩
        have O3 := Lib.hid o3
        have T3 := Lib.hid t3
        clear o3 t3
        go_wp2
        exact ⟨⟨4, by omega, rfl, congrArg (Value.int .i64) (show bits .or .i64 (mkN x 3) 8 = mkN x 4 from F1.out), by rw [show mkS x 4 = _ from F2.out]; exact O3.out, T3.out.newer (Nat.le_trans HBW.out.size (Below.alloc (Below.refl _ _) (Nat.le_refl _) _).size) HOB.out, (HBW.out.alloc HBW.out.size _).trans (T3.out.old (HBW.out.alloc HBW.out.size _).size HOB.out)⟩, by simp [intOf]⟩
    · rw [show (((4 : Nat) : Int)) = 4 from rfl]
      have e1 : w0.cell? ⟨p, 8, none⟩ = some (.bool q5) := KFW.out.cell 8
      have e2 : w0.cell? ⟨p, 9, none⟩ = some (.func (.func 164) #[] #[.pointer (some ⟨w.heap.size, 0, none⟩)]) := KFW.out.cell 9
      cases q5
      · go_wp2_with fail
        obtain ⟨f1, f2⟩ := mk_false x 4 _ HF4.out
        exact ⟨⟨5, by omega, rfl, by rw [← f1], by rw [show mkS x 5 = _ from f2]; exact HOW.out.alloc _, HOB.out, HBW.out.alloc HBW.out.size _⟩, by simp [intOf]⟩
      · go_wp2_with fail
        obtain ⟨f1, f2⟩ := mk_true x 4 _ (by omega) HF4.out
        rw [show ((2 : Int) ^ 4) = 16 from by decide] at f1
        have F1 := Lib.hid f1
        have F2 := Lib.hid f2
        clear f1 f2 e1 e2
        refine (oc_5 w.heap.size x u6 (mkS x 4) _ (KGW.out.alloc _) (HOW.out.alloc _) (by have := mk_len x hi 4; omega)).mono ?_
        rintro e w3 ⟨u7, rfl, o3, t3⟩
        have O3 := Lib.hid o3
        have T3 := Lib.hid t3
        clear o3 t3
        go_wp2
        exact ⟨⟨5, by omega, rfl, congrArg (Value.int .i64) (show bits .or .i64 (mkN x 4) 16 = mkN x 5 from F1.out), by rw [show mkS x 5 = _ from F2.out]; exact O3.out, T3.out.newer (Nat.le_trans HBW.out.size (Below.alloc (Below.refl _ _) (Nat.le_refl _) _).size) HOB.out, (HBW.out.alloc HBW.out.size _).trans (T3.out.old (HBW.out.alloc HBW.out.size _).size HOB.out)⟩, by simp [intOf]⟩
    · rw [show (((5 : Nat) : Int)) = 5 from rfl]
      have e1 : w0.cell? ⟨p, 10, none⟩ = some (.bool q6) := KFW.out.cell 10
      have e2 : w0.cell? ⟨p, 11, none⟩ = some (.func (.func 165) #[] #[.pointer (some ⟨w.heap.size, 0, none⟩)]) := KFW.out.cell 11
      cases q6
      · go_wp2_with fail
        obtain ⟨f1, f2⟩ := mk_false x 5 _ HF5.out
        exact ⟨⟨6, by omega, rfl, by rw [← f1], by rw [show mkS x 6 = _ from f2]; exact HOW.out.alloc _, HOB.out, HBW.out.alloc HBW.out.size _⟩, by simp [intOf]⟩
      · go_wp2_with fail
        obtain ⟨f1, f2⟩ := mk_true x 5 _ (by omega) HF5.out
        rw [show ((2 : Int) ^ 5) = 32 from by decide] at f1
        have F1 := Lib.hid f1
        have F2 := Lib.hid f2
        clear f1 f2 e1 e2
        refine (oc_6 w.heap.size x u6 (mkS x 5) _ t0 t1 (KGW.out.alloc _) (HOW.out.alloc _) (by have := mk_len x hi 5; omega)).mono ?_
        rintro e w3 ⟨u7, rfl, o3, t3⟩
        have O3 := Lib.hid o3
        have T3 := Lib.hid t3
        clear o3 t3
        go_wp2
        exact ⟨⟨6, by omega, rfl, congrArg (Value.int .i64) (show bits .or .i64 (mkN x 5) 32 = mkN x 6 from F1.out), by rw [show mkS x 6 = _ from F2.out]; exact O3.out, T3.out.newer (Nat.le_trans HBW.out.size (Below.alloc (Below.refl _ _) (Nat.le_refl _) _).size) HOB.out, (HBW.out.alloc HBW.out.size _).trans (T3.out.old (HBW.out.alloc HBW.out.size _).size HOB.out)⟩, by simp [intOf]⟩
    · rw [show (((6 : Nat) : Int)) = 6 from rfl]
      have e1 : w0.cell? ⟨p, 12, none⟩ = some (.bool q7) := KFW.out.cell 12
      have e2 : w0.cell? ⟨p, 13, none⟩ = some (.func (.func 166) #[] #[.pointer (some ⟨w.heap.size, 0, none⟩)]) := KFW.out.cell 13
      cases q7
      · go_wp2_with fail
        obtain ⟨f1, f2⟩ := mk_false x 6 _ HF6.out
        exact ⟨⟨7, by omega, rfl, by rw [← f1], by rw [show mkS x 7 = _ from f2]; exact HOW.out.alloc _, HOB.out, HBW.out.alloc HBW.out.size _⟩, by simp [intOf]⟩
      · go_wp2_with fail
        obtain ⟨f1, f2⟩ := mk_true x 6 _ (by omega) HF6.out
        rw [show ((2 : Int) ^ 6) = 64 from by decide] at f1
        have F1 := Lib.hid f1
        have F2 := Lib.hid f2
        clear f1 f2 e1 e2
        refine (oc_7 w.heap.size x u6 (mkS x 6) _ (KGW.out.alloc _) (HOW.out.alloc _) (by have := mk_len x hi 6; omega)).mono ?_
        rintro e w3 ⟨u7, rfl, o3, t3⟩
        have O3 := Lib.hid o3
        have T3 := Lib.hid t3
        clear o3 t3
        go_wp2
        exact ⟨⟨7, by omega, rfl, congrArg (Value.int .i64) (show bits .or .i64 (mkN x 6) 64 = mkN x 7 from F1.out), by rw [show mkS x 7 = _ from F2.out]; exact O3.out, T3.out.newer (Nat.le_trans HBW.out.size (Below.alloc (Below.refl _ _) (Nat.le_refl _) _).size) HOB.out, (HBW.out.alloc HBW.out.size _).trans (T3.out.old (HBW.out.alloc HBW.out.size _).size HOB.out)⟩, by simp [intOf]⟩
end Go.Proofs.YtamcgggmfghljaaGreatDoor
