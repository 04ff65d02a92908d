/- Layer 41 (program): the closures of Decode (printed by tools/gen_rdc.py). -/
import Derived.Deep.Cut
import Derived.Laws.CopyOwn
import Derived.Test.YtamcgggmfghljaaGreatDoorB9
set_option maxRecDepth 100000
set_option maxHeartbeats 8000000
namespace Go.Proofs.YtamcgggmfghljaaGreatDoor
open Go.RowKit
theorem oneR_eq (r : Rd) : oneR r = (decide (wrapI (numR r).1 = 1), (numR r).2) := rfl
theorem placeR_len (r : Rd) : (placeR r).2.1.length ≤ r.1.length := Nat.le_trans (numR_len _) (numR_len r)
theorem cornR_len (r : Rd) : (cornR r).2.1.length ≤ r.1.length := Nat.le_trans (numR_len _) (Nat.le_trans (numR_len _) (Nat.le_trans (numR_len _) (numR_len r)))
theorem setsR_len (r : Rd) : (setsR r).2.1.length ≤ r.1.length := Nat.le_trans (numR_len _) (Nat.le_trans (numR_len _) (numR_len r))
theorem textR_len (r : Rd) : (textR r).2.1.length ≤ r.1.length := by
  have h1 := bytesR_len (intR r).1 (intR r).2
  have h2 : (intR r).2.1.length ≤ r.1.length := numR_len r
  unfold textR
  exact Nat.le_trans h1 h2
theorem entR_eq (r : Rd) : entR r = (⟨(placeR r).1, (textR (placeR r).2).1⟩, (textR (placeR r).2).2) := by simp only [entR]
theorem rc_ent (p c : Nat) (t : TypeId) (r : Rd) (W : World) (hc : Blk W c t #[.pointer (some ⟨p, 0, none⟩)]) (hcp : c ≠ p) (h : RdAt W p r) (hl : r.1.length ≤ 1000000) :
    Calls Tryz.prog 59 #[.pointer (some ⟨c, 0, none⟩)] W fun u W' => u = .returned (.agg (cEnt (entR r).1).toArray) ∧ RdTo p W W' (entR r).2 := by
  have hlt := h.lt
  have hlc := hc.lt
  have hne : W.heap.size ≠ p := by omega
  have K0 := Lib.hid ((Blk.new W 58 #[.int .i64 0, .int .i64 0, str []]).drew)
  have T0 := Lib.hid (((RdTo.refl h).alloc (.cells #[.int .i64 0, .int .i64 0, str []] 58)).drew)
  have B0 := Lib.hid ((hc.alloc (.cells #[.int .i64 0, .int .i64 0, str []] 58)).drew)
  have hr0 := Lib.hid hl
  clear h hl hc
  go_enter Tryz.func59, Tryz.ntmps59
  go_upto_region 1 with (fail)
  refine wp_region_noPanic ?_
  refine wp_region_U (fun W' => Blk W' c t #[.pointer (some ⟨p, 0, none⟩)]) 5 (by kernel_rfl) ?_
  have hHeld : (fun W' => Blk W' c t #[.pointer (some ⟨p, 0, none⟩)]) _ := B0.out
  refine wpAnyU_take 0 (oi := ⟨some 2, .load 95 (.tmp 0), 95, _, _, none⟩) (v := .pointer (some ⟨p, 0, none⟩)) rfl (by kernel_rfl) (by kernel_rfl) (by kernel_rfl) (by kernel_rfl) (by decide) (by kernel_rfl) (fun c d e h => NoPanic.put h) (Or.inl ⟨by rfl, by intro W hW; have hc : W.cell? ⟨c, 0, none⟩ = some (.pointer (some ⟨p, 0, none⟩)) := hW.cell 0; go_simp⟩) hHeld ?_
  try simp only [Act.put, List.setIfInBounds_toArray, List.set_cons_zero, List.set_cons_succ]
  refine wpAnyU_take 2 (oi := ⟨some 4, .load 95 (.tmp 0), 95, _, _, none⟩) (v := .pointer (some ⟨p, 0, none⟩)) rfl (by kernel_rfl) (by kernel_rfl) (by kernel_rfl) (by kernel_rfl) (by decide) (by kernel_rfl) (fun c d e h => NoPanic.put h) (Or.inl ⟨by rfl, by intro W hW; have hc : W.cell? ⟨c, 0, none⟩ = some (.pointer (some ⟨p, 0, none⟩)) := hW.cell 0; go_simp⟩) hHeld ?_
  try simp only [Act.put, List.setIfInBounds_toArray, List.set_cons_zero, List.set_cons_succ]
  refine wpAnyU_step 1 (o := ⟨some 3, .call { callee := .value (.func 60), args := #[.tmp 2], argTypes := #[95] }, 56, _, _, none⟩) (by kernel_rfl) rfl rfl (fun K hK => ?_)
  obtain ⟨q1, hq⟩ : ∃ q, placeR r = q := ⟨_, rfl⟩
  have hC := rd_place p r _ T0.out.blk hr0.out
  have hL := placeR_len r
  rw [hq] at hC hL
  have HQ1 := Lib.hid hq
  clear hq
  go_simp
  go_at_call 60
  refine hC.mono ?_
  rintro e W1 ⟨rfl, t1⟩
  have K1 := Lib.hid (t1.keep K0.out hne)
  have B1 := Lib.hid (t1.keep B0.out hcp)
  have T1 := Lib.hid (T0.out.trans t1)
  have hr1 := Lib.hid (Nat.le_trans hL hr0.out)
  clear t1 hC hL
  refine hK.out _ _ (fun _ => B1.out) ?_
  have hHeld : (fun W' => Blk W' c t #[.pointer (some ⟨p, 0, none⟩)]) _ := B1.out
  clear hK K
  try simp only [Act.put, List.setIfInBounds_toArray, List.set_cons_zero, List.set_cons_succ]
  refine wpAnyU_step 3 (o := ⟨some 5, .call { callee := .value (.func 61), args := #[.tmp 4], argTypes := #[95] }, 9, _, _, none⟩) (by kernel_rfl) rfl rfl (fun K hK => ?_)
  obtain ⟨q2, hq⟩ : ∃ q, textR q1.2 = q := ⟨_, rfl⟩
  have hC := rd_text p q1.2 _ T1.out.blk hr1.out
  have hL := textR_len q1.2
  rw [hq] at hC hL
  have HQ2 := Lib.hid hq
  clear hq
  go_simp
  go_at_call 61
  refine hC.mono ?_
  rintro e W2 ⟨rfl, t2⟩
  have K2 := Lib.hid (t2.keep K1.out hne)
  have B2 := Lib.hid (t2.keep B1.out hcp)
  have T2 := Lib.hid (T1.out.trans t2)
  have hr2 := Lib.hid (Nat.le_trans hL hr1.out)
  clear t2 hC hL
  refine hK.out _ _ (fun _ => B2.out) ?_
  have hHeld : (fun W' => Blk W' c t #[.pointer (some ⟨p, 0, none⟩)]) _ := B2.out
  clear hK K
  try simp only [Act.put, List.setIfInBounds_toArray, List.set_cons_zero, List.set_cons_succ]
  refine wpAnyU_take0 4 (oi := ⟨some 6, .build 58 #[(0, .tmp 3), (1, .tmp 5)], _, _, _, none⟩) (v := .agg #[.int .i64 q1.1.col, .int .i64 q1.1.row, str q2.1]) rfl (by kernel_rfl) (by kernel_rfl) (by kernel_rfl) (by decide) (fun c d e h => NoPanic.put h) (Or.inl ⟨by rfl, by intro W hW; go_simp⟩) (fun _ => hHeld) ?_
  try simp only [Act.put, List.setIfInBounds_toArray, List.set_cons_zero, List.set_cons_succ]
  have c0 : W2.cell? ⟨W.heap.size, 0, none⟩ = some (.int .i64 0) := K2.out.cell 0
  have f0 : W2.frozen? ⟨W.heap.size, 0, none⟩ = false := K2.out.frozen 0
  have c1 : W2.cell? ⟨W.heap.size, 1, none⟩ = some (.int .i64 0) := K2.out.cell 1
  have f1 : W2.frozen? ⟨W.heap.size, 1, none⟩ = false := K2.out.frozen 1
  have c2 : W2.cell? ⟨W.heap.size, 2, none⟩ = some (str []) := K2.out.cell 2
  have f2 : W2.frozen? ⟨W.heap.size, 2, none⟩ = false := K2.out.frozen 2
  refine wpAnyU_step 5 (o := ⟨none, .store 58 (.tmp 1) (.tmp 6), 0, _, _, none⟩) (by kernel_rfl) rfl rfl (fun K hK => ?_)
  go_simp
  refine hK.out _ _ (fun h => absurd h (by decide)) ?_
  clear hK K
  try simp only [Act.put, List.setIfInBounds_toArray, List.set_cons_zero, List.set_cons_succ]
  refine wpAnyU_done (by kernel_rfl) ?_
  refine NoPanic.normal ?_
  go_wp2
  have KF := Lib.hid (((K2.out.set_ 0 (.int .i64 q1.1.col)).set_ 1 (.int .i64 q1.1.row)).set_ 2 (str q2.1))
  have TF := Lib.hid (((T2.out.set (Nat.le_refl _) hne.symm 0 (.int .i64 q1.1.col)).set (Nat.le_refl _) hne.symm 1 (.int .i64 q1.1.row)).set (Nat.le_refl _) hne.symm 2 (str q2.1))
  have d0 := KF.out.cell 0
  have d1 := KF.out.cell 1
  have d2 := KF.out.cell 2
  refine bodyPost_ret (v := .agg #[.int .i64 q1.1.col, .int .i64 q1.1.row, str q2.1]) (by simp (maxDischargeDepth := 9) [results, Tryz.results59, go_sem, d0, d1, d2]) rfl ?_
  have TG := TF.out
  clear TF KF
  have HE := entR_eq r
  rw [HQ1.out, HQ2.out] at HE
  rw [HE]
  refine ⟨by simp only [cEnt], ?_⟩
  try simp only [str] at TG
  try simp only []
  try dsimp only
  exact TG
theorem rulR_eq (r : Rd) : rulR r = (⟨(cornR r).1, (setsR (cornR r).2).1⟩, (setsR (cornR r).2).2) := by simp only [rulR]
theorem rc_rul (p c : Nat) (t : TypeId) (r : Rd) (W : World) (hc : Blk W c t #[.pointer (some ⟨p, 0, none⟩)]) (hcp : c ≠ p) (h : RdAt W p r) (hl : r.1.length ≤ 1000000) :
    Calls Tryz.prog 63 #[.pointer (some ⟨c, 0, none⟩)] W fun u W' => u = .returned (.agg (cRul (rulR r).1).toArray) ∧ RdTo p W W' (rulR r).2 := by
  have hlt := h.lt
  have hlc := hc.lt
  have hne : W.heap.size ≠ p := by omega
  have K0 := Lib.hid ((Blk.new W 79 #[.int .i64 0, .int .i64 0, .int .i64 0, .int .i64 0, .int .u64 0, .int .u64 0, .int .u64 0]).drew)
  have T0 := Lib.hid (((RdTo.refl h).alloc (.cells #[.int .i64 0, .int .i64 0, .int .i64 0, .int .i64 0, .int .u64 0, .int .u64 0, .int .u64 0] 79)).drew)
  have B0 := Lib.hid ((hc.alloc (.cells #[.int .i64 0, .int .i64 0, .int .i64 0, .int .i64 0, .int .u64 0, .int .u64 0, .int .u64 0] 79)).drew)
  have hr0 := Lib.hid hl
  clear h hl hc
  go_enter Tryz.func63, Tryz.ntmps63
  go_upto_region 1 with (fail)
  refine wp_region_noPanic ?_
  refine wp_region_U (fun W' => Blk W' c t #[.pointer (some ⟨p, 0, none⟩)]) 5 (by kernel_rfl) ?_
  have hHeld : (fun W' => Blk W' c t #[.pointer (some ⟨p, 0, none⟩)]) _ := B0.out
  refine wpAnyU_take 0 (oi := ⟨some 2, .load 95 (.tmp 0), 95, _, _, none⟩) (v := .pointer (some ⟨p, 0, none⟩)) rfl (by kernel_rfl) (by kernel_rfl) (by kernel_rfl) (by kernel_rfl) (by decide) (by kernel_rfl) (fun c d e h => NoPanic.put h) (Or.inl ⟨by rfl, by intro W hW; have hc : W.cell? ⟨c, 0, none⟩ = some (.pointer (some ⟨p, 0, none⟩)) := hW.cell 0; go_simp⟩) hHeld ?_
  try simp only [Act.put, List.setIfInBounds_toArray, List.set_cons_zero, List.set_cons_succ]
  refine wpAnyU_take 2 (oi := ⟨some 4, .load 95 (.tmp 0), 95, _, _, none⟩) (v := .pointer (some ⟨p, 0, none⟩)) rfl (by kernel_rfl) (by kernel_rfl) (by kernel_rfl) (by kernel_rfl) (by decide) (by kernel_rfl) (fun c d e h => NoPanic.put h) (Or.inl ⟨by rfl, by intro W hW; have hc : W.cell? ⟨c, 0, none⟩ = some (.pointer (some ⟨p, 0, none⟩)) := hW.cell 0; go_simp⟩) hHeld ?_
  try simp only [Act.put, List.setIfInBounds_toArray, List.set_cons_zero, List.set_cons_succ]
  refine wpAnyU_step 1 (o := ⟨some 3, .call { callee := .value (.func 64), args := #[.tmp 2], argTypes := #[95] }, 43, _, _, none⟩) (by kernel_rfl) rfl rfl (fun K hK => ?_)
  obtain ⟨q1, hq⟩ : ∃ q, cornR r = q := ⟨_, rfl⟩
  have hC := rd_corners p r _ T0.out.blk hr0.out
  have hL := cornR_len r
  rw [hq] at hC hL
  have HQ1 := Lib.hid hq
  clear hq
  go_simp
  go_at_call 64
  refine hC.mono ?_
  rintro e W1 ⟨rfl, t1⟩
  have K1 := Lib.hid (t1.keep K0.out hne)
  have B1 := Lib.hid (t1.keep B0.out hcp)
  have T1 := Lib.hid (T0.out.trans t1)
  have hr1 := Lib.hid (Nat.le_trans hL hr0.out)
  clear t1 hC hL
  refine hK.out _ _ (fun _ => B1.out) ?_
  have hHeld : (fun W' => Blk W' c t #[.pointer (some ⟨p, 0, none⟩)]) _ := B1.out
  clear hK K
  try simp only [Act.put, List.setIfInBounds_toArray, List.set_cons_zero, List.set_cons_succ]
  refine wpAnyU_step 3 (o := ⟨some 5, .call { callee := .value (.func 65), args := #[.tmp 4], argTypes := #[95] }, 46, _, _, none⟩) (by kernel_rfl) rfl rfl (fun K hK => ?_)
  obtain ⟨q2, hq⟩ : ∃ q, setsR q1.2 = q := ⟨_, rfl⟩
  have hC := rd_sets p q1.2 _ T1.out.blk hr1.out
  have hL := setsR_len q1.2
  rw [hq] at hC hL
  have HQ2 := Lib.hid hq
  clear hq
  go_simp
  go_at_call 65
  refine hC.mono ?_
  rintro e W2 ⟨rfl, t2⟩
  have K2 := Lib.hid (t2.keep K1.out hne)
  have B2 := Lib.hid (t2.keep B1.out hcp)
  have T2 := Lib.hid (T1.out.trans t2)
  have hr2 := Lib.hid (Nat.le_trans hL hr1.out)
  clear t2 hC hL
  refine hK.out _ _ (fun _ => B2.out) ?_
  have hHeld : (fun W' => Blk W' c t #[.pointer (some ⟨p, 0, none⟩)]) _ := B2.out
  clear hK K
  try simp only [Act.put, List.setIfInBounds_toArray, List.set_cons_zero, List.set_cons_succ]
  refine wpAnyU_take0 4 (oi := ⟨some 6, .build 79 #[(0, .tmp 3), (1, .tmp 5)], _, _, _, none⟩) (v := .agg #[.int .i64 q1.1.c1, .int .i64 q1.1.r1, .int .i64 q1.1.c2, .int .i64 q1.1.r2, .int .u64 q2.1.rd, .int .u64 q2.1.wr, .int .u64 q2.1.ow]) rfl (by kernel_rfl) (by kernel_rfl) (by kernel_rfl) (by decide) (fun c d e h => NoPanic.put h) (Or.inl ⟨by rfl, by intro W hW; go_simp⟩) (fun _ => hHeld) ?_
  try simp only [Act.put, List.setIfInBounds_toArray, List.set_cons_zero, List.set_cons_succ]
  have c0 : W2.cell? ⟨W.heap.size, 0, none⟩ = some (.int .i64 0) := K2.out.cell 0
  have f0 : W2.frozen? ⟨W.heap.size, 0, none⟩ = false := K2.out.frozen 0
  have c1 : W2.cell? ⟨W.heap.size, 1, none⟩ = some (.int .i64 0) := K2.out.cell 1
  have f1 : W2.frozen? ⟨W.heap.size, 1, none⟩ = false := K2.out.frozen 1
  have c2 : W2.cell? ⟨W.heap.size, 2, none⟩ = some (.int .i64 0) := K2.out.cell 2
  have f2 : W2.frozen? ⟨W.heap.size, 2, none⟩ = false := K2.out.frozen 2
  have c3 : W2.cell? ⟨W.heap.size, 3, none⟩ = some (.int .i64 0) := K2.out.cell 3
  have f3 : W2.frozen? ⟨W.heap.size, 3, none⟩ = false := K2.out.frozen 3
  have c4 : W2.cell? ⟨W.heap.size, 4, none⟩ = some (.int .u64 0) := K2.out.cell 4
  have f4 : W2.frozen? ⟨W.heap.size, 4, none⟩ = false := K2.out.frozen 4
  have c5 : W2.cell? ⟨W.heap.size, 5, none⟩ = some (.int .u64 0) := K2.out.cell 5
  have f5 : W2.frozen? ⟨W.heap.size, 5, none⟩ = false := K2.out.frozen 5
  have c6 : W2.cell? ⟨W.heap.size, 6, none⟩ = some (.int .u64 0) := K2.out.cell 6
  have f6 : W2.frozen? ⟨W.heap.size, 6, none⟩ = false := K2.out.frozen 6
  refine wpAnyU_step 5 (o := ⟨none, .store 79 (.tmp 1) (.tmp 6), 0, _, _, none⟩) (by kernel_rfl) rfl rfl (fun K hK => ?_)
  go_simp
  refine hK.out _ _ (fun h => absurd h (by decide)) ?_
  clear hK K
  try simp only [Act.put, List.setIfInBounds_toArray, List.set_cons_zero, List.set_cons_succ]
  refine wpAnyU_done (by kernel_rfl) ?_
  refine NoPanic.normal ?_
  go_wp2
  have KF := Lib.hid (((((((K2.out.set_ 0 (.int .i64 q1.1.c1)).set_ 1 (.int .i64 q1.1.r1)).set_ 2 (.int .i64 q1.1.c2)).set_ 3 (.int .i64 q1.1.r2)).set_ 4 (.int .u64 q2.1.rd)).set_ 5 (.int .u64 q2.1.wr)).set_ 6 (.int .u64 q2.1.ow))
  have TF := Lib.hid (((((((T2.out.set (Nat.le_refl _) hne.symm 0 (.int .i64 q1.1.c1)).set (Nat.le_refl _) hne.symm 1 (.int .i64 q1.1.r1)).set (Nat.le_refl _) hne.symm 2 (.int .i64 q1.1.c2)).set (Nat.le_refl _) hne.symm 3 (.int .i64 q1.1.r2)).set (Nat.le_refl _) hne.symm 4 (.int .u64 q2.1.rd)).set (Nat.le_refl _) hne.symm 5 (.int .u64 q2.1.wr)).set (Nat.le_refl _) hne.symm 6 (.int .u64 q2.1.ow))
  have d0 := KF.out.cell 0
  have d1 := KF.out.cell 1
  have d2 := KF.out.cell 2
  have d3 := KF.out.cell 3
  have d4 := KF.out.cell 4
  have d5 := KF.out.cell 5
  have d6 := KF.out.cell 6
  refine bodyPost_ret (v := .agg #[.int .i64 q1.1.c1, .int .i64 q1.1.r1, .int .i64 q1.1.c2, .int .i64 q1.1.r2, .int .u64 q2.1.rd, .int .u64 q2.1.wr, .int .u64 q2.1.ow]) (by simp (maxDischargeDepth := 9) [results, Tryz.results63, go_sem, d0, d1, d2, d3, d4, d5, d6]) rfl ?_
  have TG := TF.out
  clear TF KF
  have HE := rulR_eq r
  rw [HQ1.out, HQ2.out] at HE
  rw [HE]
  refine ⟨by simp only [cRul], ?_⟩
  try simp only [str] at TG
  try simp only []
  try dsimp only
  exact TG
theorem grtR_eq (r : Rd) : grtR r = (⟨(cornR r).1, ((numR (cornR r).2).1 % 256 : Nat), ((numR (numR (cornR r).2).2).1 : Nat), (wrapI (numR (numR (numR (cornR r).2).2).2).1), decide ((wrapI (numR (numR (numR (numR (cornR r).2).2).2).2).1) = 1)⟩, (numR (numR (numR (numR (cornR r).2).2).2).2).2) := by simp only [grtR, oneR_eq, u8R, u64R, intR]
theorem rc_grt (p c : Nat) (t : TypeId) (r : Rd) (W : World) (hc : Blk W c t #[.pointer (some ⟨p, 0, none⟩)]) (hcp : c ≠ p) (h : RdAt W p r) (hl : r.1.length ≤ 1000000) :
    Calls Tryz.prog 67 #[.pointer (some ⟨c, 0, none⟩)] W fun u W' => u = .returned (.agg (cGrt (grtR r).1).toArray) ∧ RdTo p W W' (grtR r).2 := by
  have hlt := h.lt
  have hlc := hc.lt
  have hne : W.heap.size ≠ p := by omega
  have K0 := Lib.hid ((Blk.new W 85 #[.int .i64 0, .int .i64 0, .int .i64 0, .int .i64 0, .int .u8 0, .int .u64 0, .int .i64 0, .bool false]).drew)
  have T0 := Lib.hid (((RdTo.refl h).alloc (.cells #[.int .i64 0, .int .i64 0, .int .i64 0, .int .i64 0, .int .u8 0, .int .u64 0, .int .i64 0, .bool false] 85)).drew)
  have B0 := Lib.hid ((hc.alloc (.cells #[.int .i64 0, .int .i64 0, .int .i64 0, .int .i64 0, .int .u8 0, .int .u64 0, .int .i64 0, .bool false] 85)).drew)
  have hr0 := Lib.hid hl
  clear h hl hc
  go_enter Tryz.func67, Tryz.ntmps67
  go_upto_region 1 with (fail)
  refine wp_region_noPanic ?_
  refine wp_region_U (fun W' => Blk W' c t #[.pointer (some ⟨p, 0, none⟩)]) 12 (by kernel_rfl) ?_
  have hHeld : (fun W' => Blk W' c t #[.pointer (some ⟨p, 0, none⟩)]) _ := B0.out
  refine wpAnyU_take 0 (oi := ⟨some 2, .load 95 (.tmp 0), 95, _, _, none⟩) (v := .pointer (some ⟨p, 0, none⟩)) rfl (by kernel_rfl) (by kernel_rfl) (by kernel_rfl) (by kernel_rfl) (by decide) (by kernel_rfl) (fun c d e h => NoPanic.put h) (Or.inl ⟨by rfl, by intro W hW; have hc : W.cell? ⟨c, 0, none⟩ = some (.pointer (some ⟨p, 0, none⟩)) := hW.cell 0; go_simp⟩) hHeld ?_
  try simp only [Act.put, List.setIfInBounds_toArray, List.set_cons_zero, List.set_cons_succ]
  refine wpAnyU_take 2 (oi := ⟨some 4, .load 95 (.tmp 0), 95, _, _, none⟩) (v := .pointer (some ⟨p, 0, none⟩)) rfl (by kernel_rfl) (by kernel_rfl) (by kernel_rfl) (by kernel_rfl) (by decide) (by kernel_rfl) (fun c d e h => NoPanic.put h) (Or.inl ⟨by rfl, by intro W hW; have hc : W.cell? ⟨c, 0, none⟩ = some (.pointer (some ⟨p, 0, none⟩)) := hW.cell 0; go_simp⟩) hHeld ?_
  try simp only [Act.put, List.setIfInBounds_toArray, List.set_cons_zero, List.set_cons_succ]
  refine wpAnyU_take 4 (oi := ⟨some 6, .load 95 (.tmp 0), 95, _, _, none⟩) (v := .pointer (some ⟨p, 0, none⟩)) rfl (by kernel_rfl) (by kernel_rfl) (by kernel_rfl) (by kernel_rfl) (by decide) (by kernel_rfl) (fun c d e h => NoPanic.put h) (Or.inl ⟨by rfl, by intro W hW; have hc : W.cell? ⟨c, 0, none⟩ = some (.pointer (some ⟨p, 0, none⟩)) := hW.cell 0; go_simp⟩) hHeld ?_
  try simp only [Act.put, List.setIfInBounds_toArray, List.set_cons_zero, List.set_cons_succ]
  refine wpAnyU_take 6 (oi := ⟨some 8, .load 95 (.tmp 0), 95, _, _, none⟩) (v := .pointer (some ⟨p, 0, none⟩)) rfl (by kernel_rfl) (by kernel_rfl) (by kernel_rfl) (by kernel_rfl) (by decide) (by kernel_rfl) (fun c d e h => NoPanic.put h) (Or.inl ⟨by rfl, by intro W hW; have hc : W.cell? ⟨c, 0, none⟩ = some (.pointer (some ⟨p, 0, none⟩)) := hW.cell 0; go_simp⟩) hHeld ?_
  try simp only [Act.put, List.setIfInBounds_toArray, List.set_cons_zero, List.set_cons_succ]
  refine wpAnyU_take 8 (oi := ⟨some 10, .load 95 (.tmp 0), 95, _, _, none⟩) (v := .pointer (some ⟨p, 0, none⟩)) rfl (by kernel_rfl) (by kernel_rfl) (by kernel_rfl) (by kernel_rfl) (by decide) (by kernel_rfl) (fun c d e h => NoPanic.put h) (Or.inl ⟨by rfl, by intro W hW; have hc : W.cell? ⟨c, 0, none⟩ = some (.pointer (some ⟨p, 0, none⟩)) := hW.cell 0; go_simp⟩) hHeld ?_
  try simp only [Act.put, List.setIfInBounds_toArray, List.set_cons_zero, List.set_cons_succ]
  refine wpAnyU_step 1 (o := ⟨some 3, .call { callee := .value (.func 64), args := #[.tmp 2], argTypes := #[95] }, 43, _, _, none⟩) (by kernel_rfl) rfl rfl (fun K hK => ?_)
  obtain ⟨q1, hq⟩ : ∃ q, cornR r = q := ⟨_, rfl⟩
  have hC := rd_corners p r _ T0.out.blk hr0.out
  have hL := cornR_len r
  rw [hq] at hC hL
  have HQ1 := Lib.hid hq
  clear hq
  go_simp
  go_at_call 64
  refine hC.mono ?_
  rintro e W1 ⟨rfl, t1⟩
  have K1 := Lib.hid (t1.keep K0.out hne)
  have B1 := Lib.hid (t1.keep B0.out hcp)
  have T1 := Lib.hid (T0.out.trans t1)
  have hr1 := Lib.hid (Nat.le_trans hL hr0.out)
  clear t1 hC hL
  refine hK.out _ _ (fun _ => B1.out) ?_
  have hHeld : (fun W' => Blk W' c t #[.pointer (some ⟨p, 0, none⟩)]) _ := B1.out
  clear hK K
  try simp only [Act.put, List.setIfInBounds_toArray, List.set_cons_zero, List.set_cons_succ]
  refine wpAnyU_step 3 (o := ⟨some 5, .call { callee := .value (.func 68), args := #[.tmp 4], argTypes := #[95] }, 5, _, _, none⟩) (by kernel_rfl) rfl rfl (fun K hK => ?_)
  obtain ⟨q2, hq⟩ : ∃ q, numR q1.2 = q := ⟨_, rfl⟩
  have hC := rd_u8 p q1.2 _ T1.out.blk hr1.out
  have hL := numR_len q1.2
  rw [hq] at hC hL
  have HQ2 := Lib.hid hq
  clear hq
  go_simp
  go_at_call 68
  refine hC.mono ?_
  rintro e W2 ⟨rfl, t2⟩
  have K2 := Lib.hid (t2.keep K1.out hne)
  have B2 := Lib.hid (t2.keep B1.out hcp)
  have T2 := Lib.hid (T1.out.trans t2)
  have hr2 := Lib.hid (Nat.le_trans hL hr1.out)
  clear t2 hC hL
  generalize hx2 : ((q2.1 % 256 : Nat) : Int) = x2
  have HX2 := Lib.hid hx2
  clear hx2
  refine hK.out _ _ (fun _ => B2.out) ?_
  have hHeld : (fun W' => Blk W' c t #[.pointer (some ⟨p, 0, none⟩)]) _ := B2.out
  clear hK K
  try simp only [Act.put, List.setIfInBounds_toArray, List.set_cons_zero, List.set_cons_succ]
  refine wpAnyU_step 5 (o := ⟨some 7, .call { callee := .value (.func 69), args := #[.tmp 6], argTypes := #[95] }, 44, _, _, none⟩) (by kernel_rfl) rfl rfl (fun K hK => ?_)
  obtain ⟨q3, hq⟩ : ∃ q, numR q2.2 = q := ⟨_, rfl⟩
  have hC := rd_u64 p q2.2 _ T2.out.blk hr2.out
  have hL := numR_len q2.2
  rw [hq] at hC hL
  have HQ3 := Lib.hid hq
  clear hq
  go_simp
  go_at_call 69
  refine hC.mono ?_
  rintro e W3 ⟨rfl, t3⟩
  have K3 := Lib.hid (t3.keep K2.out hne)
  have B3 := Lib.hid (t3.keep B2.out hcp)
  have T3 := Lib.hid (T2.out.trans t3)
  have hr3 := Lib.hid (Nat.le_trans hL hr2.out)
  clear t3 hC hL
  generalize hx3 : ((q3.1 : Nat) : Int) = x3
  have HX3 := Lib.hid hx3
  clear hx3
  refine hK.out _ _ (fun _ => B3.out) ?_
  have hHeld : (fun W' => Blk W' c t #[.pointer (some ⟨p, 0, none⟩)]) _ := B3.out
  clear hK K
  try simp only [Act.put, List.setIfInBounds_toArray, List.set_cons_zero, List.set_cons_succ]
  refine wpAnyU_step 7 (o := ⟨some 9, .call { callee := .value (.func 57), args := #[.tmp 8], argTypes := #[95] }, 3, _, _, none⟩) (by kernel_rfl) rfl rfl (fun K hK => ?_)
  obtain ⟨q4, hq⟩ : ∃ q, numR q3.2 = q := ⟨_, rfl⟩
  have hC := rd_int p q3.2 _ T3.out.blk hr3.out
  have hL := numR_len q3.2
  rw [hq] at hC hL
  have HQ4 := Lib.hid hq
  clear hq
  go_simp
  go_at_call 57
  refine hC.mono ?_
  rintro e W4 ⟨rfl, t4⟩
  have K4 := Lib.hid (t4.keep K3.out hne)
  have B4 := Lib.hid (t4.keep B3.out hcp)
  have T4 := Lib.hid (T3.out.trans t4)
  have hr4 := Lib.hid (Nat.le_trans hL hr3.out)
  clear t4 hC hL
  generalize hx4 : ((wrapI q4.1) : Int) = x4
  have HX4 := Lib.hid hx4
  clear hx4
  refine hK.out _ _ (fun _ => B4.out) ?_
  have hHeld : (fun W' => Blk W' c t #[.pointer (some ⟨p, 0, none⟩)]) _ := B4.out
  clear hK K
  try simp only [Act.put, List.setIfInBounds_toArray, List.set_cons_zero, List.set_cons_succ]
  refine wpAnyU_step 9 (o := ⟨some 11, .call { callee := .value (.func 57), args := #[.tmp 10], argTypes := #[95] }, 3, _, _, none⟩) (by kernel_rfl) rfl rfl (fun K hK => ?_)
  obtain ⟨q5, hq⟩ : ∃ q, numR q4.2 = q := ⟨_, rfl⟩
  have hC := rd_int p q4.2 _ T4.out.blk hr4.out
  have hL := numR_len q4.2
  rw [hq] at hC hL
  have HQ5 := Lib.hid hq
  clear hq
  go_simp
  go_at_call 57
  refine hC.mono ?_
  rintro e W5 ⟨rfl, t5⟩
  have K5 := Lib.hid (t5.keep K4.out hne)
  have B5 := Lib.hid (t5.keep B4.out hcp)
  have T5 := Lib.hid (T4.out.trans t5)
  have hr5 := Lib.hid (Nat.le_trans hL hr4.out)
  clear t5 hC hL
  generalize hx5 : ((wrapI q5.1) : Int) = x5
  have HX5 := Lib.hid hx5
  clear hx5
  refine hK.out _ _ (fun _ => B5.out) ?_
  have hHeld : (fun W' => Blk W' c t #[.pointer (some ⟨p, 0, none⟩)]) _ := B5.out
  clear hK K
  try simp only [Act.put, List.setIfInBounds_toArray, List.set_cons_zero, List.set_cons_succ]
  obtain ⟨b5, hb5⟩ : ∃ b, decide (x5 = 1) = b := ⟨_, rfl⟩
  have hb5' : (x5 == 1) = b5 := hb5
  refine wpAnyU_take0 10 (oi := ⟨some 12, .binOp .eql 3 (.tmp 11) (.const (.int .i64 1)) 3, _, _, _, none⟩) (v := .bool b5) rfl (by kernel_rfl) (by kernel_rfl) (by kernel_rfl) (by decide) (fun c d e h => NoPanic.put h) (Or.inl ⟨by rfl, by intro W hW; go_simp⟩) (fun _ => hHeld) ?_
  try simp only [Act.put, List.setIfInBounds_toArray, List.set_cons_zero, List.set_cons_succ]
  refine wpAnyU_take0 11 (oi := ⟨some 13, .build 85 #[(0, .tmp 3), (1, .tmp 5), (2, .tmp 7), (3, .tmp 9), (4, .tmp 12)], _, _, _, none⟩) (v := .agg #[.int .i64 q1.1.c1, .int .i64 q1.1.r1, .int .i64 q1.1.c2, .int .i64 q1.1.r2, .int .u8 x2, .int .u64 x3, .int .i64 x4, .bool b5]) rfl (by kernel_rfl) (by kernel_rfl) (by kernel_rfl) (by decide) (fun c d e h => NoPanic.put h) (Or.inl ⟨by rfl, by intro W hW; go_simp⟩) (fun _ => hHeld) ?_
  try simp only [Act.put, List.setIfInBounds_toArray, List.set_cons_zero, List.set_cons_succ]
  have c0 : W5.cell? ⟨W.heap.size, 0, none⟩ = some (.int .i64 0) := K5.out.cell 0
  have f0 : W5.frozen? ⟨W.heap.size, 0, none⟩ = false := K5.out.frozen 0
  have c1 : W5.cell? ⟨W.heap.size, 1, none⟩ = some (.int .i64 0) := K5.out.cell 1
  have f1 : W5.frozen? ⟨W.heap.size, 1, none⟩ = false := K5.out.frozen 1
  have c2 : W5.cell? ⟨W.heap.size, 2, none⟩ = some (.int .i64 0) := K5.out.cell 2
  have f2 : W5.frozen? ⟨W.heap.size, 2, none⟩ = false := K5.out.frozen 2
  have c3 : W5.cell? ⟨W.heap.size, 3, none⟩ = some (.int .i64 0) := K5.out.cell 3
  have f3 : W5.frozen? ⟨W.heap.size, 3, none⟩ = false := K5.out.frozen 3
  have c4 : W5.cell? ⟨W.heap.size, 4, none⟩ = some (.int .u8 0) := K5.out.cell 4
  have f4 : W5.frozen? ⟨W.heap.size, 4, none⟩ = false := K5.out.frozen 4
  have c5 : W5.cell? ⟨W.heap.size, 5, none⟩ = some (.int .u64 0) := K5.out.cell 5
  have f5 : W5.frozen? ⟨W.heap.size, 5, none⟩ = false := K5.out.frozen 5
  have c6 : W5.cell? ⟨W.heap.size, 6, none⟩ = some (.int .i64 0) := K5.out.cell 6
  have f6 : W5.frozen? ⟨W.heap.size, 6, none⟩ = false := K5.out.frozen 6
  have c7 : W5.cell? ⟨W.heap.size, 7, none⟩ = some (.bool false) := K5.out.cell 7
  have f7 : W5.frozen? ⟨W.heap.size, 7, none⟩ = false := K5.out.frozen 7
  refine wpAnyU_step 12 (o := ⟨none, .store 85 (.tmp 1) (.tmp 13), 0, _, _, none⟩) (by kernel_rfl) rfl rfl (fun K hK => ?_)
  go_simp
  refine hK.out _ _ (fun h => absurd h (by decide)) ?_
  clear hK K
  try simp only [Act.put, List.setIfInBounds_toArray, List.set_cons_zero, List.set_cons_succ]
  refine wpAnyU_done (by kernel_rfl) ?_
  refine NoPanic.normal ?_
  go_wp2
  have KF := Lib.hid ((((((((K5.out.set_ 0 (.int .i64 q1.1.c1)).set_ 1 (.int .i64 q1.1.r1)).set_ 2 (.int .i64 q1.1.c2)).set_ 3 (.int .i64 q1.1.r2)).set_ 4 (.int .u8 x2)).set_ 5 (.int .u64 x3)).set_ 6 (.int .i64 x4)).set_ 7 (.bool b5))
  have TF := Lib.hid ((((((((T5.out.set (Nat.le_refl _) hne.symm 0 (.int .i64 q1.1.c1)).set (Nat.le_refl _) hne.symm 1 (.int .i64 q1.1.r1)).set (Nat.le_refl _) hne.symm 2 (.int .i64 q1.1.c2)).set (Nat.le_refl _) hne.symm 3 (.int .i64 q1.1.r2)).set (Nat.le_refl _) hne.symm 4 (.int .u8 x2)).set (Nat.le_refl _) hne.symm 5 (.int .u64 x3)).set (Nat.le_refl _) hne.symm 6 (.int .i64 x4)).set (Nat.le_refl _) hne.symm 7 (.bool b5))
  have d0 := KF.out.cell 0
  have d1 := KF.out.cell 1
  have d2 := KF.out.cell 2
  have d3 := KF.out.cell 3
  have d4 := KF.out.cell 4
  have d5 := KF.out.cell 5
  have d6 := KF.out.cell 6
  have d7 := KF.out.cell 7
  refine bodyPost_ret (v := .agg #[.int .i64 q1.1.c1, .int .i64 q1.1.r1, .int .i64 q1.1.c2, .int .i64 q1.1.r2, .int .u8 x2, .int .u64 x3, .int .i64 x4, .bool b5]) (by simp (maxDischargeDepth := 9) [results, Tryz.results67, go_sem, d0, d1, d2, d3, d4, d5, d6, d7]) rfl ?_
  have TG := TF.out
  clear TF KF
  have HE := grtR_eq r
  rw [HQ1.out, HQ2.out, HX2.out, HQ3.out, HX3.out, HQ4.out, HX4.out, HQ5.out, HX5.out, hb5] at HE
  rw [HE]
  refine ⟨by simp only [cGrt], ?_⟩
  try simp only [str] at TG
  try simp only []
  try dsimp only
  exact TG
theorem evtR_eq (r : Rd) : evtR r = (⟨(wrapI (numR r).1), (wrapI (numR (numR r).2).1), ((numR (numR (numR r).2).2).1 % 256 : Nat), (cornR (numR (numR (numR r).2).2).2).1, decide ((wrapI (numR (cornR (numR (numR (numR r).2).2).2).2).1) = 1), ((numR (numR (cornR (numR (numR (numR r).2).2).2).2).2).1 : Nat)⟩, (numR (numR (cornR (numR (numR (numR r).2).2).2).2).2).2) := by simp only [evtR, oneR_eq, u8R, u64R, intR]
theorem rc_evt (p c : Nat) (t : TypeId) (r : Rd) (W : World) (hc : Blk W c t #[.pointer (some ⟨p, 0, none⟩)]) (hcp : c ≠ p) (h : RdAt W p r) (hl : r.1.length ≤ 1000000) :
    Calls Tryz.prog 71 #[.pointer (some ⟨c, 0, none⟩)] W fun u W' => u = .returned (.agg (cEvt (evtR r).1).toArray) ∧ RdTo p W W' (evtR r).2 := by
  have hlt := h.lt
  have hlc := hc.lt
  have hne : W.heap.size ≠ p := by omega
  have K0 := Lib.hid ((Blk.new W 110 #[.int .i64 0, .int .i64 0, .int .u8 0, .int .i64 0, .int .i64 0, .int .i64 0, .int .i64 0, .bool false, .int .u64 0]).drew)
  have T0 := Lib.hid (((RdTo.refl h).alloc (.cells #[.int .i64 0, .int .i64 0, .int .u8 0, .int .i64 0, .int .i64 0, .int .i64 0, .int .i64 0, .bool false, .int .u64 0] 110)).drew)
  have B0 := Lib.hid ((hc.alloc (.cells #[.int .i64 0, .int .i64 0, .int .u8 0, .int .i64 0, .int .i64 0, .int .i64 0, .int .i64 0, .bool false, .int .u64 0] 110)).drew)
  have hr0 := Lib.hid hl
  clear h hl hc
  go_enter Tryz.func71, Tryz.ntmps71
  go_upto_region 1 with (fail)
  refine wp_region_noPanic ?_
  refine wp_region_U (fun W' => Blk W' c t #[.pointer (some ⟨p, 0, none⟩)]) 14 (by kernel_rfl) ?_
  have hHeld : (fun W' => Blk W' c t #[.pointer (some ⟨p, 0, none⟩)]) _ := B0.out
  refine wpAnyU_take 0 (oi := ⟨some 2, .load 95 (.tmp 0), 95, _, _, none⟩) (v := .pointer (some ⟨p, 0, none⟩)) rfl (by kernel_rfl) (by kernel_rfl) (by kernel_rfl) (by kernel_rfl) (by decide) (by kernel_rfl) (fun c d e h => NoPanic.put h) (Or.inl ⟨by rfl, by intro W hW; have hc : W.cell? ⟨c, 0, none⟩ = some (.pointer (some ⟨p, 0, none⟩)) := hW.cell 0; go_simp⟩) hHeld ?_
  try simp only [Act.put, List.setIfInBounds_toArray, List.set_cons_zero, List.set_cons_succ]
  refine wpAnyU_take 2 (oi := ⟨some 4, .load 95 (.tmp 0), 95, _, _, none⟩) (v := .pointer (some ⟨p, 0, none⟩)) rfl (by kernel_rfl) (by kernel_rfl) (by kernel_rfl) (by kernel_rfl) (by decide) (by kernel_rfl) (fun c d e h => NoPanic.put h) (Or.inl ⟨by rfl, by intro W hW; have hc : W.cell? ⟨c, 0, none⟩ = some (.pointer (some ⟨p, 0, none⟩)) := hW.cell 0; go_simp⟩) hHeld ?_
  try simp only [Act.put, List.setIfInBounds_toArray, List.set_cons_zero, List.set_cons_succ]
  refine wpAnyU_take 4 (oi := ⟨some 6, .load 95 (.tmp 0), 95, _, _, none⟩) (v := .pointer (some ⟨p, 0, none⟩)) rfl (by kernel_rfl) (by kernel_rfl) (by kernel_rfl) (by kernel_rfl) (by decide) (by kernel_rfl) (fun c d e h => NoPanic.put h) (Or.inl ⟨by rfl, by intro W hW; have hc : W.cell? ⟨c, 0, none⟩ = some (.pointer (some ⟨p, 0, none⟩)) := hW.cell 0; go_simp⟩) hHeld ?_
  try simp only [Act.put, List.setIfInBounds_toArray, List.set_cons_zero, List.set_cons_succ]
  refine wpAnyU_take 6 (oi := ⟨some 8, .load 95 (.tmp 0), 95, _, _, none⟩) (v := .pointer (some ⟨p, 0, none⟩)) rfl (by kernel_rfl) (by kernel_rfl) (by kernel_rfl) (by kernel_rfl) (by decide) (by kernel_rfl) (fun c d e h => NoPanic.put h) (Or.inl ⟨by rfl, by intro W hW; have hc : W.cell? ⟨c, 0, none⟩ = some (.pointer (some ⟨p, 0, none⟩)) := hW.cell 0; go_simp⟩) hHeld ?_
  try simp only [Act.put, List.setIfInBounds_toArray, List.set_cons_zero, List.set_cons_succ]
  refine wpAnyU_take 8 (oi := ⟨some 10, .load 95 (.tmp 0), 95, _, _, none⟩) (v := .pointer (some ⟨p, 0, none⟩)) rfl (by kernel_rfl) (by kernel_rfl) (by kernel_rfl) (by kernel_rfl) (by decide) (by kernel_rfl) (fun c d e h => NoPanic.put h) (Or.inl ⟨by rfl, by intro W hW; have hc : W.cell? ⟨c, 0, none⟩ = some (.pointer (some ⟨p, 0, none⟩)) := hW.cell 0; go_simp⟩) hHeld ?_
  try simp only [Act.put, List.setIfInBounds_toArray, List.set_cons_zero, List.set_cons_succ]
  refine wpAnyU_take 11 (oi := ⟨some 13, .load 95 (.tmp 0), 95, _, _, none⟩) (v := .pointer (some ⟨p, 0, none⟩)) rfl (by kernel_rfl) (by kernel_rfl) (by kernel_rfl) (by kernel_rfl) (by decide) (by kernel_rfl) (fun c d e h => NoPanic.put h) (Or.inl ⟨by rfl, by intro W hW; have hc : W.cell? ⟨c, 0, none⟩ = some (.pointer (some ⟨p, 0, none⟩)) := hW.cell 0; go_simp⟩) hHeld ?_
  try simp only [Act.put, List.setIfInBounds_toArray, List.set_cons_zero, List.set_cons_succ]
  refine wpAnyU_step 1 (o := ⟨some 3, .call { callee := .value (.func 57), args := #[.tmp 2], argTypes := #[95] }, 3, _, _, none⟩) (by kernel_rfl) rfl rfl (fun K hK => ?_)
  obtain ⟨q1, hq⟩ : ∃ q, numR r = q := ⟨_, rfl⟩
  have hC := rd_int p r _ T0.out.blk hr0.out
  have hL := numR_len r
  rw [hq] at hC hL
  have HQ1 := Lib.hid hq
  clear hq
  go_simp
  go_at_call 57
  refine hC.mono ?_
  rintro e W1 ⟨rfl, t1⟩
  have K1 := Lib.hid (t1.keep K0.out hne)
  have B1 := Lib.hid (t1.keep B0.out hcp)
  have T1 := Lib.hid (T0.out.trans t1)
  have hr1 := Lib.hid (Nat.le_trans hL hr0.out)
  clear t1 hC hL
  generalize hx1 : ((wrapI q1.1) : Int) = x1
  have HX1 := Lib.hid hx1
  clear hx1
  refine hK.out _ _ (fun _ => B1.out) ?_
  have hHeld : (fun W' => Blk W' c t #[.pointer (some ⟨p, 0, none⟩)]) _ := B1.out
  clear hK K
  try simp only [Act.put, List.setIfInBounds_toArray, List.set_cons_zero, List.set_cons_succ]
  refine wpAnyU_step 3 (o := ⟨some 5, .call { callee := .value (.func 57), args := #[.tmp 4], argTypes := #[95] }, 3, _, _, none⟩) (by kernel_rfl) rfl rfl (fun K hK => ?_)
  obtain ⟨q2, hq⟩ : ∃ q, numR q1.2 = q := ⟨_, rfl⟩
  have hC := rd_int p q1.2 _ T1.out.blk hr1.out
  have hL := numR_len q1.2
  rw [hq] at hC hL
  have HQ2 := Lib.hid hq
  clear hq
  go_simp
  go_at_call 57
  refine hC.mono ?_
  rintro e W2 ⟨rfl, t2⟩
  have K2 := Lib.hid (t2.keep K1.out hne)
  have B2 := Lib.hid (t2.keep B1.out hcp)
  have T2 := Lib.hid (T1.out.trans t2)
  have hr2 := Lib.hid (Nat.le_trans hL hr1.out)
  clear t2 hC hL
  generalize hx2 : ((wrapI q2.1) : Int) = x2
  have HX2 := Lib.hid hx2
  clear hx2
  refine hK.out _ _ (fun _ => B2.out) ?_
  have hHeld : (fun W' => Blk W' c t #[.pointer (some ⟨p, 0, none⟩)]) _ := B2.out
  clear hK K
  try simp only [Act.put, List.setIfInBounds_toArray, List.set_cons_zero, List.set_cons_succ]
  refine wpAnyU_step 5 (o := ⟨some 7, .call { callee := .value (.func 68), args := #[.tmp 6], argTypes := #[95] }, 5, _, _, none⟩) (by kernel_rfl) rfl rfl (fun K hK => ?_)
  obtain ⟨q3, hq⟩ : ∃ q, numR q2.2 = q := ⟨_, rfl⟩
  have hC := rd_u8 p q2.2 _ T2.out.blk hr2.out
  have hL := numR_len q2.2
  rw [hq] at hC hL
  have HQ3 := Lib.hid hq
  clear hq
  go_simp
  go_at_call 68
  refine hC.mono ?_
  rintro e W3 ⟨rfl, t3⟩
  have K3 := Lib.hid (t3.keep K2.out hne)
  have B3 := Lib.hid (t3.keep B2.out hcp)
  have T3 := Lib.hid (T2.out.trans t3)
  have hr3 := Lib.hid (Nat.le_trans hL hr2.out)
  clear t3 hC hL
  generalize hx3 : ((q3.1 % 256 : Nat) : Int) = x3
  have HX3 := Lib.hid hx3
  clear hx3
  refine hK.out _ _ (fun _ => B3.out) ?_
  have hHeld : (fun W' => Blk W' c t #[.pointer (some ⟨p, 0, none⟩)]) _ := B3.out
  clear hK K
  try simp only [Act.put, List.setIfInBounds_toArray, List.set_cons_zero, List.set_cons_succ]
  refine wpAnyU_step 7 (o := ⟨some 9, .call { callee := .value (.func 64), args := #[.tmp 8], argTypes := #[95] }, 43, _, _, none⟩) (by kernel_rfl) rfl rfl (fun K hK => ?_)
  obtain ⟨q4, hq⟩ : ∃ q, cornR q3.2 = q := ⟨_, rfl⟩
  have hC := rd_corners p q3.2 _ T3.out.blk hr3.out
  have hL := cornR_len q3.2
  rw [hq] at hC hL
  have HQ4 := Lib.hid hq
  clear hq
  go_simp
  go_at_call 64
  refine hC.mono ?_
  rintro e W4 ⟨rfl, t4⟩
  have K4 := Lib.hid (t4.keep K3.out hne)
  have B4 := Lib.hid (t4.keep B3.out hcp)
  have T4 := Lib.hid (T3.out.trans t4)
  have hr4 := Lib.hid (Nat.le_trans hL hr3.out)
  clear t4 hC hL
  refine hK.out _ _ (fun _ => B4.out) ?_
  have hHeld : (fun W' => Blk W' c t #[.pointer (some ⟨p, 0, none⟩)]) _ := B4.out
  clear hK K
  try simp only [Act.put, List.setIfInBounds_toArray, List.set_cons_zero, List.set_cons_succ]
  refine wpAnyU_step 9 (o := ⟨some 11, .call { callee := .value (.func 57), args := #[.tmp 10], argTypes := #[95] }, 3, _, _, none⟩) (by kernel_rfl) rfl rfl (fun K hK => ?_)
  obtain ⟨q5, hq⟩ : ∃ q, numR q4.2 = q := ⟨_, rfl⟩
  have hC := rd_int p q4.2 _ T4.out.blk hr4.out
  have hL := numR_len q4.2
  rw [hq] at hC hL
  have HQ5 := Lib.hid hq
  clear hq
  go_simp
  go_at_call 57
  refine hC.mono ?_
  rintro e W5 ⟨rfl, t5⟩
  have K5 := Lib.hid (t5.keep K4.out hne)
  have B5 := Lib.hid (t5.keep B4.out hcp)
  have T5 := Lib.hid (T4.out.trans t5)
  have hr5 := Lib.hid (Nat.le_trans hL hr4.out)
  clear t5 hC hL
  generalize hx5 : ((wrapI q5.1) : Int) = x5
  have HX5 := Lib.hid hx5
  clear hx5
  refine hK.out _ _ (fun _ => B5.out) ?_
  have hHeld : (fun W' => Blk W' c t #[.pointer (some ⟨p, 0, none⟩)]) _ := B5.out
  clear hK K
  try simp only [Act.put, List.setIfInBounds_toArray, List.set_cons_zero, List.set_cons_succ]
  obtain ⟨b5, hb5⟩ : ∃ b, decide (x5 = 1) = b := ⟨_, rfl⟩
  have hb5' : (x5 == 1) = b5 := hb5
  refine wpAnyU_take0 10 (oi := ⟨some 12, .binOp .eql 3 (.tmp 11) (.const (.int .i64 1)) 3, _, _, _, none⟩) (v := .bool b5) rfl (by kernel_rfl) (by kernel_rfl) (by kernel_rfl) (by decide) (fun c d e h => NoPanic.put h) (Or.inl ⟨by rfl, by intro W hW; go_simp⟩) (fun _ => hHeld) ?_
  try simp only [Act.put, List.setIfInBounds_toArray, List.set_cons_zero, List.set_cons_succ]
  refine wpAnyU_step 12 (o := ⟨some 14, .call { callee := .value (.func 69), args := #[.tmp 13], argTypes := #[95] }, 44, _, _, none⟩) (by kernel_rfl) rfl rfl (fun K hK => ?_)
  obtain ⟨q6, hq⟩ : ∃ q, numR q5.2 = q := ⟨_, rfl⟩
  have hC := rd_u64 p q5.2 _ T5.out.blk hr5.out
  have hL := numR_len q5.2
  rw [hq] at hC hL
  have HQ6 := Lib.hid hq
  clear hq
  go_simp
  go_at_call 69
  refine hC.mono ?_
  rintro e W6 ⟨rfl, t6⟩
  have K6 := Lib.hid (t6.keep K5.out hne)
  have B6 := Lib.hid (t6.keep B5.out hcp)
  have T6 := Lib.hid (T5.out.trans t6)
  have hr6 := Lib.hid (Nat.le_trans hL hr5.out)
  clear t6 hC hL
  generalize hx6 : ((q6.1 : Nat) : Int) = x6
  have HX6 := Lib.hid hx6
  clear hx6
  refine hK.out _ _ (fun _ => B6.out) ?_
  have hHeld : (fun W' => Blk W' c t #[.pointer (some ⟨p, 0, none⟩)]) _ := B6.out
  clear hK K
  try simp only [Act.put, List.setIfInBounds_toArray, List.set_cons_zero, List.set_cons_succ]
  refine wpAnyU_take0 13 (oi := ⟨some 15, .build 110 #[(0, .tmp 3), (1, .tmp 5), (2, .tmp 7), (3, .tmp 9), (4, .tmp 12), (5, .tmp 14)], _, _, _, none⟩) (v := .agg #[.int .i64 x1, .int .i64 x2, .int .u8 x3, .int .i64 q4.1.c1, .int .i64 q4.1.r1, .int .i64 q4.1.c2, .int .i64 q4.1.r2, .bool b5, .int .u64 x6]) rfl (by kernel_rfl) (by kernel_rfl) (by kernel_rfl) (by decide) (fun c d e h => NoPanic.put h) (Or.inl ⟨by rfl, by intro W hW; go_simp⟩) (fun _ => hHeld) ?_
  try simp only [Act.put, List.setIfInBounds_toArray, List.set_cons_zero, List.set_cons_succ]
  have c0 : W6.cell? ⟨W.heap.size, 0, none⟩ = some (.int .i64 0) := K6.out.cell 0
  have f0 : W6.frozen? ⟨W.heap.size, 0, none⟩ = false := K6.out.frozen 0
  have c1 : W6.cell? ⟨W.heap.size, 1, none⟩ = some (.int .i64 0) := K6.out.cell 1
  have f1 : W6.frozen? ⟨W.heap.size, 1, none⟩ = false := K6.out.frozen 1
  have c2 : W6.cell? ⟨W.heap.size, 2, none⟩ = some (.int .u8 0) := K6.out.cell 2
  have f2 : W6.frozen? ⟨W.heap.size, 2, none⟩ = false := K6.out.frozen 2
  have c3 : W6.cell? ⟨W.heap.size, 3, none⟩ = some (.int .i64 0) := K6.out.cell 3
  have f3 : W6.frozen? ⟨W.heap.size, 3, none⟩ = false := K6.out.frozen 3
  have c4 : W6.cell? ⟨W.heap.size, 4, none⟩ = some (.int .i64 0) := K6.out.cell 4
  have f4 : W6.frozen? ⟨W.heap.size, 4, none⟩ = false := K6.out.frozen 4
  have c5 : W6.cell? ⟨W.heap.size, 5, none⟩ = some (.int .i64 0) := K6.out.cell 5
  have f5 : W6.frozen? ⟨W.heap.size, 5, none⟩ = false := K6.out.frozen 5
  have c6 : W6.cell? ⟨W.heap.size, 6, none⟩ = some (.int .i64 0) := K6.out.cell 6
  have f6 : W6.frozen? ⟨W.heap.size, 6, none⟩ = false := K6.out.frozen 6
  have c7 : W6.cell? ⟨W.heap.size, 7, none⟩ = some (.bool false) := K6.out.cell 7
  have f7 : W6.frozen? ⟨W.heap.size, 7, none⟩ = false := K6.out.frozen 7
  have c8 : W6.cell? ⟨W.heap.size, 8, none⟩ = some (.int .u64 0) := K6.out.cell 8
  have f8 : W6.frozen? ⟨W.heap.size, 8, none⟩ = false := K6.out.frozen 8
  refine wpAnyU_step 14 (o := ⟨none, .store 110 (.tmp 1) (.tmp 15), 0, _, _, none⟩) (by kernel_rfl) rfl rfl (fun K hK => ?_)
  go_simp
  refine hK.out _ _ (fun h => absurd h (by decide)) ?_
  clear hK K
  try simp only [Act.put, List.setIfInBounds_toArray, List.set_cons_zero, List.set_cons_succ]
  refine wpAnyU_done (by kernel_rfl) ?_
  refine NoPanic.normal ?_
  go_wp2
  have KF := Lib.hid (((((((((K6.out.set_ 0 (.int .i64 x1)).set_ 1 (.int .i64 x2)).set_ 2 (.int .u8 x3)).set_ 3 (.int .i64 q4.1.c1)).set_ 4 (.int .i64 q4.1.r1)).set_ 5 (.int .i64 q4.1.c2)).set_ 6 (.int .i64 q4.1.r2)).set_ 7 (.bool b5)).set_ 8 (.int .u64 x6))
  have TF := Lib.hid (((((((((T6.out.set (Nat.le_refl _) hne.symm 0 (.int .i64 x1)).set (Nat.le_refl _) hne.symm 1 (.int .i64 x2)).set (Nat.le_refl _) hne.symm 2 (.int .u8 x3)).set (Nat.le_refl _) hne.symm 3 (.int .i64 q4.1.c1)).set (Nat.le_refl _) hne.symm 4 (.int .i64 q4.1.r1)).set (Nat.le_refl _) hne.symm 5 (.int .i64 q4.1.c2)).set (Nat.le_refl _) hne.symm 6 (.int .i64 q4.1.r2)).set (Nat.le_refl _) hne.symm 7 (.bool b5)).set (Nat.le_refl _) hne.symm 8 (.int .u64 x6))
  have d0 := KF.out.cell 0
  have d1 := KF.out.cell 1
  have d2 := KF.out.cell 2
  have d3 := KF.out.cell 3
  have d4 := KF.out.cell 4
  have d5 := KF.out.cell 5
  have d6 := KF.out.cell 6
  have d7 := KF.out.cell 7
  have d8 := KF.out.cell 8
  refine bodyPost_ret (v := .agg #[.int .i64 x1, .int .i64 x2, .int .u8 x3, .int .i64 q4.1.c1, .int .i64 q4.1.r1, .int .i64 q4.1.c2, .int .i64 q4.1.r2, .bool b5, .int .u64 x6]) (by simp (maxDischargeDepth := 9) [results, Tryz.results71, go_sem, d0, d1, d2, d3, d4, d5, d6, d7, d8]) rfl ?_
  have TG := TF.out
  clear TF KF
  have HE := evtR_eq r
  rw [HQ1.out, HX1.out, HQ2.out, HX2.out, HQ3.out, HX3.out, HQ4.out, HQ5.out, HX5.out, hb5, HQ6.out, HX6.out] at HE
  rw [HE]
  refine ⟨by simp only [cEvt], ?_⟩
  try simp only [str] at TG
  try simp only []
  try dsimp only
  exact TG
theorem rlsR_eq (r : Rd) : rlsR r = (⟨(wrapI (numR r).1), (placeR (numR r).2).1, (wrapI (numR (placeR (numR r).2).2).1), ((numR (numR (placeR (numR r).2).2).2).1 % 256 : Nat), (cornR (numR (numR (placeR (numR r).2).2).2).2).1, (wrapI (numR (cornR (numR (numR (placeR (numR r).2).2).2).2).2).1), ((numR (numR (cornR (numR (numR (placeR (numR r).2).2).2).2).2).2).1 : Nat)⟩, (numR (numR (cornR (numR (numR (placeR (numR r).2).2).2).2).2).2).2) := by simp only [rlsR, u8R, u64R, intR]
theorem rc_rls (p c : Nat) (t : TypeId) (r : Rd) (W : World) (hc : Blk W c t #[.pointer (some ⟨p, 0, none⟩)]) (hcp : c ≠ p) (h : RdAt W p r) (hl : r.1.length ≤ 1000000) :
    Calls Tryz.prog 73 #[.pointer (some ⟨c, 0, none⟩)] W fun u W' => u = .returned (.agg (cRls (rlsR r).1).toArray) ∧ RdTo p W W' (rlsR r).2 := by
  have hlt := h.lt
  have hlc := hc.lt
  have hne : W.heap.size ≠ p := by omega
  have K0 := Lib.hid ((Blk.new W 116 #[.int .i64 0, .int .i64 0, .int .i64 0, .int .i64 0, .int .u8 0, .int .i64 0, .int .i64 0, .int .i64 0, .int .i64 0, .int .i64 0, .int .u64 0]).drew)
  have T0 := Lib.hid (((RdTo.refl h).alloc (.cells #[.int .i64 0, .int .i64 0, .int .i64 0, .int .i64 0, .int .u8 0, .int .i64 0, .int .i64 0, .int .i64 0, .int .i64 0, .int .i64 0, .int .u64 0] 116)).drew)
  have B0 := Lib.hid ((hc.alloc (.cells #[.int .i64 0, .int .i64 0, .int .i64 0, .int .i64 0, .int .u8 0, .int .i64 0, .int .i64 0, .int .i64 0, .int .i64 0, .int .i64 0, .int .u64 0] 116)).drew)
  have hr0 := Lib.hid hl
  clear h hl hc
  go_enter Tryz.func73, Tryz.ntmps73
  go_upto_region 1 with (fail)
  refine wp_region_noPanic ?_
  refine wp_region_U (fun W' => Blk W' c t #[.pointer (some ⟨p, 0, none⟩)]) 16 (by kernel_rfl) ?_
  have hHeld : (fun W' => Blk W' c t #[.pointer (some ⟨p, 0, none⟩)]) _ := B0.out
  refine wpAnyU_take 0 (oi := ⟨some 2, .load 95 (.tmp 0), 95, _, _, none⟩) (v := .pointer (some ⟨p, 0, none⟩)) rfl (by kernel_rfl) (by kernel_rfl) (by kernel_rfl) (by kernel_rfl) (by decide) (by kernel_rfl) (fun c d e h => NoPanic.put h) (Or.inl ⟨by rfl, by intro W hW; have hc : W.cell? ⟨c, 0, none⟩ = some (.pointer (some ⟨p, 0, none⟩)) := hW.cell 0; go_simp⟩) hHeld ?_
  try simp only [Act.put, List.setIfInBounds_toArray, List.set_cons_zero, List.set_cons_succ]
  refine wpAnyU_take 2 (oi := ⟨some 4, .load 95 (.tmp 0), 95, _, _, none⟩) (v := .pointer (some ⟨p, 0, none⟩)) rfl (by kernel_rfl) (by kernel_rfl) (by kernel_rfl) (by kernel_rfl) (by decide) (by kernel_rfl) (fun c d e h => NoPanic.put h) (Or.inl ⟨by rfl, by intro W hW; have hc : W.cell? ⟨c, 0, none⟩ = some (.pointer (some ⟨p, 0, none⟩)) := hW.cell 0; go_simp⟩) hHeld ?_
  try simp only [Act.put, List.setIfInBounds_toArray, List.set_cons_zero, List.set_cons_succ]
  refine wpAnyU_take 4 (oi := ⟨some 6, .load 95 (.tmp 0), 95, _, _, none⟩) (v := .pointer (some ⟨p, 0, none⟩)) rfl (by kernel_rfl) (by kernel_rfl) (by kernel_rfl) (by kernel_rfl) (by decide) (by kernel_rfl) (fun c d e h => NoPanic.put h) (Or.inl ⟨by rfl, by intro W hW; have hc : W.cell? ⟨c, 0, none⟩ = some (.pointer (some ⟨p, 0, none⟩)) := hW.cell 0; go_simp⟩) hHeld ?_
  try simp only [Act.put, List.setIfInBounds_toArray, List.set_cons_zero, List.set_cons_succ]
  refine wpAnyU_take 7 (oi := ⟨some 9, .load 95 (.tmp 0), 95, _, _, none⟩) (v := .pointer (some ⟨p, 0, none⟩)) rfl (by kernel_rfl) (by kernel_rfl) (by kernel_rfl) (by kernel_rfl) (by decide) (by kernel_rfl) (fun c d e h => NoPanic.put h) (Or.inl ⟨by rfl, by intro W hW; have hc : W.cell? ⟨c, 0, none⟩ = some (.pointer (some ⟨p, 0, none⟩)) := hW.cell 0; go_simp⟩) hHeld ?_
  try simp only [Act.put, List.setIfInBounds_toArray, List.set_cons_zero, List.set_cons_succ]
  refine wpAnyU_take 9 (oi := ⟨some 11, .load 95 (.tmp 0), 95, _, _, none⟩) (v := .pointer (some ⟨p, 0, none⟩)) rfl (by kernel_rfl) (by kernel_rfl) (by kernel_rfl) (by kernel_rfl) (by decide) (by kernel_rfl) (fun c d e h => NoPanic.put h) (Or.inl ⟨by rfl, by intro W hW; have hc : W.cell? ⟨c, 0, none⟩ = some (.pointer (some ⟨p, 0, none⟩)) := hW.cell 0; go_simp⟩) hHeld ?_
  try simp only [Act.put, List.setIfInBounds_toArray, List.set_cons_zero, List.set_cons_succ]
  refine wpAnyU_take 11 (oi := ⟨some 13, .load 95 (.tmp 0), 95, _, _, none⟩) (v := .pointer (some ⟨p, 0, none⟩)) rfl (by kernel_rfl) (by kernel_rfl) (by kernel_rfl) (by kernel_rfl) (by decide) (by kernel_rfl) (fun c d e h => NoPanic.put h) (Or.inl ⟨by rfl, by intro W hW; have hc : W.cell? ⟨c, 0, none⟩ = some (.pointer (some ⟨p, 0, none⟩)) := hW.cell 0; go_simp⟩) hHeld ?_
  try simp only [Act.put, List.setIfInBounds_toArray, List.set_cons_zero, List.set_cons_succ]
  refine wpAnyU_take 13 (oi := ⟨some 15, .load 95 (.tmp 0), 95, _, _, none⟩) (v := .pointer (some ⟨p, 0, none⟩)) rfl (by kernel_rfl) (by kernel_rfl) (by kernel_rfl) (by kernel_rfl) (by decide) (by kernel_rfl) (fun c d e h => NoPanic.put h) (Or.inl ⟨by rfl, by intro W hW; have hc : W.cell? ⟨c, 0, none⟩ = some (.pointer (some ⟨p, 0, none⟩)) := hW.cell 0; go_simp⟩) hHeld ?_
  try simp only [Act.put, List.setIfInBounds_toArray, List.set_cons_zero, List.set_cons_succ]
  refine wpAnyU_step 1 (o := ⟨some 3, .call { callee := .value (.func 57), args := #[.tmp 2], argTypes := #[95] }, 3, _, _, none⟩) (by kernel_rfl) rfl rfl (fun K hK => ?_)
  obtain ⟨q1, hq⟩ : ∃ q, numR r = q := ⟨_, rfl⟩
  have hC := rd_int p r _ T0.out.blk hr0.out
  have hL := numR_len r
  rw [hq] at hC hL
  have HQ1 := Lib.hid hq
  clear hq
  go_simp
  go_at_call 57
  refine hC.mono ?_
  rintro e W1 ⟨rfl, t1⟩
  have K1 := Lib.hid (t1.keep K0.out hne)
  have B1 := Lib.hid (t1.keep B0.out hcp)
  have T1 := Lib.hid (T0.out.trans t1)
  have hr1 := Lib.hid (Nat.le_trans hL hr0.out)
  clear t1 hC hL
  generalize hx1 : ((wrapI q1.1) : Int) = x1
  have HX1 := Lib.hid hx1
  clear hx1
  refine hK.out _ _ (fun _ => B1.out) ?_
  have hHeld : (fun W' => Blk W' c t #[.pointer (some ⟨p, 0, none⟩)]) _ := B1.out
  clear hK K
  try simp only [Act.put, List.setIfInBounds_toArray, List.set_cons_zero, List.set_cons_succ]
  refine wpAnyU_step 3 (o := ⟨some 5, .call { callee := .value (.func 60), args := #[.tmp 4], argTypes := #[95] }, 56, _, _, none⟩) (by kernel_rfl) rfl rfl (fun K hK => ?_)
  obtain ⟨q2, hq⟩ : ∃ q, placeR q1.2 = q := ⟨_, rfl⟩
  have hC := rd_place p q1.2 _ T1.out.blk hr1.out
  have hL := placeR_len q1.2
  rw [hq] at hC hL
  have HQ2 := Lib.hid hq
  clear hq
  go_simp
  go_at_call 60
  refine hC.mono ?_
  rintro e W2 ⟨rfl, t2⟩
  have K2 := Lib.hid (t2.keep K1.out hne)
  have B2 := Lib.hid (t2.keep B1.out hcp)
  have T2 := Lib.hid (T1.out.trans t2)
  have hr2 := Lib.hid (Nat.le_trans hL hr1.out)
  clear t2 hC hL
  refine hK.out _ _ (fun _ => B2.out) ?_
  have hHeld : (fun W' => Blk W' c t #[.pointer (some ⟨p, 0, none⟩)]) _ := B2.out
  clear hK K
  try simp only [Act.put, List.setIfInBounds_toArray, List.set_cons_zero, List.set_cons_succ]
  refine wpAnyU_step 5 (o := ⟨some 7, .call { callee := .value (.func 57), args := #[.tmp 6], argTypes := #[95] }, 3, _, _, none⟩) (by kernel_rfl) rfl rfl (fun K hK => ?_)
  obtain ⟨q3, hq⟩ : ∃ q, numR q2.2 = q := ⟨_, rfl⟩
  have hC := rd_int p q2.2 _ T2.out.blk hr2.out
  have hL := numR_len q2.2
  rw [hq] at hC hL
  have HQ3 := Lib.hid hq
  clear hq
  go_simp
  go_at_call 57
  refine hC.mono ?_
  rintro e W3 ⟨rfl, t3⟩
  have K3 := Lib.hid (t3.keep K2.out hne)
  have B3 := Lib.hid (t3.keep B2.out hcp)
  have T3 := Lib.hid (T2.out.trans t3)
  have hr3 := Lib.hid (Nat.le_trans hL hr2.out)
  clear t3 hC hL
  generalize hx3 : ((wrapI q3.1) : Int) = x3
  have HX3 := Lib.hid hx3
  clear hx3
  refine hK.out _ _ (fun _ => B3.out) ?_
  have hHeld : (fun W' => Blk W' c t #[.pointer (some ⟨p, 0, none⟩)]) _ := B3.out
  clear hK K
  try simp only [Act.put, List.setIfInBounds_toArray, List.set_cons_zero, List.set_cons_succ]
  refine wpAnyU_take0 6 (oi := ⟨some 8, .build 114 #[(0, .tmp 5), (1, .tmp 7)], _, _, _, none⟩) (v := .agg #[.int .i64 q2.1.col, .int .i64 q2.1.row, .int .i64 x3]) rfl (by kernel_rfl) (by kernel_rfl) (by kernel_rfl) (by decide) (fun c d e h => NoPanic.put h) (Or.inl ⟨by rfl, by intro W hW; go_simp⟩) (fun _ => hHeld) ?_
  try simp only [Act.put, List.setIfInBounds_toArray, List.set_cons_zero, List.set_cons_succ]
  refine wpAnyU_step 8 (o := ⟨some 10, .call { callee := .value (.func 68), args := #[.tmp 9], argTypes := #[95] }, 5, _, _, none⟩) (by kernel_rfl) rfl rfl (fun K hK => ?_)
  obtain ⟨q4, hq⟩ : ∃ q, numR q3.2 = q := ⟨_, rfl⟩
  have hC := rd_u8 p q3.2 _ T3.out.blk hr3.out
  have hL := numR_len q3.2
  rw [hq] at hC hL
  have HQ4 := Lib.hid hq
  clear hq
  go_simp
  go_at_call 68
  refine hC.mono ?_
  rintro e W4 ⟨rfl, t4⟩
  have K4 := Lib.hid (t4.keep K3.out hne)
  have B4 := Lib.hid (t4.keep B3.out hcp)
  have T4 := Lib.hid (T3.out.trans t4)
  have hr4 := Lib.hid (Nat.le_trans hL hr3.out)
  clear t4 hC hL
  generalize hx4 : ((q4.1 % 256 : Nat) : Int) = x4
  have HX4 := Lib.hid hx4
  clear hx4
  refine hK.out _ _ (fun _ => B4.out) ?_
  have hHeld : (fun W' => Blk W' c t #[.pointer (some ⟨p, 0, none⟩)]) _ := B4.out
  clear hK K
  try simp only [Act.put, List.setIfInBounds_toArray, List.set_cons_zero, List.set_cons_succ]
  refine wpAnyU_step 10 (o := ⟨some 12, .call { callee := .value (.func 64), args := #[.tmp 11], argTypes := #[95] }, 43, _, _, none⟩) (by kernel_rfl) rfl rfl (fun K hK => ?_)
  obtain ⟨q5, hq⟩ : ∃ q, cornR q4.2 = q := ⟨_, rfl⟩
  have hC := rd_corners p q4.2 _ T4.out.blk hr4.out
  have hL := cornR_len q4.2
  rw [hq] at hC hL
  have HQ5 := Lib.hid hq
  clear hq
  go_simp
  go_at_call 64
  refine hC.mono ?_
  rintro e W5 ⟨rfl, t5⟩
  have K5 := Lib.hid (t5.keep K4.out hne)
  have B5 := Lib.hid (t5.keep B4.out hcp)
  have T5 := Lib.hid (T4.out.trans t5)
  have hr5 := Lib.hid (Nat.le_trans hL hr4.out)
  clear t5 hC hL
  refine hK.out _ _ (fun _ => B5.out) ?_
  have hHeld : (fun W' => Blk W' c t #[.pointer (some ⟨p, 0, none⟩)]) _ := B5.out
  clear hK K
  try simp only [Act.put, List.setIfInBounds_toArray, List.set_cons_zero, List.set_cons_succ]
  refine wpAnyU_step 12 (o := ⟨some 14, .call { callee := .value (.func 57), args := #[.tmp 13], argTypes := #[95] }, 3, _, _, none⟩) (by kernel_rfl) rfl rfl (fun K hK => ?_)
  obtain ⟨q6, hq⟩ : ∃ q, numR q5.2 = q := ⟨_, rfl⟩
  have hC := rd_int p q5.2 _ T5.out.blk hr5.out
  have hL := numR_len q5.2
  rw [hq] at hC hL
  have HQ6 := Lib.hid hq
  clear hq
  go_simp
  go_at_call 57
  refine hC.mono ?_
  rintro e W6 ⟨rfl, t6⟩
  have K6 := Lib.hid (t6.keep K5.out hne)
  have B6 := Lib.hid (t6.keep B5.out hcp)
  have T6 := Lib.hid (T5.out.trans t6)
  have hr6 := Lib.hid (Nat.le_trans hL hr5.out)
  clear t6 hC hL
  generalize hx6 : ((wrapI q6.1) : Int) = x6
  have HX6 := Lib.hid hx6
  clear hx6
  refine hK.out _ _ (fun _ => B6.out) ?_
  have hHeld : (fun W' => Blk W' c t #[.pointer (some ⟨p, 0, none⟩)]) _ := B6.out
  clear hK K
  try simp only [Act.put, List.setIfInBounds_toArray, List.set_cons_zero, List.set_cons_succ]
  refine wpAnyU_step 14 (o := ⟨some 16, .call { callee := .value (.func 69), args := #[.tmp 15], argTypes := #[95] }, 44, _, _, none⟩) (by kernel_rfl) rfl rfl (fun K hK => ?_)
  obtain ⟨q7, hq⟩ : ∃ q, numR q6.2 = q := ⟨_, rfl⟩
  have hC := rd_u64 p q6.2 _ T6.out.blk hr6.out
  have hL := numR_len q6.2
  rw [hq] at hC hL
  have HQ7 := Lib.hid hq
  clear hq
  go_simp
  go_at_call 69
  refine hC.mono ?_
  rintro e W7 ⟨rfl, t7⟩
  have K7 := Lib.hid (t7.keep K6.out hne)
  have B7 := Lib.hid (t7.keep B6.out hcp)
  have T7 := Lib.hid (T6.out.trans t7)
  have hr7 := Lib.hid (Nat.le_trans hL hr6.out)
  clear t7 hC hL
  generalize hx7 : ((q7.1 : Nat) : Int) = x7
  have HX7 := Lib.hid hx7
  clear hx7
  refine hK.out _ _ (fun _ => B7.out) ?_
  have hHeld : (fun W' => Blk W' c t #[.pointer (some ⟨p, 0, none⟩)]) _ := B7.out
  clear hK K
  try simp only [Act.put, List.setIfInBounds_toArray, List.set_cons_zero, List.set_cons_succ]
  refine wpAnyU_take0 15 (oi := ⟨some 17, .build 116 #[(0, .tmp 3), (1, .tmp 8), (2, .tmp 10), (3, .tmp 12), (4, .tmp 14), (5, .tmp 16)], _, _, _, none⟩) (v := .agg #[.int .i64 x1, .int .i64 q2.1.col, .int .i64 q2.1.row, .int .i64 x3, .int .u8 x4, .int .i64 q5.1.c1, .int .i64 q5.1.r1, .int .i64 q5.1.c2, .int .i64 q5.1.r2, .int .i64 x6, .int .u64 x7]) rfl (by kernel_rfl) (by kernel_rfl) (by kernel_rfl) (by decide) (fun c d e h => NoPanic.put h) (Or.inl ⟨by rfl, by intro W hW; go_simp⟩) (fun _ => hHeld) ?_
  try simp only [Act.put, List.setIfInBounds_toArray, List.set_cons_zero, List.set_cons_succ]
  have c0 : W7.cell? ⟨W.heap.size, 0, none⟩ = some (.int .i64 0) := K7.out.cell 0
  have f0 : W7.frozen? ⟨W.heap.size, 0, none⟩ = false := K7.out.frozen 0
  have c1 : W7.cell? ⟨W.heap.size, 1, none⟩ = some (.int .i64 0) := K7.out.cell 1
  have f1 : W7.frozen? ⟨W.heap.size, 1, none⟩ = false := K7.out.frozen 1
  have c2 : W7.cell? ⟨W.heap.size, 2, none⟩ = some (.int .i64 0) := K7.out.cell 2
  have f2 : W7.frozen? ⟨W.heap.size, 2, none⟩ = false := K7.out.frozen 2
  have c3 : W7.cell? ⟨W.heap.size, 3, none⟩ = some (.int .i64 0) := K7.out.cell 3
  have f3 : W7.frozen? ⟨W.heap.size, 3, none⟩ = false := K7.out.frozen 3
  have c4 : W7.cell? ⟨W.heap.size, 4, none⟩ = some (.int .u8 0) := K7.out.cell 4
  have f4 : W7.frozen? ⟨W.heap.size, 4, none⟩ = false := K7.out.frozen 4
  have c5 : W7.cell? ⟨W.heap.size, 5, none⟩ = some (.int .i64 0) := K7.out.cell 5
  have f5 : W7.frozen? ⟨W.heap.size, 5, none⟩ = false := K7.out.frozen 5
  have c6 : W7.cell? ⟨W.heap.size, 6, none⟩ = some (.int .i64 0) := K7.out.cell 6
  have f6 : W7.frozen? ⟨W.heap.size, 6, none⟩ = false := K7.out.frozen 6
  have c7 : W7.cell? ⟨W.heap.size, 7, none⟩ = some (.int .i64 0) := K7.out.cell 7
  have f7 : W7.frozen? ⟨W.heap.size, 7, none⟩ = false := K7.out.frozen 7
  have c8 : W7.cell? ⟨W.heap.size, 8, none⟩ = some (.int .i64 0) := K7.out.cell 8
  have f8 : W7.frozen? ⟨W.heap.size, 8, none⟩ = false := K7.out.frozen 8
  have c9 : W7.cell? ⟨W.heap.size, 9, none⟩ = some (.int .i64 0) := K7.out.cell 9
  have f9 : W7.frozen? ⟨W.heap.size, 9, none⟩ = false := K7.out.frozen 9
  have c10 : W7.cell? ⟨W.heap.size, 10, none⟩ = some (.int .u64 0) := K7.out.cell 10
  have f10 : W7.frozen? ⟨W.heap.size, 10, none⟩ = false := K7.out.frozen 10
  refine wpAnyU_step 16 (o := ⟨none, .store 116 (.tmp 1) (.tmp 17), 0, _, _, none⟩) (by kernel_rfl) rfl rfl (fun K hK => ?_)
  go_simp
  refine hK.out _ _ (fun h => absurd h (by decide)) ?_
  clear hK K
  try simp only [Act.put, List.setIfInBounds_toArray, List.set_cons_zero, List.set_cons_succ]
  refine wpAnyU_done (by kernel_rfl) ?_
  refine NoPanic.normal ?_
  go_wp2
  have KF := Lib.hid (((((((((((K7.out.set_ 0 (.int .i64 x1)).set_ 1 (.int .i64 q2.1.col)).set_ 2 (.int .i64 q2.1.row)).set_ 3 (.int .i64 x3)).set_ 4 (.int .u8 x4)).set_ 5 (.int .i64 q5.1.c1)).set_ 6 (.int .i64 q5.1.r1)).set_ 7 (.int .i64 q5.1.c2)).set_ 8 (.int .i64 q5.1.r2)).set_ 9 (.int .i64 x6)).set_ 10 (.int .u64 x7))
  have TF := Lib.hid (((((((((((T7.out.set (Nat.le_refl _) hne.symm 0 (.int .i64 x1)).set (Nat.le_refl _) hne.symm 1 (.int .i64 q2.1.col)).set (Nat.le_refl _) hne.symm 2 (.int .i64 q2.1.row)).set (Nat.le_refl _) hne.symm 3 (.int .i64 x3)).set (Nat.le_refl _) hne.symm 4 (.int .u8 x4)).set (Nat.le_refl _) hne.symm 5 (.int .i64 q5.1.c1)).set (Nat.le_refl _) hne.symm 6 (.int .i64 q5.1.r1)).set (Nat.le_refl _) hne.symm 7 (.int .i64 q5.1.c2)).set (Nat.le_refl _) hne.symm 8 (.int .i64 q5.1.r2)).set (Nat.le_refl _) hne.symm 9 (.int .i64 x6)).set (Nat.le_refl _) hne.symm 10 (.int .u64 x7))
  have d0 := KF.out.cell 0
  have d1 := KF.out.cell 1
  have d2 := KF.out.cell 2
  have d3 := KF.out.cell 3
  have d4 := KF.out.cell 4
  have d5 := KF.out.cell 5
  have d6 := KF.out.cell 6
  have d7 := KF.out.cell 7
  have d8 := KF.out.cell 8
  have d9 := KF.out.cell 9
  have d10 := KF.out.cell 10
  refine bodyPost_ret (v := .agg #[.int .i64 x1, .int .i64 q2.1.col, .int .i64 q2.1.row, .int .i64 x3, .int .u8 x4, .int .i64 q5.1.c1, .int .i64 q5.1.r1, .int .i64 q5.1.c2, .int .i64 q5.1.r2, .int .i64 x6, .int .u64 x7]) (by simp (maxDischargeDepth := 9) [results, Tryz.results73, go_sem, d0, d1, d2, d3, d4, d5, d6, d7, d8, d9, d10]) rfl ?_
  have TG := TF.out
  clear TF KF
  have HE := rlsR_eq r
  rw [HQ1.out, HX1.out, HQ2.out, HQ3.out, HX3.out, HQ4.out, HX4.out, HQ5.out, HQ6.out, HX6.out, HQ7.out, HX7.out] at HE
  rw [HE]
  refine ⟨by simp only [cRls], ?_⟩
  try simp only [str] at TG
  try simp only []
  try dsimp only
  exact TG
end Go.Proofs.YtamcgggmfghljaaGreatDoor
