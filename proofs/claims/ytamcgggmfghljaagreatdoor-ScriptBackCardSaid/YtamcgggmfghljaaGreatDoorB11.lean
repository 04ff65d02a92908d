/- Layer 41 (program): the closures of the reader's operation (printed by tools/gen_rdo.py). · Layer 41: an operation's mask, bit by bit; bytes behind bytes. · Layer 41 (program): the reader's operation (printed by tools/gen_rdp.py). -/
import Derived.Laws.CopyOwn
import Derived.Laws.BitsLemmas
import Derived.Test.YtamcgggmfghljaaGreatDoorB10
set_option maxRecDepth 100000
set_option maxHeartbeats 8000000
namespace Go.Proofs.YtamcgggmfghljaaGreatDoor
open Go.RowKit
/-- The reader has read on, and the operation at g has become x. -/
structure OpTo (p g : Nat) (W W' : World) (r' : Rd) (x : Opr) : Prop where
  blk : RdAt W' p r'
  op : Blk W' g 48 (cOpr x).toArray
  chg : Chg (fun k => k = p ∨ k = g) W W'
theorem intR_q {r : Rd} {q : Nat × Rd} {x : Int} (h : numR r = q) (hx : wrapI q.1 = x) : intR r = (x, q.2) := by unfold intR; rw [h, hx]
theorem u64R_q {r : Rd} {q : Nat × Rd} {x : Int} (h : numR r = q) (hx : ((q.1 : Nat) : Int) = x) : u64R r = (x, q.2) := by unfold u64R; rw [h, hx]
theorem u8R_q {r : Rd} {q : Nat × Rd} {x : Int} (h : numR r = q) (hx : ((q.1 % 256 : Nat) : Int) = x) : u8R r = (x, q.2) := by unfold u8R; rw [h, hx]
theorem po_1 (p c g : Nat) (t : TypeId) (r : Rd) (x : Opr) (W : World) (hc : Blk W c t #[.pointer (some ⟨p, 0, none⟩)]) (hgp : g ≠ p) (hg : Blk W g 48 (cOpr x).toArray) (h : RdAt W p r) (hl : r.1.length ≤ 1000000) :
    Calls Tryz.prog 146 #[.pointer (some ⟨c, 0, none⟩), .pointer (some ⟨g, 0, none⟩)] W fun u W' => u = .returned (.tuple #[]) ∧ OpTo p g W W' (intR r).2 { x with user := (intR r).1 } := by
  have c0 : W.cell? ⟨c, 0, none⟩ = some (.pointer (some ⟨p, 0, none⟩)) := hc.cell 0
  have HG := Lib.hid hg
  have HH := Lib.hid h
  have HC := Lib.hid (rd_int p r W h hl)
  clear hc hg h hl
  go_enter Tryz.func146, Tryz.ntmps146
  go_wp2_with fail
  have hC := HC.out
  obtain ⟨q1, hq⟩ : ∃ q, numR r = q := ⟨_, rfl⟩
  rw [hq] at hC
  have HQ := Lib.hid hq
  clear hq
  refine hC.mono ?_
  rintro e W1 ⟨rfl, t1⟩
  have T1 := Lib.hid t1
  have G1 := Lib.hid (t1.keep HG.out hgp)
  clear t1 hC HC
  generalize hx : wrapI q1.1 = v1
  have HE := Lib.hid (intR_q HQ.out hx)
  clear hx
  have e1 : W1.cell? ⟨g, 1, none⟩ = some (.int .i64 x.user) := G1.out.cell 1
  have f1 : W1.frozen? ⟨g, 1, none⟩ = false := G1.out.frozen 1
  have KF := Lib.hid (G1.out.set_ 1 (.int .i64 v1))
  have BF := Lib.hid (Blk.far T1.out.blk (p := ⟨g, 1, none⟩) (fun e => hgp e.symm) (.int .i64 v1))
  have CF := Lib.hid (Chg.setCell (T1.out.chg.mono (T := fun k => k = p ∨ k = g) (fun k _ hk => Or.inl hk)) (p := ⟨g, 1, none⟩) (.inl (.inr rfl)) (.int .i64 v1))
  go_wp2
  refine bodyPost_end (results_none rfl _ _ _) rfl ?_
  rw [HE.out]
  exact ⟨rfl, BF.out, KF.out, CF.out⟩
theorem po_2 (p c g : Nat) (t : TypeId) (r : Rd) (x : Opr) (W : World) (hc : Blk W c t #[.pointer (some ⟨p, 0, none⟩)]) (hgp : g ≠ p) (hg : Blk W g 48 (cOpr x).toArray) (h : RdAt W p r) (hl : r.1.length ≤ 1000000) :
    Calls Tryz.prog 147 #[.pointer (some ⟨c, 0, none⟩), .pointer (some ⟨g, 0, none⟩)] W fun u W' => u = .returned (.tuple #[]) ∧ OpTo p g W W' (cornR r).2 { x with rect := (cornR r).1 } := by
  have c0 : W.cell? ⟨c, 0, none⟩ = some (.pointer (some ⟨p, 0, none⟩)) := hc.cell 0
  have HG := Lib.hid hg
  have HH := Lib.hid h
  have HC := Lib.hid (rd_corners p r W h hl)
  clear hc hg h hl
  go_enter Tryz.func147, Tryz.ntmps147
  go_wp2_with fail
  have hC := HC.out
  obtain ⟨q1, hq⟩ : ∃ q, cornR r = q := ⟨_, rfl⟩
  rw [hq] at hC
  have HQ := Lib.hid hq
  clear hq
  refine hC.mono ?_
  rintro e W1 ⟨rfl, t1⟩
  have T1 := Lib.hid t1
  have G1 := Lib.hid (t1.keep HG.out hgp)
  clear t1 hC HC
  have HE := HQ
  have e2 : W1.cell? ⟨g, 2, none⟩ = some (.int .i64 x.rect.c1) := G1.out.cell 2
  have f2 : W1.frozen? ⟨g, 2, none⟩ = false := G1.out.frozen 2
  have e3 : W1.cell? ⟨g, 3, none⟩ = some (.int .i64 x.rect.r1) := G1.out.cell 3
  have f3 : W1.frozen? ⟨g, 3, none⟩ = false := G1.out.frozen 3
  have e4 : W1.cell? ⟨g, 4, none⟩ = some (.int .i64 x.rect.c2) := G1.out.cell 4
  have f4 : W1.frozen? ⟨g, 4, none⟩ = false := G1.out.frozen 4
  have e5 : W1.cell? ⟨g, 5, none⟩ = some (.int .i64 x.rect.r2) := G1.out.cell 5
  have f5 : W1.frozen? ⟨g, 5, none⟩ = false := G1.out.frozen 5
  have KF := Lib.hid ((((G1.out.set_ 2 (.int .i64 q1.1.c1)).set_ 3 (.int .i64 q1.1.r1)).set_ 4 (.int .i64 q1.1.c2)).set_ 5 (.int .i64 q1.1.r2))
  have BF := Lib.hid (Blk.far (Blk.far (Blk.far (Blk.far T1.out.blk (p := ⟨g, 2, none⟩) (fun e => hgp e.symm) (.int .i64 q1.1.c1)) (p := ⟨g, 3, none⟩) (fun e => hgp e.symm) (.int .i64 q1.1.r1)) (p := ⟨g, 4, none⟩) (fun e => hgp e.symm) (.int .i64 q1.1.c2)) (p := ⟨g, 5, none⟩) (fun e => hgp e.symm) (.int .i64 q1.1.r2))
  have CF := Lib.hid (Chg.setCell (Chg.setCell (Chg.setCell (Chg.setCell (T1.out.chg.mono (T := fun k => k = p ∨ k = g) (fun k _ hk => Or.inl hk)) (p := ⟨g, 2, none⟩) (.inl (.inr rfl)) (.int .i64 q1.1.c1)) (p := ⟨g, 3, none⟩) (.inl (.inr rfl)) (.int .i64 q1.1.r1)) (p := ⟨g, 4, none⟩) (.inl (.inr rfl)) (.int .i64 q1.1.c2)) (p := ⟨g, 5, none⟩) (.inl (.inr rfl)) (.int .i64 q1.1.r2))
  go_wp2
  refine bodyPost_end (results_none rfl _ _ _) rfl ?_
  rw [HE.out]
  exact ⟨rfl, BF.out, KF.out, CF.out⟩
theorem po_3 (p c g : Nat) (t : TypeId) (r : Rd) (x : Opr) (W : World) (hc : Blk W c t #[.pointer (some ⟨p, 0, none⟩)]) (hgp : g ≠ p) (hg : Blk W g 48 (cOpr x).toArray) (h : RdAt W p r) (hl : r.1.length ≤ 1000000) :
    Calls Tryz.prog 148 #[.pointer (some ⟨c, 0, none⟩), .pointer (some ⟨g, 0, none⟩)] W fun u W' => u = .returned (.tuple #[]) ∧ OpTo p g W W' (textR r).2 { x with input := (textR r).1 } := by
  have c0 : W.cell? ⟨c, 0, none⟩ = some (.pointer (some ⟨p, 0, none⟩)) := hc.cell 0
  have HG := Lib.hid hg
  have HH := Lib.hid h
  have HC := Lib.hid (rd_text p r W h hl)
  clear hc hg h hl
  go_enter Tryz.func148, Tryz.ntmps148
  go_wp2_with fail
  have hC := HC.out
  obtain ⟨q1, hq⟩ : ∃ q, textR r = q := ⟨_, rfl⟩
  rw [hq] at hC
  have HQ := Lib.hid hq
  clear hq
  refine hC.mono ?_
  rintro e W1 ⟨rfl, t1⟩
  have T1 := Lib.hid t1
  have G1 := Lib.hid (t1.keep HG.out hgp)
  clear t1 hC HC
  have HE := HQ
  have e6 : W1.cell? ⟨g, 6, none⟩ = some (str x.input) := G1.out.cell 6
  have f6 : W1.frozen? ⟨g, 6, none⟩ = false := G1.out.frozen 6
  have KF := Lib.hid (G1.out.set_ 6 (str q1.1))
  have BF := Lib.hid (Blk.far T1.out.blk (p := ⟨g, 6, none⟩) (fun e => hgp e.symm) (str q1.1))
  have CF := Lib.hid (Chg.setCell (T1.out.chg.mono (T := fun k => k = p ∨ k = g) (fun k _ hk => Or.inl hk)) (p := ⟨g, 6, none⟩) (.inl (.inr rfl)) (str q1.1))
  go_wp2
  refine bodyPost_end (results_none rfl _ _ _) rfl ?_
  rw [HE.out]
  exact ⟨rfl, BF.out, KF.out, CF.out⟩
theorem po_4 (p c g : Nat) (t : TypeId) (r : Rd) (x : Opr) (W : World) (hc : Blk W c t #[.pointer (some ⟨p, 0, none⟩)]) (hgp : g ≠ p) (hg : Blk W g 48 (cOpr x).toArray) (h : RdAt W p r) (hl : r.1.length ≤ 1000000) :
    Calls Tryz.prog 149 #[.pointer (some ⟨c, 0, none⟩), .pointer (some ⟨g, 0, none⟩)] W fun u W' => u = .returned (.tuple #[]) ∧ OpTo p g W W' (setsR r).2 { x with rights := (setsR r).1 } := by
  have c0 : W.cell? ⟨c, 0, none⟩ = some (.pointer (some ⟨p, 0, none⟩)) := hc.cell 0
  have HG := Lib.hid hg
  have HH := Lib.hid h
  have HC := Lib.hid (rd_sets p r W h hl)
  clear hc hg h hl
  go_enter Tryz.func149, Tryz.ntmps149
  go_wp2_with fail
  have hC := HC.out
  obtain ⟨q1, hq⟩ : ∃ q, setsR r = q := ⟨_, rfl⟩
  rw [hq] at hC
  have HQ := Lib.hid hq
  clear hq
  refine hC.mono ?_
  rintro e W1 ⟨rfl, t1⟩
  have T1 := Lib.hid t1
  have G1 := Lib.hid (t1.keep HG.out hgp)
  clear t1 hC HC
  have HE := HQ
  have e7 : W1.cell? ⟨g, 7, none⟩ = some (.int .u64 x.rights.rd) := G1.out.cell 7
  have f7 : W1.frozen? ⟨g, 7, none⟩ = false := G1.out.frozen 7
  have e8 : W1.cell? ⟨g, 8, none⟩ = some (.int .u64 x.rights.wr) := G1.out.cell 8
  have f8 : W1.frozen? ⟨g, 8, none⟩ = false := G1.out.frozen 8
  have e9 : W1.cell? ⟨g, 9, none⟩ = some (.int .u64 x.rights.ow) := G1.out.cell 9
  have f9 : W1.frozen? ⟨g, 9, none⟩ = false := G1.out.frozen 9
  have KF := Lib.hid (((G1.out.set_ 7 (.int .u64 q1.1.rd)).set_ 8 (.int .u64 q1.1.wr)).set_ 9 (.int .u64 q1.1.ow))
  have BF := Lib.hid (Blk.far (Blk.far (Blk.far T1.out.blk (p := ⟨g, 7, none⟩) (fun e => hgp e.symm) (.int .u64 q1.1.rd)) (p := ⟨g, 8, none⟩) (fun e => hgp e.symm) (.int .u64 q1.1.wr)) (p := ⟨g, 9, none⟩) (fun e => hgp e.symm) (.int .u64 q1.1.ow))
  have CF := Lib.hid (Chg.setCell (Chg.setCell (Chg.setCell (T1.out.chg.mono (T := fun k => k = p ∨ k = g) (fun k _ hk => Or.inl hk)) (p := ⟨g, 7, none⟩) (.inl (.inr rfl)) (.int .u64 q1.1.rd)) (p := ⟨g, 8, none⟩) (.inl (.inr rfl)) (.int .u64 q1.1.wr)) (p := ⟨g, 9, none⟩) (.inl (.inr rfl)) (.int .u64 q1.1.ow))
  go_wp2
  refine bodyPost_end (results_none rfl _ _ _) rfl ?_
  rw [HE.out]
  exact ⟨rfl, BF.out, KF.out, CF.out⟩
theorem po_5 (p c g : Nat) (t : TypeId) (r : Rd) (x : Opr) (W : World) (hc : Blk W c t #[.pointer (some ⟨p, 0, none⟩)]) (hgp : g ≠ p) (hg : Blk W g 48 (cOpr x).toArray) (h : RdAt W p r) (hl : r.1.length ≤ 1000000) :
    Calls Tryz.prog 150 #[.pointer (some ⟨c, 0, none⟩), .pointer (some ⟨g, 0, none⟩)] W fun u W' => u = .returned (.tuple #[]) ∧ OpTo p g W W' (u8R r).2 { x with fns := (u8R r).1 } := by
  have c0 : W.cell? ⟨c, 0, none⟩ = some (.pointer (some ⟨p, 0, none⟩)) := hc.cell 0
  have HG := Lib.hid hg
  have HH := Lib.hid h
  have HC := Lib.hid (rd_u8 p r W h hl)
  clear hc hg h hl
  go_enter Tryz.func150, Tryz.ntmps150
  go_wp2_with fail
  have hC := HC.out
  obtain ⟨q1, hq⟩ : ∃ q, numR r = q := ⟨_, rfl⟩
  rw [hq] at hC
  have HQ := Lib.hid hq
  clear hq
  refine hC.mono ?_
  rintro e W1 ⟨rfl, t1⟩
  have T1 := Lib.hid t1
  have G1 := Lib.hid (t1.keep HG.out hgp)
  clear t1 hC HC
  generalize hx : ((q1.1 % 256 : Nat) : Int) = v1
  have HE := Lib.hid (u8R_q HQ.out hx)
  clear hx
  have e10 : W1.cell? ⟨g, 10, none⟩ = some (.int .u8 x.fns) := G1.out.cell 10
  have f10 : W1.frozen? ⟨g, 10, none⟩ = false := G1.out.frozen 10
  have KF := Lib.hid (G1.out.set_ 10 (.int .u8 v1))
  have BF := Lib.hid (Blk.far T1.out.blk (p := ⟨g, 10, none⟩) (fun e => hgp e.symm) (.int .u8 v1))
  have CF := Lib.hid (Chg.setCell (T1.out.chg.mono (T := fun k => k = p ∨ k = g) (fun k _ hk => Or.inl hk)) (p := ⟨g, 10, none⟩) (.inl (.inr rfl)) (.int .u8 v1))
  go_wp2
  refine bodyPost_end (results_none rfl _ _ _) rfl ?_
  rw [HE.out]
  exact ⟨rfl, BF.out, KF.out, CF.out⟩
theorem po_6 (p c g : Nat) (t : TypeId) (r : Rd) (x : Opr) (W : World) (hc : Blk W c t #[.pointer (some ⟨p, 0, none⟩)]) (hgp : g ≠ p) (hg : Blk W g 48 (cOpr x).toArray) (h : RdAt W p r) (hl : r.1.length ≤ 1000000) :
    Calls Tryz.prog 151 #[.pointer (some ⟨c, 0, none⟩), .pointer (some ⟨g, 0, none⟩)] W fun u W' => u = .returned (.tuple #[]) ∧ OpTo p g W W' (u64R r).2 { x with to_ := (u64R r).1 } := by
  have c0 : W.cell? ⟨c, 0, none⟩ = some (.pointer (some ⟨p, 0, none⟩)) := hc.cell 0
  have HG := Lib.hid hg
  have HH := Lib.hid h
  have HC := Lib.hid (rd_u64 p r W h hl)
  clear hc hg h hl
  go_enter Tryz.func151, Tryz.ntmps151
  go_wp2_with fail
  have hC := HC.out
  obtain ⟨q1, hq⟩ : ∃ q, numR r = q := ⟨_, rfl⟩
  rw [hq] at hC
  have HQ := Lib.hid hq
  clear hq
  refine hC.mono ?_
  rintro e W1 ⟨rfl, t1⟩
  have T1 := Lib.hid t1
  have G1 := Lib.hid (t1.keep HG.out hgp)
  clear t1 hC HC
  generalize hx : ((q1.1 : Nat) : Int) = v1
  have HE := Lib.hid (u64R_q HQ.out hx)
  clear hx
  have e11 : W1.cell? ⟨g, 11, none⟩ = some (.int .u64 x.to_) := G1.out.cell 11
  have f11 : W1.frozen? ⟨g, 11, none⟩ = false := G1.out.frozen 11
  have KF := Lib.hid (G1.out.set_ 11 (.int .u64 v1))
  have BF := Lib.hid (Blk.far T1.out.blk (p := ⟨g, 11, none⟩) (fun e => hgp e.symm) (.int .u64 v1))
  have CF := Lib.hid (Chg.setCell (T1.out.chg.mono (T := fun k => k = p ∨ k = g) (fun k _ hk => Or.inl hk)) (p := ⟨g, 11, none⟩) (.inl (.inr rfl)) (.int .u64 v1))
  go_wp2
  refine bodyPost_end (results_none rfl _ _ _) rfl ?_
  rw [HE.out]
  exact ⟨rfl, BF.out, KF.out, CF.out⟩
theorem po_7 (p c g : Nat) (t : TypeId) (r : Rd) (x : Opr) (W : World) (hc : Blk W c t #[.pointer (some ⟨p, 0, none⟩)]) (hgp : g ≠ p) (hg : Blk W g 48 (cOpr x).toArray) (h : RdAt W p r) (hl : r.1.length ≤ 1000000) :
    Calls Tryz.prog 152 #[.pointer (some ⟨c, 0, none⟩), .pointer (some ⟨g, 0, none⟩)] W fun u W' => u = .returned (.tuple #[]) ∧ OpTo p g W W' (intR r).2 { x with index := (intR r).1 } := by
  have c0 : W.cell? ⟨c, 0, none⟩ = some (.pointer (some ⟨p, 0, none⟩)) := hc.cell 0
  have HG := Lib.hid hg
  have HH := Lib.hid h
  have HC := Lib.hid (rd_int p r W h hl)
  clear hc hg h hl
  go_enter Tryz.func152, Tryz.ntmps152
  go_wp2_with fail
  have hC := HC.out
  obtain ⟨q1, hq⟩ : ∃ q, numR r = q := ⟨_, rfl⟩
  rw [hq] at hC
  have HQ := Lib.hid hq
  clear hq
  refine hC.mono ?_
  rintro e W1 ⟨rfl, t1⟩
  have T1 := Lib.hid t1
  have G1 := Lib.hid (t1.keep HG.out hgp)
  clear t1 hC HC
  generalize hx : wrapI q1.1 = v1
  have HE := Lib.hid (intR_q HQ.out hx)
  clear hx
  have e12 : W1.cell? ⟨g, 12, none⟩ = some (.int .i64 x.index) := G1.out.cell 12
  have f12 : W1.frozen? ⟨g, 12, none⟩ = false := G1.out.frozen 12
  have KF := Lib.hid (G1.out.set_ 12 (.int .i64 v1))
  have BF := Lib.hid (Blk.far T1.out.blk (p := ⟨g, 12, none⟩) (fun e => hgp e.symm) (.int .i64 v1))
  have CF := Lib.hid (Chg.setCell (T1.out.chg.mono (T := fun k => k = p ∨ k = g) (fun k _ hk => Or.inl hk)) (p := ⟨g, 12, none⟩) (.inl (.inr rfl)) (.int .i64 v1))
  go_wp2
  refine bodyPost_end (results_none rfl _ _ _) rfl ?_
  rw [HE.out]
  exact ⟨rfl, BF.out, KF.out, CF.out⟩
@[go_sem] theorem run_store_fn {P : Program} {w : World} {a : Addr} {m : Mode} (f : Fn) (x y : Array Value) : (store a (.func f x y) m).run P w = stored P w a (.func f x y) m := run_store P w a _ m rfl
/-- One more bit, from below. -/
theorem bits_low (m : Int) (i : Nat) (hi : i ≤ 10) (h0 : 0 ≤ m) (h1 : m < 2 ^ i) : bits .or .i64 m (2 ^ i) = m + 2 ^ i := by
  have hk : ∀ n : Int, 0 ≤ n → n < 2 ^ 12 → IntKind.i64.wrap n = n := fun n h₀ h₁ => by rw [IntKind.wrap_i64]; omega
  have hp : (2 : Int) ^ i < 2 ^ 12 := by
    have : i = 0 ∨ i = 1 ∨ i = 2 ∨ i = 3 ∨ i = 4 ∨ i = 5 ∨ i = 6 ∨ i = 7 ∨ i = 8 ∨ i = 9 ∨ i = 10 := by omega
    rcases this with rfl | rfl | rfl | rfl | rfl | rfl | rfl | rfl | rfl | rfl | rfl <;> decide
  have hp0 : (0 : Int) ≤ 2 ^ i := Int.le_of_lt (Int.pow_pos (by decide))
  have hc : bits .or .i64 m (2 ^ i) = bits .or .i64 (2 ^ i) m := by
    obtain ⟨a, rfl⟩ := Int.eq_ofNat_of_zero_le h0
    have ha : a < 2 ^ 12 := by
      have : ((a : Nat) : Int) < 2 ^ 12 := by omega
      exact_mod_cast this
    have hb : 2 ^ i < 2 ^ 12 := by exact_mod_cast hp
    have e : ((2 : Int) ^ i) = ((2 ^ i : Nat) : Int) := by simp
    rw [e, (bits_nat .i64 12 (by decide) hk a _ ha hb).2, (bits_nat .i64 12 (by decide) hk _ a hb ha).2, Nat.or_comm]
  rw [hc, bits_join .i64 12 (by decide) hk i _ m hp0 (Int.emod_self) hp h0 h1 (by omega)]
  omega
theorem maskN_take : ∀ (l : List (Bool × Bytes)) (k : Nat) (b : Bool) (s : Bytes), l[k]? = some (b, s) → maskN (l.take (k + 1)) = maskN (l.take k) + if b then 2 ^ k else 0
  | [], k, b, s, h => by simp at h
  | (c, t) :: l, 0, b, s, h => by
      simp at h
      obtain ⟨rfl, rfl⟩ := h
      cases c <;> simp [maskN]
  | (c, t) :: l, k + 1, b, s, h => by
      have ih := maskN_take l k b s (by simpa using h)
      rw [List.take_succ_cons, List.take_succ_cons]
      simp only [maskN]
      rw [ih]
      cases b
      · simp
      · simp only [if_true]
        rw [Int.pow_succ]
        omega
theorem maskN_lt : ∀ l : List (Bool × Bytes), 0 ≤ maskN l ∧ maskN l < 2 ^ l.length
  | [] => by simp [maskN]
  | (c, t) :: l => by
      have ih := maskN_lt l
      simp only [maskN, List.length_cons]
      rw [Int.pow_succ]
      cases c <;> simp <;> omega
/-- The mask and the bytes of the first k fields. -/
def mkN (x : Opr) (k : Nat) : Int := maskN ((oprF x).take k)
def mkS (x : Opr) (k : Nat) : Bytes := ((oprF x).take k).flatMap fun p => if p.1 then p.2 else []
theorem mk_true (x : Opr) (k : Nat) (s : Bytes) (hk : k ≤ 10) (h : (oprF x)[k]? = some (true, s)) : bits .or .i64 (mkN x k) (2 ^ k) = mkN x (k + 1) ∧ mkS x (k + 1) = mkS x k ++ s := by
  have hl : k < (oprF x).length := (List.getElem?_eq_some_iff.1 h).1
  refine ⟨?_, ?_⟩
  · have hb := maskN_lt ((oprF x).take k)
    rw [List.length_take, Nat.min_eq_left (by omega)] at hb
    unfold mkN
    rw [bits_low _ _ hk hb.1 hb.2, maskN_take _ _ _ _ h, if_pos rfl]
  · unfold mkS
    rw [List.take_add_one, h]
    simp
theorem mk_false (x : Opr) (k : Nat) (s : Bytes) (h : (oprF x)[k]? = some (false, s)) : mkN x (k + 1) = mkN x k ∧ mkS x (k + 1) = mkS x k := by
  refine ⟨?_, ?_⟩
  · unfold mkN
    rw [maskN_take _ _ _ _ h]
    simp
  · unfold mkS
    rw [List.take_add_one, h]
    simp
theorem mk_len (x : Opr) (hi : x.input.length ≤ 1000000) (k : Nat) : (mkS x k).length ≤ 2000000 := by
  have n1 := numI_le x.user
  have n2 := numI_le x.rect.c1
  have n3 := numI_le x.rect.r1
  have n4 := numI_le x.rect.c2
  have n5 := numI_le x.rect.r2
  have n6 := numI_le x.input.length
  have n7 := numI_le x.rights.rd
  have n8 := numI_le x.rights.wr
  have n9 := numI_le x.rights.ow
  have n10 := numI_le x.fns
  have n11 := numI_le x.to_
  have n12 := numI_le x.index
  have hq : ∀ (l : List (Bool × Bytes)) (k : Nat), ((l.take k).flatMap fun p => if p.1 then p.2 else []).length ≤ (l.map fun p => p.2.length).sum := by
    intro l
    induction l with
    | nil => intro k; simp
    | cons p l ih =>
      intro k
      rcases k with _ | k
      · simp
      · have := ih k
        obtain ⟨b, s⟩ := p
        rw [List.take_succ_cons, List.flatMap_cons, List.length_append, List.map_cons, List.sum_cons]
        cases b <;> simp at this ⊢ <;> omega
  have := hq (oprF x) k
  unfold mkS
  simp only [oprF, cornB, textB, setsB, List.map_cons, List.map_nil, List.length_append, List.sum_cons, List.sum_nil] at this
  unfold oprF
  simp only [cornB, textB, setsB]
  omega
theorem Out.chg {S : Nat → Prop} {w w' : World} {v : Value} {l : Bytes} (h : Out w v l) (hb : Chg S w w') (hv : ∀ q, v.ownBlock = some q → ¬ S q) : Out w' v l := by
  rcases hq : v.ownBlock with _ | q
  · rcases h.2 with ⟨rfl, he⟩ | ⟨g, cap, cur, rfl, _⟩
    · exact ⟨h.1, .inl ⟨rfl, he⟩⟩
    · simp [Value.ownBlock] at hq
  · obtain ⟨h1, h2⟩ := h
    refine ⟨h1, ?_⟩
    rcases h2 with ⟨rfl, he⟩ | ⟨g, cap, cur, rfl, hb0, hg, hr⟩
    · exact .inl ⟨rfl, he⟩
    · have e1 : g = q := by simpa [Value.ownBlock] using hq
      have hlt : g < w.heap.size := (World.ownsRow.lt (v := .slice (some ⟨g, 0, none⟩) l.length cap) ⟨h1, .inr ⟨g, cap, cur, rfl, hb0, hg, hr⟩⟩ g rfl).2
      exact .inr ⟨g, cap, cur, rfl, hb0, (hb.block g hlt (hv g (by simp [Value.ownBlock]))).trans hg, hr⟩
theorem Out.outTo {w w' : World} {v u u' : Value} {l : Bytes} (h : Out w v l) (hb : OutTo w u w' u') (hv : ∀ q, v.ownBlock = some q → u.ownBlock ≠ some q) : Out w' v l := h.chg hb.chg hv
/-- Bytes behind bytes: both the call's own, each in a block of its own. -/
theorem run_outs (w : World) (t ty : TypeId) (i : TypeInfo) (ht : Tryz.prog.underlying t = some (.slice 5)) (hi : Tryz.prog.info? 5 = some i) (hz : i.zero = some (.int .u8 0)) (hsize : i.size = 1) (hby : i.bytes = 1)
    (v : Value) (l : Bytes) (hown : Out w v l) (v2 : Value) (l2 : Bytes) (h2 : Out w v2 l2) (hn : l.length + l2.length ≤ 1000000000) :
    ∃ v' w', (Builtin.append_ #[t, t] ty #[v, v2]).run Tryz.prog w = .ok v' w' ∧ Out w' v' (l ++ l2) ∧ OutTo w v w' v' := by
  rcases h2.2 with ⟨rfl, he⟩ | ⟨g, cp, cur, rfl, hb0, hg, hnc, hcm, hcs, htake⟩
  · have h0 : l2 = [] := List.eq_nil_of_length_eq_zero he
    subst h0
    rw [List.append_nil]
    refine ⟨v, w, ?_, hown, OutTo.refl _ _⟩
    rcases hown.2 with ⟨rfl, he⟩ | ⟨g, cp, cur, rfl, hb0, hg, hnc, hcm, hcs, htake⟩
    · simp [Builtin.append_, run_underlying ht, sizeOf, typeInfo, hi, Builtin.lenOf, Builtin.firstCells]
    · simp [Builtin.append_, run_underlying ht, sizeOf, typeInfo, hi, Builtin.lenOf, Builtin.firstCells, hnc, storeCells]
  · obtain ⟨v', w', hr, k2, h3, _, h5⟩ := run_append_own_at (P := Tryz.prog) w 0 t ty 5 i (.int .u8 0) 1 1 ht hi hz hsize hby rfl (by omega) v l.length (u8s l) hown ⟨g, 0, none⟩ l2.length cp (u8s l2) (by rw [u8s_len]; omega)
      (fun j u hj => World.ownsRow.cells h2 (g := g) rfl j u hj)
      (u8s_one l2) (by unfold maxLen; omega) (by omega) (by omega)
    refine ⟨v', w', hr, ?_, ⟨⟨h3.os, h3.tape, h3.output, h3.size, fun k hk hs => h3.block k hk (fun e => hs e.symm)⟩, fun k hk => ?_⟩⟩
    · show w'.ownsRow 0 5 1 v' (l ++ l2).length (u8s (l ++ l2))
      rw [List.length_append, u8s_app]
      exact k2
    · rcases h5 with h5 | h5
      · exact .inl (h5 ▸ hk)
      · rw [h5] at hk
        exact .inr (by simp at hk; omega)
/-- One field more of an operation, if the mask's bit is set. -/
def nxO (m : Nat) : Nat → Opr × Rd → Opr × Rd
  | 0, s => ({ s.1 with user := (ifR (bitR m 0) s.1.user intR s.2).1 }, (ifR (bitR m 0) s.1.user intR s.2).2)
  | 1, s => ({ s.1 with rect := (ifR (bitR m 1) s.1.rect cornR s.2).1 }, (ifR (bitR m 1) s.1.rect cornR s.2).2)
  | 2, s => ({ s.1 with input := (ifR (bitR m 2) s.1.input textR s.2).1 }, (ifR (bitR m 2) s.1.input textR s.2).2)
  | 3, s => ({ s.1 with rights := (ifR (bitR m 3) s.1.rights setsR s.2).1 }, (ifR (bitR m 3) s.1.rights setsR s.2).2)
  | 4, s => ({ s.1 with fns := (ifR (bitR m 4) s.1.fns u8R s.2).1 }, (ifR (bitR m 4) s.1.fns u8R s.2).2)
  | 5, s => ({ s.1 with to_ := (ifR (bitR m 5) s.1.to_ u64R s.2).1 }, (ifR (bitR m 5) s.1.to_ u64R s.2).2)
  | 6, s => ({ s.1 with index := (ifR (bitR m 6) s.1.index intR s.2).1 }, (ifR (bitR m 6) s.1.index intR s.2).2)
  | _, s => s
def stO (kd : Int) (m : Nat) (r : Rd) : Nat → Opr × Rd
  | 0 => (⟨kd, 0, ⟨0, 0, 0, 0⟩, [], ⟨0, 0, 0⟩, 0, 0, 0⟩, r)
  | k + 1 => nxO m k (stO kd m r k)
theorem oprR_st (r : Rd) : oprR r = stO (u8R r).1 (numR (u8R r).2).1 (numR (u8R r).2).2 7 := by
  unfold oprR
  simp only [stO, nxO]
theorem ifR_len {α : Type} (b : Bool) (z : α) (f : Rd → α × Rd) (r : Rd) (hf : (f r).2.1.length ≤ r.1.length) : (ifR b z f r).2.1.length ≤ r.1.length := by
  unfold ifR
  cases b
  · exact Nat.le_refl _
  · exact hf
theorem nxO_len (m k : Nat) (s : Opr × Rd) : (nxO m k s).2.1.length ≤ s.2.1.length := by
  match k with
  | 0 =>
    simp only [nxO]
    exact ifR_len (bitR m 0) s.1.user intR s.2 (numR_len _)
  | 1 =>
    simp only [nxO]
    exact ifR_len (bitR m 1) s.1.rect cornR s.2 (cornR_len _)
  | 2 =>
    simp only [nxO]
    exact ifR_len (bitR m 2) s.1.input textR s.2 (textR_len s.2)
  | 3 =>
    simp only [nxO]
    exact ifR_len (bitR m 3) s.1.rights setsR s.2 (setsR_len _)
  | 4 =>
    simp only [nxO]
    exact ifR_len (bitR m 4) s.1.fns u8R s.2 (numR_len _)
  | 5 =>
    simp only [nxO]
    exact ifR_len (bitR m 5) s.1.to_ u64R s.2 (numR_len _)
  | 6 =>
    simp only [nxO]
    exact ifR_len (bitR m 6) s.1.index intR s.2 (numR_len _)
  | k + 7 => exact Nat.le_refl _
theorem stO_len (kd : Int) (m : Nat) (r : Rd) : ∀ k, (stO kd m r k).2.1.length ≤ r.1.length
  | 0 => Nat.le_refl _
  | k + 1 => Nat.le_trans (nxO_len m k _) (stO_len kd m r k)
theorem nx_true0 {m : Nat} {x : Opr} {r : Rd} (h : bitR m 0 = true) : nxO m 0 (x, r) = ({ x with user := (intR r).1 }, (intR r).2) := by simp only [nxO, ifR, h, if_true]
theorem nx_false0 {m : Nat} {x : Opr} {r : Rd} (h : bitR m 0 = false) : nxO m 0 (x, r) = (x, r) := by simp [nxO, ifR, h]
theorem nx_true1 {m : Nat} {x : Opr} {r : Rd} (h : bitR m 1 = true) : nxO m 1 (x, r) = ({ x with rect := (cornR r).1 }, (cornR r).2) := by simp only [nxO, ifR, h, if_true]
theorem nx_false1 {m : Nat} {x : Opr} {r : Rd} (h : bitR m 1 = false) : nxO m 1 (x, r) = (x, r) := by simp [nxO, ifR, h]
theorem nx_true2 {m : Nat} {x : Opr} {r : Rd} (h : bitR m 2 = true) : nxO m 2 (x, r) = ({ x with input := (textR r).1 }, (textR r).2) := by simp only [nxO, ifR, h, if_true]
theorem nx_false2 {m : Nat} {x : Opr} {r : Rd} (h : bitR m 2 = false) : nxO m 2 (x, r) = (x, r) := by simp [nxO, ifR, h]
theorem nx_true3 {m : Nat} {x : Opr} {r : Rd} (h : bitR m 3 = true) : nxO m 3 (x, r) = ({ x with rights := (setsR r).1 }, (setsR r).2) := by simp only [nxO, ifR, h, if_true]
theorem nx_false3 {m : Nat} {x : Opr} {r : Rd} (h : bitR m 3 = false) : nxO m 3 (x, r) = (x, r) := by simp [nxO, ifR, h]
theorem nx_true4 {m : Nat} {x : Opr} {r : Rd} (h : bitR m 4 = true) : nxO m 4 (x, r) = ({ x with fns := (u8R r).1 }, (u8R r).2) := by simp only [nxO, ifR, h, if_true]
theorem nx_false4 {m : Nat} {x : Opr} {r : Rd} (h : bitR m 4 = false) : nxO m 4 (x, r) = (x, r) := by simp [nxO, ifR, h]
theorem nx_true5 {m : Nat} {x : Opr} {r : Rd} (h : bitR m 5 = true) : nxO m 5 (x, r) = ({ x with to_ := (u64R r).1 }, (u64R r).2) := by simp only [nxO, ifR, h, if_true]
theorem nx_false5 {m : Nat} {x : Opr} {r : Rd} (h : bitR m 5 = false) : nxO m 5 (x, r) = (x, r) := by simp [nxO, ifR, h]
theorem nx_true6 {m : Nat} {x : Opr} {r : Rd} (h : bitR m 6 = true) : nxO m 6 (x, r) = ({ x with index := (intR r).1 }, (intR r).2) := by simp only [nxO, ifR, h, if_true]
theorem nx_false6 {m : Nat} {x : Opr} {r : Rd} (h : bitR m 6 = false) : nxO m 6 (x, r) = (x, r) := by simp [nxO, ifR, h]
theorem bits_and1 (y : Int) : bits .and .i64 y 1 = y % 2 := by
  show IntKind.i64.wrap (((BitVec.ofInt 64 y &&& BitVec.ofInt 64 1).toNat : Nat) : Int) = y % 2
  rw [BitVec.toNat_and, BitVec.toNat_ofInt, show (BitVec.ofInt 64 1).toNat = 1 by decide, Nat.and_one_is_mod, IntKind.wrap_i64]
  omega
theorem bit_0 (m : Nat) : bits .and .i64 (wrapI m) 1 = if bitR m 0 = true then 1 else 0 := by
  rw [bits_and1]
  unfold wrapI bitR
  simp only [decide_eq_true_eq]
  split <;> omega
theorem bit_1 (m : Nat) : bits .and .i64 (wrapI m / 2) 1 = if bitR m 1 = true then 1 else 0 := by
  rw [bits_and1]
  unfold wrapI bitR
  simp only [decide_eq_true_eq]
  split <;> omega
theorem bit_2 (m : Nat) : bits .and .i64 (wrapI m / 4) 1 = if bitR m 2 = true then 1 else 0 := by
  rw [bits_and1]
  unfold wrapI bitR
  simp only [decide_eq_true_eq]
  split <;> omega
theorem bit_3 (m : Nat) : bits .and .i64 (wrapI m / 8) 1 = if bitR m 3 = true then 1 else 0 := by
  rw [bits_and1]
  unfold wrapI bitR
  simp only [decide_eq_true_eq]
  split <;> omega
theorem bit_4 (m : Nat) : bits .and .i64 (wrapI m / 16) 1 = if bitR m 4 = true then 1 else 0 := by
  rw [bits_and1]
  unfold wrapI bitR
  simp only [decide_eq_true_eq]
  split <;> omega
theorem bit_5 (m : Nat) : bits .and .i64 (wrapI m / 32) 1 = if bitR m 5 = true then 1 else 0 := by
  rw [bits_and1]
  unfold wrapI bitR
  simp only [decide_eq_true_eq]
  split <;> omega
theorem bit_6 (m : Nat) : bits .and .i64 (wrapI m / 64) 1 = if bitR m 6 = true then 1 else 0 := by
  rw [bits_and1]
  unfold wrapI bitR
  simp only [decide_eq_true_eq]
  split <;> omega
end Go.Proofs.YtamcgggmfghljaaGreatDoor
